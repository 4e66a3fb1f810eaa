/- cutter: take, the other paths. (Written by ctkgen.py.) -/
import Derived.Test.YtinlfoblpgpikaaZ2
namespace Go.Proofs.Ytinlfoblpgpikaa
open Go.RowKit Go.Shelf Go.Proofs.YtinlfoblpgpikaaW.PrintWords Go.Proofs.YtinlfoblpgpikaaW.PrintLast Go.Proofs.YtinlfoblpgpikaaW.PrintMore Go.Proofs.Ytinlfoblpgpikaa.Pr
set_option linter.unusedVariables false
set_option linter.unusedSimpArgs false
attribute [-go_sem] Builtin.append_
set_option maxRecDepth 100000 in
set_option maxHeartbeats 4000000 in
theorem take_p2 (base : Nat) (W0 : World) (S0 : Nat → Prop) (Z : List (Nat × Obj)) (W : World) (Bm : Nat) (s d x : Value) (dl xl : List Int) (pos sz at0 at_ b : Int) (dn : List S82) (f0 f1 : Int) (any : Bool)
    (h : Mq base W0 S0 Z W W Bm s d x (dn ++ [⟨f0, f1, 0⟩]) dl xl ⟨pos, sz, at0, any⟩) (hd : dl.length ≤ 70000) (hx : xl.length ≤ 70000) (hs : 0 ≤ sz ∧ sz ≤ 70000) (hat : -1152921504606846976 ≤ at_ ∧ at_ ≤ 1152921504606846976) (hn : dn.length ≤ 70000) (hc : 0 ≤ f1 ∧ f1 ≤ 70000) :
    Calls Try.prog 42 #[.pointer (some ⟨Bm, 0, none⟩), .agg #[.bool false, .int .i64 at_, .int .u8 b]] W (fun e w' => e = .returned (.tuple #[]) ∧ ∃ s d x, Mq base W0 S0 Z W w' Bm s d x (dn ++ [⟨f0, f1 + 1, 0⟩]) dl (xl ++ [b]) ⟨pos, sz + 1, at0, any⟩) := by
  obtain ⟨g, cp, rfl⟩ := h.form
  have hl0 : ((dn.length : Int) + 1 == 0) = false := by rw [beq_eq_false_iff_ne]; omega
  have hw2 : (0 : Int) ≤ (dn.length : Int) := by omega
  have hw3 : (dn.length : Int) < (dn.length : Int) + 1 := by omega
  have hw1 : wrap64 (dn.length : Int) = (dn.length : Int) := w64 _ (by omega)
  have h1 := h.add (.cells #[.bool false, .int .i64 at_, .int .u8 b] 91)
  clear h
  have hbm : Bm ≠ W.heap.size := by have := h1.bmlt; have := (h1.z _ List.mem_cons_self).2; intro e; exact this (.inl e.symm)
  have H2 := Hd.mk (h1.setSz (sz + 1))
  obtain ⟨m80, m81, m82, m83, m84, m85, m86⟩ := h1.cells
  obtain ⟨r80, r81, r82, r83, r84, r85, r86⟩ := h1.froz
  obtain ⟨z80, z81, z82⟩ := h1.box
  simp only at m80 m81 m82 m83 m84 m85 m86
  have H1 := Hd.mk h1
  clear h1
  go_enter Try.func42, Try.ntmps42
  go_upto_region 3 with fail
  clear m80 m81 m82 m83 m84 m85 m86 r80 r81 r82 r83 r84 r85 r86 z80 z81 z82
  obtain ⟨W2, hW2⟩ : ∃ w_, (W.alloc (.cells #[.bool false, .int .i64 at_, .int .u8 b] 91)).setCell ⟨Bm, 4, none⟩ (.int .i64 (sz + 1)) = w_ := ⟨_, rfl⟩
  rw [hW2] at H2 ⊢
  clear hW2 H1
  simp only at H2
  obtain ⟨m90, m91, m92, m93, m94, m95, m96⟩ := H2.out.cells
  obtain ⟨r90, r91, r92, r93, r94, r95, r96⟩ := H2.out.froz
  obtain ⟨z90, z91, z92⟩ := H2.out.box
  simp only at m90 m91 m92 m93 m94 m95 m96
  clear m90 m91 m92 m93 m94 m95 m96 r90 r91 r92 r93 r94 r95 r96 z90 z91 z92
  obtain ⟨m100, m101, m102, m103, m104, m105, m106⟩ := H2.out.cells
  obtain ⟨r100, r101, r102, r103, r104, r105, r106⟩ := H2.out.froz
  obtain ⟨z100, z101, z102⟩ := H2.out.box
  simp only at m100 m101 m102 m103 m104 m105 m106
  obtain ⟨g100, h100⟩ := H2.out.at_ 0 (by omega)
  obtain ⟨g101, h101⟩ := H2.out.at_ 1 (by omega)
  obtain ⟨g102, h102⟩ := H2.out.at_ 2 (by omega)
  simp only [getf] at g100 g101 g102
  simp only [Nat.add_zero] at g100 h100
  have HP := Hd.mk (H2.out.poke 1 (by omega) (f1 + 1))
  simp only [setf] at HP
  clear H2
  go_upto_region 9 with fail
  clear m100 m101 m102 m103 m104 m105 m106 r100 r101 r102 r103 r104 r105 r106 z100 z101 z102 g100 h100 g101 h101 g102 h102
  obtain ⟨W5, hW5⟩ : ∃ w_, W2.setCell ⟨g, dn.length * 3 + 1, none⟩ (.int .i64 (f1 + 1)) = w_ := ⟨_, rfl⟩
  rw [hW5] at HP ⊢
  clear hW5
  have hd9 := HP.out.below (Below.drew' W5)
  have c2 : W5.drew.cell? ⟨Bm, 3, none⟩ = some x := hd9.cells.2.2.2.1
  have z2 := hd9.box.2.2
  obtain ⟨A, cx, w9, hrun, hb9, hq⟩ := hd9.newX b (by omega)
  have hba := Hd.mk ((Below.refl W5.drew.heap.size W5.drew).alloc (Nat.le_refl _) (.cells #[.int .u8 b] 5))
  have hrun2 : (Builtin.append_ #[24, 24] 24 #[x, .slice (some ⟨W5.heap.size, 0, none⟩) 1 1]).run Try.prog ((W5.alloc (.cells #[.int .u8 b] 5)).drew) = .ok (.slice A (xl.length + 1) cx) w9 := hrun
  clear hrun
  have e2 : w9.cell? ⟨Bm, 3, none⟩ = some x := (blk_cell hb9 3).trans rfl
  have f2 := blk_frozen hb9 3
  have HQ := Hd.mk hq
  clear hd9 hb9 hq HP
  refine start_ (n := 12) (S := fun w' => w'.cell? ⟨Bm, 3, none⟩ = some x ∧ w'.cell? ⟨W.heap.size, 2, none⟩ = some (.int .u8 b)) (ds := [8, 11]) #[false, false, false, false, false, false, false, false, false, false, false, false] (by kernel_rfl) rfl rfl ⟨c2, z2⟩ (fun hHeld => ?_)
  refine pure_ (i := 0) (N := some 51) (v := ?_) (a' := ?_) #[true, false, false, false, false, false, false, false, false, false, false, false] rfl rfl (by kernel_rfl) (fun _ _ _ h => h) (Or.inl ⟨by rfl, ?_⟩) ?_ ?_
  rotate_left
  · intro w'
    go_simp
    with_reducible rfl
  rotate_left
  · simp only [Act.put, List.setIfInBounds_toArray, List.set_cons_zero, List.set_cons_succ, i64_w, i32_w]
    rfl
  refine pure_ (i := 1) (N := some 52) (v := ?_) (a' := ?_) #[true, true, false, false, false, false, false, false, false, false, false, false] rfl rfl (by kernel_rfl) (fun _ _ _ h => h) (Or.inl ⟨by rfl, ?_⟩) ?_ ?_
  rotate_left
  · intro w'
    go_simp
    with_reducible rfl
  rotate_left
  · simp only [Act.put, List.setIfInBounds_toArray, List.set_cons_zero, List.set_cons_succ, i64_w, i32_w]
    rfl
  refine pure_ (i := 2) (N := some 53) (v := ?_) (a' := ?_) #[true, true, true, false, false, false, false, false, false, false, false, false] rfl rfl (by kernel_rfl) (fun _ _ _ h => h) (Or.inl ⟨by rfl, ?_⟩) ?_ ?_
  rotate_left
  · intro w'
    go_simp
    with_reducible rfl
  rotate_left
  · simp only [Act.put, List.setIfInBounds_toArray, List.set_cons_zero, List.set_cons_succ, i64_w, i32_w]
    rfl
  refine pure_ (i := 3) (N := some 54) (v := ?_) (a' := ?_) #[true, true, true, true, false, false, false, false, false, false, false, false] rfl rfl (by kernel_rfl) (fun _ _ _ h => h) (Or.inl ⟨by rfl, ?_⟩) ?_ ?_
  rotate_left
  · intro w'
    go_simp
    with_reducible rfl
  rotate_left
  · simp only [Act.put, List.setIfInBounds_toArray, List.set_cons_zero, List.set_cons_succ, i64_w, i32_w]
    rfl
  refine pure_ (i := 5) (N := some 56) (v := ?_) (a' := ?_) #[true, true, true, true, false, true, false, false, false, false, false, false] rfl rfl (by kernel_rfl) (fun _ _ _ h => h) (Or.inl ⟨by rfl, ?_⟩) ?_ ?_
  rotate_left
  · intro w'
    go_simp
    with_reducible rfl
  rotate_left
  · simp only [Act.put, List.setIfInBounds_toArray, List.set_cons_zero, List.set_cons_succ, i64_w, i32_w]
    rfl
  refine take_ (i := 4) (N := some 55) (v := ?_) (a' := ?_) #[true, true, true, true, true, true, false, false, false, false, false, false] rfl rfl (by kernel_rfl) (fun _ _ _ h => h) (Or.inl ⟨by rfl, ?_⟩) hHeld ?_ ?_
  rotate_left
  · rintro w' ⟨s0, s1⟩
    go_simp
    with_reducible rfl
  rotate_left
  · simp only [Act.put, List.setIfInBounds_toArray, List.set_cons_zero, List.set_cons_succ, i64_w, i32_w]
    rfl
  refine take_ (i := 6) (N := some 57) (v := ?_) (a' := ?_) #[true, true, true, true, true, true, true, false, false, false, false, false] rfl rfl (by kernel_rfl) (fun _ _ _ h => h) (Or.inl ⟨by rfl, ?_⟩) hHeld ?_ ?_
  rotate_left
  · rintro w' ⟨s0, s1⟩
    go_simp
    with_reducible rfl
  rotate_left
  · simp only [Act.put, List.setIfInBounds_toArray, List.set_cons_zero, List.set_cons_succ, i64_w, i32_w]
    rfl
  refine one_ (i := 7) (N := some 58) #[true, true, true, true, true, true, true, true, false, false, false, false] rfl rfl (by kernel_rfl) (by decide) (fun K hK => ?_)
  refine value_ (w1 := ?_) (v := ?_) (by rfl) rfl ?_ ?_
  rotate_left 2
  · go_simp
    constructor
    · rfl
    · rfl
  refine hK.out _ _ ⟨pw_cell_below hba.out c2, pw_cell_below hba.out z2⟩ (fun hHeld => ?_)
  clear hK K
  refine norm_ (a' := ?_) ?_ ?_
  rotate_left
  · show Act.put _ (some 58) _ = _
    simp only [Act.put, List.setIfInBounds_toArray, List.set_cons_zero, List.set_cons_succ, i64_w, i32_w]
    rfl
  refine last_ (i := 8) (N := some 59) #[true, true, true, true, true, true, true, true, true, false, false, false] rfl rfl (by kernel_rfl) (by decide) (fun K hK => ?_)
  refine value_ (w1 := w9) (v := .slice A (xl.length + 1) cx) (by rfl) rfl ?_ ?_
  · (go_simp; first | done | (rw [hrun2]; rfl))
  refine hK.out _ _ ?_
  clear hK K
  refine norm_ (a' := ?_) ?_ ?_
  rotate_left
  · show Act.put _ (some 59) _ = _
    simp only [Act.put, List.setIfInBounds_toArray, List.set_cons_zero, List.set_cons_succ, i64_w, i32_w]
    rfl
  refine pure_ (i := 9) (N := some 60) (v := ?_) (a' := ?_) #[true, true, true, true, true, true, true, true, true, true, false, false] rfl rfl (by kernel_rfl) (fun _ _ _ h => h) (Or.inl ⟨by rfl, ?_⟩) ?_ ?_
  rotate_left
  · intro w'
    go_simp
    with_reducible rfl
  rotate_left
  · simp only [Act.put, List.setIfInBounds_toArray, List.set_cons_zero, List.set_cons_succ, i64_w, i32_w]
    rfl
  refine pure_ (i := 10) (N := some 61) (v := ?_) (a' := ?_) #[true, true, true, true, true, true, true, true, true, true, true, false] rfl rfl (by kernel_rfl) (fun _ _ _ h => h) (Or.inl ⟨by rfl, ?_⟩) ?_ ?_
  rotate_left
  · intro w'
    go_simp
    with_reducible rfl
  rotate_left
  · simp only [Act.put, List.setIfInBounds_toArray, List.set_cons_zero, List.set_cons_succ, i64_w, i32_w]
    rfl
  refine last_ (i := 11) (N := none) #[true, true, true, true, true, true, true, true, true, true, true, true] rfl rfl (by kernel_rfl) (by decide) (fun K hK => ?_)
  refine skip_ (w1 := ?_) (by rfl) rfl ?_ ?_
  rotate_left
  · go_simp
    rfl
  refine hK.out _ _ ?_
  clear hK K
  refine done_ (by kernel_rfl) ?_
  clear c2 z2 hba hrun2 hHeld
  obtain ⟨W6, hW6⟩ : ∃ w_, w9.setCell ⟨Bm, 3, none⟩ (.slice A (xl.length + 1) cx) = w_ := ⟨_, rfl⟩
  rw [hW6] at HQ ⊢
  clear hW6
  clear e2 f2
  have HR := Hd.mk ((HQ.out.less (Z' := Z) (fun q hq => List.mem_cons_of_mem _ hq)))
  clear HQ
  go_wp2
  refine bodyPost_ret (results_none rfl _ _ _) rfl ?_
  exact ⟨rfl, _, _, _, HR.out⟩
set_option maxRecDepth 100000 in
set_option maxHeartbeats 4000000 in
theorem take_p1 (base : Nat) (W0 : World) (S0 : Nat → Prop) (Z : List (Nat × Obj)) (W : World) (Bm : Nat) (s d x : Value) (dl xl : List Int) (pos sz at0 at_ b : Int) (sl : List S82) (f0 f1 : Int) (any : Bool)
    (h : Mq base W0 S0 Z W W Bm s d x sl dl xl ⟨pos, sz, at0, any⟩) (hd : dl.length ≤ 70000) (hx : xl.length ≤ 70000) (hs : 0 ≤ sz ∧ sz ≤ 70000) (hat : -1152921504606846976 ≤ at_ ∧ at_ ≤ 1152921504606846976) (hn : sl.length = 0) (hf : f0 = 0 ∧ f1 = 0) :
    Calls Try.prog 42 #[.pointer (some ⟨Bm, 0, none⟩), .agg #[.bool false, .int .i64 at_, .int .u8 b]] W (fun e w' => e = .returned (.tuple #[]) ∧ ∃ s d x, Mq base W0 S0 Z W w' Bm s d x (sl ++ [⟨f0, f1 + 1, 0⟩]) dl (xl ++ [b]) ⟨pos, sz + 1, at0, any⟩) := by
  obtain ⟨As0, cs0, hAs0⟩ := h.slice
  subst hAs0
  have hc : 0 ≤ f1 ∧ f1 ≤ 70000 := by omega
  have HF := Hd.mk hf
  clear hf
  have hl0 : ((sl.length : Int) == 0) = true := by rw [hn]; rfl
  have hn0 : sl.length ≤ 70000 := by omega
  have HN := Hd.mk hn
  clear hn
  have hw2 : (0 : Int) ≤ (sl.length : Int) := by omega
  have hw3 : (sl.length : Int) < (sl.length : Int) + 1 := by omega
  have hw1 : wrap64 (sl.length : Int) = (sl.length : Int) := w64 _ (by omega)
  have h1 := h.add (.cells #[.bool false, .int .i64 at_, .int .u8 b] 91)
  clear h
  have hbm : Bm ≠ W.heap.size := by have := h1.bmlt; have := (h1.z _ List.mem_cons_self).2; intro e; exact this (.inl e.symm)
  have H2 := Hd.mk (h1.setSz (sz + 1))
  obtain ⟨m110, m111, m112, m113, m114, m115, m116⟩ := h1.cells
  obtain ⟨r110, r111, r112, r113, r114, r115, r116⟩ := h1.froz
  obtain ⟨z110, z111, z112⟩ := h1.box
  simp only at m110 m111 m112 m113 m114 m115 m116
  have H1 := Hd.mk h1
  clear h1
  go_enter Try.func42, Try.ntmps42
  go_upto_region 3 with fail
  clear m110 m111 m112 m113 m114 m115 m116 r110 r111 r112 r113 r114 r115 r116 z110 z111 z112
  obtain ⟨W2, hW2⟩ : ∃ w_, (W.alloc (.cells #[.bool false, .int .i64 at_, .int .u8 b] 91)).setCell ⟨Bm, 4, none⟩ (.int .i64 (sz + 1)) = w_ := ⟨_, rfl⟩
  rw [hW2] at H2 ⊢
  clear hW2 H1
  simp only at H2
  obtain ⟨m120, m121, m122, m123, m124, m125, m126⟩ := H2.out.cells
  obtain ⟨r120, r121, r122, r123, r124, r125, r126⟩ := H2.out.froz
  obtain ⟨z120, z121, z122⟩ := H2.out.box
  simp only at m120 m121 m122 m123 m124 m125 m126
  clear m120 m121 m122 m123 m124 m125 m126 r120 r121 r122 r123 r124 r125 r126 z120 z121 z122
  obtain ⟨m130, m131, m132, m133, m134, m135, m136⟩ := H2.out.cells
  obtain ⟨r130, r131, r132, r133, r134, r135, r136⟩ := H2.out.froz
  obtain ⟨z130, z131, z132⟩ := H2.out.box
  simp only at m130 m131 m132 m133 m134 m135 m136
  obtain ⟨A1, cp, w3, hr3, hb3, hq3⟩ := H2.out.newS (by omega)
  obtain ⟨g, cq, he⟩ := hq3.form (dn := sl) (t := ⟨0, 0, 0⟩)
  injection he with he1 _ he3
  subst he1
  subst he3
  have e1 : w3.cell? ⟨Bm, 1, none⟩ = some (.slice As0 sl.length cs0) := (blk_cell hb3 1).trans rfl
  have f1_ := blk_frozen hb3 1
  have HD := Hd.mk hq3
  clear hb3 hq3 H2
  go_upto_region 8 with fail
  clear m130 m131 m132 m133 m134 m135 m136 r130 r131 r132 r133 r134 r135 r136 z130 z131 z132
  clear hr3 e1 f1_
  obtain ⟨W4, hW4⟩ : ∃ w_, w3.setCell ⟨Bm, 1, none⟩ (.slice (some ⟨g, 0, none⟩) (sl.length + 1) cp) = w_ := ⟨_, rfl⟩
  rw [hW4] at HD ⊢
  clear hW4
  rw [show (⟨0, 0, 0⟩ : S82) = ⟨f0, f1, 0⟩ by rw [HF.out.1, HF.out.2]] at HD
  obtain ⟨m140, m141, m142, m143, m144, m145, m146⟩ := HD.out.cells
  obtain ⟨r140, r141, r142, r143, r144, r145, r146⟩ := HD.out.froz
  obtain ⟨z140, z141, z142⟩ := HD.out.box
  simp only at m140 m141 m142 m143 m144 m145 m146
  obtain ⟨g140, h140⟩ := HD.out.at_ 0 (by omega)
  obtain ⟨g141, h141⟩ := HD.out.at_ 1 (by omega)
  obtain ⟨g142, h142⟩ := HD.out.at_ 2 (by omega)
  simp only [getf] at g140 g141 g142
  simp only [Nat.add_zero] at g140 h140
  have HP := Hd.mk (HD.out.poke 1 (by omega) (f1 + 1))
  simp only [setf] at HP
  clear HD
  go_upto_region 9 with fail
  clear m140 m141 m142 m143 m144 m145 m146 r140 r141 r142 r143 r144 r145 r146 z140 z141 z142 g140 h140 g141 h141 g142 h142
  obtain ⟨W5, hW5⟩ : ∃ w_, W4.setCell ⟨g, sl.length * 3 + 1, none⟩ (.int .i64 (f1 + 1)) = w_ := ⟨_, rfl⟩
  rw [hW5] at HP ⊢
  clear hW5
  have hd9 := HP.out.below (Below.drew' W5)
  have c2 : W5.drew.cell? ⟨Bm, 3, none⟩ = some x := hd9.cells.2.2.2.1
  have z2 := hd9.box.2.2
  obtain ⟨A, cx, w9, hrun, hb9, hq⟩ := hd9.newX b (by omega)
  have hba := Hd.mk ((Below.refl W5.drew.heap.size W5.drew).alloc (Nat.le_refl _) (.cells #[.int .u8 b] 5))
  have hrun2 : (Builtin.append_ #[24, 24] 24 #[x, .slice (some ⟨W5.heap.size, 0, none⟩) 1 1]).run Try.prog ((W5.alloc (.cells #[.int .u8 b] 5)).drew) = .ok (.slice A (xl.length + 1) cx) w9 := hrun
  clear hrun
  have e2 : w9.cell? ⟨Bm, 3, none⟩ = some x := (blk_cell hb9 3).trans rfl
  have f2 := blk_frozen hb9 3
  have HQ := Hd.mk hq
  clear hd9 hb9 hq HP
  refine start_ (n := 12) (S := fun w' => w'.cell? ⟨Bm, 3, none⟩ = some x ∧ w'.cell? ⟨W.heap.size, 2, none⟩ = some (.int .u8 b)) (ds := [8, 11]) #[false, false, false, false, false, false, false, false, false, false, false, false] (by kernel_rfl) rfl rfl ⟨c2, z2⟩ (fun hHeld => ?_)
  refine pure_ (i := 0) (N := some 51) (v := ?_) (a' := ?_) #[true, false, false, false, false, false, false, false, false, false, false, false] rfl rfl (by kernel_rfl) (fun _ _ _ h => h) (Or.inl ⟨by rfl, ?_⟩) ?_ ?_
  rotate_left
  · intro w'
    go_simp
    with_reducible rfl
  rotate_left
  · simp only [Act.put, List.setIfInBounds_toArray, List.set_cons_zero, List.set_cons_succ, i64_w, i32_w]
    rfl
  refine pure_ (i := 1) (N := some 52) (v := ?_) (a' := ?_) #[true, true, false, false, false, false, false, false, false, false, false, false] rfl rfl (by kernel_rfl) (fun _ _ _ h => h) (Or.inl ⟨by rfl, ?_⟩) ?_ ?_
  rotate_left
  · intro w'
    go_simp
    with_reducible rfl
  rotate_left
  · simp only [Act.put, List.setIfInBounds_toArray, List.set_cons_zero, List.set_cons_succ, i64_w, i32_w]
    rfl
  refine pure_ (i := 2) (N := some 53) (v := ?_) (a' := ?_) #[true, true, true, false, false, false, false, false, false, false, false, false] rfl rfl (by kernel_rfl) (fun _ _ _ h => h) (Or.inl ⟨by rfl, ?_⟩) ?_ ?_
  rotate_left
  · intro w'
    go_simp
    with_reducible rfl
  rotate_left
  · simp only [Act.put, List.setIfInBounds_toArray, List.set_cons_zero, List.set_cons_succ, i64_w, i32_w]
    rfl
  refine pure_ (i := 3) (N := some 54) (v := ?_) (a' := ?_) #[true, true, true, true, false, false, false, false, false, false, false, false] rfl rfl (by kernel_rfl) (fun _ _ _ h => h) (Or.inl ⟨by rfl, ?_⟩) ?_ ?_
  rotate_left
  · intro w'
    go_simp
    with_reducible rfl
  rotate_left
  · simp only [Act.put, List.setIfInBounds_toArray, List.set_cons_zero, List.set_cons_succ, i64_w, i32_w]
    rfl
  refine pure_ (i := 5) (N := some 56) (v := ?_) (a' := ?_) #[true, true, true, true, false, true, false, false, false, false, false, false] rfl rfl (by kernel_rfl) (fun _ _ _ h => h) (Or.inl ⟨by rfl, ?_⟩) ?_ ?_
  rotate_left
  · intro w'
    go_simp
    with_reducible rfl
  rotate_left
  · simp only [Act.put, List.setIfInBounds_toArray, List.set_cons_zero, List.set_cons_succ, i64_w, i32_w]
    rfl
  refine take_ (i := 4) (N := some 55) (v := ?_) (a' := ?_) #[true, true, true, true, true, true, false, false, false, false, false, false] rfl rfl (by kernel_rfl) (fun _ _ _ h => h) (Or.inl ⟨by rfl, ?_⟩) hHeld ?_ ?_
  rotate_left
  · rintro w' ⟨s0, s1⟩
    go_simp
    with_reducible rfl
  rotate_left
  · simp only [Act.put, List.setIfInBounds_toArray, List.set_cons_zero, List.set_cons_succ, i64_w, i32_w]
    rfl
  refine take_ (i := 6) (N := some 57) (v := ?_) (a' := ?_) #[true, true, true, true, true, true, true, false, false, false, false, false] rfl rfl (by kernel_rfl) (fun _ _ _ h => h) (Or.inl ⟨by rfl, ?_⟩) hHeld ?_ ?_
  rotate_left
  · rintro w' ⟨s0, s1⟩
    go_simp
    with_reducible rfl
  rotate_left
  · simp only [Act.put, List.setIfInBounds_toArray, List.set_cons_zero, List.set_cons_succ, i64_w, i32_w]
    rfl
  refine one_ (i := 7) (N := some 58) #[true, true, true, true, true, true, true, true, false, false, false, false] rfl rfl (by kernel_rfl) (by decide) (fun K hK => ?_)
  refine value_ (w1 := ?_) (v := ?_) (by rfl) rfl ?_ ?_
  rotate_left 2
  · go_simp
    constructor
    · rfl
    · rfl
  refine hK.out _ _ ⟨pw_cell_below hba.out c2, pw_cell_below hba.out z2⟩ (fun hHeld => ?_)
  clear hK K
  refine norm_ (a' := ?_) ?_ ?_
  rotate_left
  · show Act.put _ (some 58) _ = _
    simp only [Act.put, List.setIfInBounds_toArray, List.set_cons_zero, List.set_cons_succ, i64_w, i32_w]
    rfl
  refine last_ (i := 8) (N := some 59) #[true, true, true, true, true, true, true, true, true, false, false, false] rfl rfl (by kernel_rfl) (by decide) (fun K hK => ?_)
  refine value_ (w1 := w9) (v := .slice A (xl.length + 1) cx) (by rfl) rfl ?_ ?_
  · (go_simp; first | done | (rw [hrun2]; rfl))
  refine hK.out _ _ ?_
  clear hK K
  refine norm_ (a' := ?_) ?_ ?_
  rotate_left
  · show Act.put _ (some 59) _ = _
    simp only [Act.put, List.setIfInBounds_toArray, List.set_cons_zero, List.set_cons_succ, i64_w, i32_w]
    rfl
  refine pure_ (i := 9) (N := some 60) (v := ?_) (a' := ?_) #[true, true, true, true, true, true, true, true, true, true, false, false] rfl rfl (by kernel_rfl) (fun _ _ _ h => h) (Or.inl ⟨by rfl, ?_⟩) ?_ ?_
  rotate_left
  · intro w'
    go_simp
    with_reducible rfl
  rotate_left
  · simp only [Act.put, List.setIfInBounds_toArray, List.set_cons_zero, List.set_cons_succ, i64_w, i32_w]
    rfl
  refine pure_ (i := 10) (N := some 61) (v := ?_) (a' := ?_) #[true, true, true, true, true, true, true, true, true, true, true, false] rfl rfl (by kernel_rfl) (fun _ _ _ h => h) (Or.inl ⟨by rfl, ?_⟩) ?_ ?_
  rotate_left
  · intro w'
    go_simp
    with_reducible rfl
  rotate_left
  · simp only [Act.put, List.setIfInBounds_toArray, List.set_cons_zero, List.set_cons_succ, i64_w, i32_w]
    rfl
  refine last_ (i := 11) (N := none) #[true, true, true, true, true, true, true, true, true, true, true, true] rfl rfl (by kernel_rfl) (by decide) (fun K hK => ?_)
  refine skip_ (w1 := ?_) (by rfl) rfl ?_ ?_
  rotate_left
  · go_simp
    rfl
  refine hK.out _ _ ?_
  clear hK K
  refine done_ (by kernel_rfl) ?_
  clear c2 z2 hba hrun2 hHeld
  obtain ⟨W6, hW6⟩ : ∃ w_, w9.setCell ⟨Bm, 3, none⟩ (.slice A (xl.length + 1) cx) = w_ := ⟨_, rfl⟩
  rw [hW6] at HQ ⊢
  clear hW6
  clear e2 f2
  have HR := Hd.mk ((HQ.out.less (Z' := Z) (fun q hq => List.mem_cons_of_mem _ hq)))
  clear HQ
  go_wp2
  refine bodyPost_ret (results_none rfl _ _ _) rfl ?_
  exact ⟨rfl, _, _, _, HR.out⟩
set_option maxRecDepth 100000 in
set_option maxHeartbeats 4000000 in
theorem take_p5a (base : Nat) (W0 : World) (S0 : Nat → Prop) (Z : List (Nat × Obj)) (W : World) (Bm : Nat) (s d x : Value) (dl xl : List Int) (pos sz at0 at_ b : Int) (dn : List S82) (q0 f1 f0 z0 : Int)
    (h : Mq base W0 S0 Z W W Bm s d x (dn ++ [⟨q0, f1, 0⟩]) dl xl ⟨pos, sz, at0, true⟩) (hd : dl.length ≤ 70000) (hx : xl.length ≤ 70000) (hs : 0 ≤ sz ∧ sz ≤ 70000) (hat : -1152921504606846976 ≤ at_ ∧ at_ ≤ 1152921504606846976) (hn : dn.length ≤ 69999) (h0 : -1152921504606846976 ≤ at0 ∧ at0 ≤ 1152921504606846976) (hf0 : f0 = 0) (hf1 : 0 < f1) :
    Calls Try.prog 42 #[.pointer (some ⟨Bm, 0, none⟩), .agg #[.bool true, .int .i64 at_, .int .u8 b]] W (fun e w' => e = .returned (.tuple #[]) ∧ ∃ s d x, Mq base W0 S0 Z W w' Bm s d x ((dn ++ [⟨q0, f1, at_ - at0⟩]) ++ [⟨f0 + 1, 0, 0⟩]) (dl ++ [b]) xl ⟨pos, sz + 1, at_ + 1, true⟩) := by
  obtain ⟨g0, cp0, rfl⟩ := h.form
  have hc : 0 ≤ f0 ∧ f0 ≤ 70000 := by omega
  have HF0 := Hd.mk hf0
  clear hf0
  have hw2 : (0 : Int) ≤ (dn.length : Int) := by omega
  have hw3 : (dn.length : Int) < (dn.length : Int) + 1 := by omega
  have hw1 : wrap64 (dn.length : Int) = (dn.length : Int) := w64 _ (by omega)
  have hd1 : decide (0 < f1) = true := decide_eq_true hf1
  clear hf1
  have h1 := h.add (.cells #[.bool true, .int .i64 at_, .int .u8 b] 91)
  clear h
  have hbm : Bm ≠ W.heap.size := by have := h1.bmlt; have := (h1.z _ List.mem_cons_self).2; intro e; exact this (.inl e.symm)
  have H2 := Hd.mk (h1.setSz (sz + 1))
  obtain ⟨m150, m151, m152, m153, m154, m155, m156⟩ := h1.cells
  obtain ⟨r150, r151, r152, r153, r154, r155, r156⟩ := h1.froz
  obtain ⟨z150, z151, z152⟩ := h1.box
  simp only at m150 m151 m152 m153 m154 m155 m156
  have H1 := Hd.mk h1
  clear h1
  go_enter Try.func42, Try.ntmps42
  go_upto_region 3 with fail
  clear m150 m151 m152 m153 m154 m155 m156 r150 r151 r152 r153 r154 r155 r156 z150 z151 z152
  obtain ⟨W2, hW2⟩ : ∃ w_, (W.alloc (.cells #[.bool true, .int .i64 at_, .int .u8 b] 91)).setCell ⟨Bm, 4, none⟩ (.int .i64 (sz + 1)) = w_ := ⟨_, rfl⟩
  rw [hW2] at H2 ⊢
  clear hW2 H1
  simp only at H2
  obtain ⟨m160, m161, m162, m163, m164, m165, m166⟩ := H2.out.cells
  obtain ⟨r160, r161, r162, r163, r164, r165, r166⟩ := H2.out.froz
  obtain ⟨z160, z161, z162⟩ := H2.out.box
  simp only at m160 m161 m162 m163 m164 m165 m166
  obtain ⟨g160, h160⟩ := H2.out.at_ 0 (by omega)
  obtain ⟨g161, h161⟩ := H2.out.at_ 1 (by omega)
  obtain ⟨g162, h162⟩ := H2.out.at_ 2 (by omega)
  simp only [getf] at g160 g161 g162
  simp only [Nat.add_zero] at g160 h160
  go_upto_region 13 with fail
  refine start_ (n := 20) (S := fun w' => w'.cell? ⟨Bm, 1, none⟩ = some (.slice (some ⟨g0, 0, none⟩) (dn.length + 1) cp0) ∧ w'.cell? ⟨g0, dn.length * 3 + 1, none⟩ = some (.int .i64 f1)) (ds := []) #[false, false, false, false, false, false, false, false, false, false, false, false, false, false, false, false, false, false, false, false] (by kernel_rfl) rfl rfl ⟨m161, g161⟩ (fun hHeld => ?_)
  refine pure_ (i := 0) (N := some 88) (v := ?_) (a' := ?_) #[true, false, false, false, false, false, false, false, false, false, false, false, false, false, false, false, false, false, false, false] rfl rfl (by kernel_rfl) (fun _ _ _ h => h) (Or.inl ⟨by rfl, ?_⟩) ?_ ?_
  rotate_left
  · intro w'
    go_simp
    with_reducible rfl
  rotate_left
  · simp only [Act.put, List.setIfInBounds_toArray, List.set_cons_zero, List.set_cons_succ, i64_w, i32_w]
    rfl
  refine pure_ (i := 1) (N := some 89) (v := ?_) (a' := ?_) #[true, true, false, false, false, false, false, false, false, false, false, false, false, false, false, false, false, false, false, false] rfl rfl (by kernel_rfl) (fun _ _ _ h => h) (Or.inl ⟨by rfl, ?_⟩) ?_ ?_
  rotate_left
  · intro w'
    go_simp
    with_reducible rfl
  rotate_left
  · simp only [Act.put, List.setIfInBounds_toArray, List.set_cons_zero, List.set_cons_succ, i64_w, i32_w]
    rfl
  refine pure_ (i := 2) (N := some 90) (v := ?_) (a' := ?_) #[true, true, true, false, false, false, false, false, false, false, false, false, false, false, false, false, false, false, false, false] rfl rfl (by kernel_rfl) (fun _ _ _ h => h) (Or.inl ⟨by rfl, ?_⟩) ?_ ?_
  rotate_left
  · intro w'
    go_simp
    with_reducible rfl
  rotate_left
  · simp only [Act.put, List.setIfInBounds_toArray, List.set_cons_zero, List.set_cons_succ, i64_w, i32_w]
    rfl
  refine pure_ (i := 4) (N := some 92) (v := ?_) (a' := ?_) #[true, true, true, false, true, false, false, false, false, false, false, false, false, false, false, false, false, false, false, false] rfl rfl (by kernel_rfl) (fun _ _ _ h => h) (Or.inl ⟨by rfl, ?_⟩) ?_ ?_
  rotate_left
  · intro w'
    go_simp
    with_reducible rfl
  rotate_left
  · simp only [Act.put, List.setIfInBounds_toArray, List.set_cons_zero, List.set_cons_succ, i64_w, i32_w]
    rfl
  refine pure_ (i := 5) (N := some 93) (v := ?_) (a' := ?_) #[true, true, true, false, true, true, false, false, false, false, false, false, false, false, false, false, false, false, false, false] rfl rfl (by kernel_rfl) (fun _ _ _ h => h) (Or.inl ⟨by rfl, ?_⟩) ?_ ?_
  rotate_left
  · intro w'
    go_simp
    with_reducible rfl
  rotate_left
  · simp only [Act.put, List.setIfInBounds_toArray, List.set_cons_zero, List.set_cons_succ, i64_w, i32_w]
    rfl
  refine take_ (i := 3) (N := some 91) (v := ?_) (a' := ?_) #[true, true, true, true, true, true, false, false, false, false, false, false, false, false, false, false, false, false, false, false] rfl rfl (by kernel_rfl) (fun _ _ _ h => h) (Or.inl ⟨by rfl, ?_⟩) hHeld ?_ ?_
  rotate_left
  · rintro w' ⟨s0, s1⟩
    go_simp
    with_reducible rfl
  rotate_left
  · simp only [Act.put, List.setIfInBounds_toArray, List.set_cons_zero, List.set_cons_succ, i64_w, i32_w]
    rfl
  refine pure_ (i := 6) (N := some 94) (v := ?_) (a' := ?_) #[true, true, true, true, true, true, true, false, false, false, false, false, false, false, false, false, false, false, false, false] rfl rfl (by kernel_rfl) (fun _ _ _ h => h) (Or.inl ⟨by rfl, ?_⟩) ?_ ?_
  rotate_left
  · intro w'
    go_simp
    with_reducible rfl
  rotate_left
  · simp only [Act.put, List.setIfInBounds_toArray, List.set_cons_zero, List.set_cons_succ, i64_w, i32_w]
    rfl
  refine pure_ (i := 7) (N := some 95) (v := ?_) (a' := ?_) #[true, true, true, true, true, true, true, true, false, false, false, false, false, false, false, false, false, false, false, false] rfl rfl (by kernel_rfl) (fun _ _ _ h => h) (Or.inl ⟨by rfl, ?_⟩) ?_ ?_
  rotate_left
  · intro w'
    go_simp
    with_reducible rfl
  rotate_left
  · simp only [Act.put, List.setIfInBounds_toArray, List.set_cons_zero, List.set_cons_succ, i64_w, i32_w]
    rfl
  refine take_ (i := 8) (N := some 96) (v := ?_) (a' := ?_) #[true, true, true, true, true, true, true, true, true, false, false, false, false, false, false, false, false, false, false, false] rfl rfl (by kernel_rfl) (fun _ _ _ h => h) (Or.inl ⟨by rfl, ?_⟩) hHeld ?_ ?_
  rotate_left
  · rintro w' ⟨s0, s1⟩
    go_simp
    with_reducible rfl
  rotate_left
  · simp only [Act.put, List.setIfInBounds_toArray, List.set_cons_zero, List.set_cons_succ, i64_w, i32_w]
    rfl
  refine pure_ (i := 9) (N := some 97) (v := ?_) (a' := ?_) #[true, true, true, true, true, true, true, true, true, true, false, false, false, false, false, false, false, false, false, false] rfl rfl (by kernel_rfl) (fun _ _ _ h => h) (Or.inl ⟨by rfl, ?_⟩) ?_ ?_
  rotate_left
  · intro w'
    go_simp
    with_reducible rfl
  rotate_left
  · simp only [Act.put, List.setIfInBounds_toArray, List.set_cons_zero, List.set_cons_succ, i64_w, i32_w]
    rfl
  refine pure_ (i := 10) (N := some 98) (v := ?_) (a' := ?_) #[true, true, true, true, true, true, true, true, true, true, true, false, false, false, false, false, false, false, false, false] rfl rfl (by kernel_rfl) (fun _ _ _ h => h) (Or.inl ⟨by rfl, ?_⟩) ?_ ?_
  rotate_left
  · intro w'
    go_simp
    with_reducible rfl
  rotate_left
  · simp only [Act.put, List.setIfInBounds_toArray, List.set_cons_zero, List.set_cons_succ, i64_w, i32_w]
    rfl
  refine pure_ (i := 11) (N := some 99) (v := undef) (a' := ?_) #[true, true, true, true, true, true, true, true, true, true, true, true, false, false, false, false, false, false, false, false] rfl rfl (by kernel_rfl) (fun _ _ _ h => h) (Or.inr ⟨by rfl, rfl⟩) ?_ ?_
  rotate_left
  · simp only [Act.put, List.setIfInBounds_toArray, List.set_cons_zero, List.set_cons_succ, i64_w, i32_w]
    rfl
  refine pure_ (i := 12) (N := some 100) (v := undef) (a' := ?_) #[true, true, true, true, true, true, true, true, true, true, true, true, true, false, false, false, false, false, false, false] rfl rfl (by kernel_rfl) (fun _ _ _ h => h) (Or.inr ⟨by rfl, rfl⟩) ?_ ?_
  rotate_left
  · simp only [Act.put, List.setIfInBounds_toArray, List.set_cons_zero, List.set_cons_succ, i64_w, i32_w]
    rfl
  refine pure_ (i := 13) (N := some 101) (v := undef) (a' := ?_) #[true, true, true, true, true, true, true, true, true, true, true, true, true, true, false, false, false, false, false, false] rfl rfl (by kernel_rfl) (fun _ _ _ h => h) (Or.inr ⟨by rfl, rfl⟩) ?_ ?_
  rotate_left
  · simp only [Act.put, List.setIfInBounds_toArray, List.set_cons_zero, List.set_cons_succ, i64_w, i32_w]
    rfl
  refine pure_ (i := 14) (N := some 102) (v := undef) (a' := ?_) #[true, true, true, true, true, true, true, true, true, true, true, true, true, true, true, false, false, false, false, false] rfl rfl (by kernel_rfl) (fun _ _ _ h => h) (Or.inr ⟨by rfl, rfl⟩) ?_ ?_
  rotate_left
  · simp only [Act.put, List.setIfInBounds_toArray, List.set_cons_zero, List.set_cons_succ, i64_w, i32_w]
    rfl
  refine pure_ (i := 15) (N := some 103) (v := undef) (a' := ?_) #[true, true, true, true, true, true, true, true, true, true, true, true, true, true, true, true, false, false, false, false] rfl rfl (by kernel_rfl) (fun _ _ _ h => h) (Or.inr ⟨by rfl, rfl⟩) ?_ ?_
  rotate_left
  · simp only [Act.put, List.setIfInBounds_toArray, List.set_cons_zero, List.set_cons_succ, i64_w, i32_w]
    rfl
  refine pure_ (i := 16) (N := some 104) (v := undef) (a' := ?_) #[true, true, true, true, true, true, true, true, true, true, true, true, true, true, true, true, true, false, false, false] rfl rfl (by kernel_rfl) (fun _ _ _ h => h) (Or.inr ⟨by rfl, rfl⟩) ?_ ?_
  rotate_left
  · simp only [Act.put, List.setIfInBounds_toArray, List.set_cons_zero, List.set_cons_succ, i64_w, i32_w]
    rfl
  refine pure_ (i := 17) (N := some 105) (v := undef) (a' := ?_) #[true, true, true, true, true, true, true, true, true, true, true, true, true, true, true, true, true, true, false, false] rfl rfl (by kernel_rfl) (fun _ _ _ h => h) (Or.inr ⟨by rfl, rfl⟩) ?_ ?_
  rotate_left
  · simp only [Act.put, List.setIfInBounds_toArray, List.set_cons_zero, List.set_cons_succ, i64_w, i32_w]
    rfl
  refine pure_ (i := 18) (N := some 106) (v := ?_) (a' := ?_) #[true, true, true, true, true, true, true, true, true, true, true, true, true, true, true, true, true, true, true, false] rfl rfl (by kernel_rfl) (fun _ _ _ h => h) (Or.inl ⟨by rfl, ?_⟩) ?_ ?_
  rotate_left
  · intro w'
    go_simp
    with_reducible rfl
  rotate_left
  · simp only [Act.put, List.setIfInBounds_toArray, List.set_cons_zero, List.set_cons_succ, i64_w, i32_w]
    rfl
  refine pure_ (i := 19) (N := some 87) (v := ?_) (a' := ?_) #[true, true, true, true, true, true, true, true, true, true, true, true, true, true, true, true, true, true, true, true] rfl rfl (by kernel_rfl) (fun _ _ _ h => h) (Or.inl ⟨by rfl, ?_⟩) ?_ ?_
  rotate_left
  · intro w'
    go_simp
    with_reducible rfl
  rotate_left
  · simp only [Act.put, List.setIfInBounds_toArray, List.set_cons_zero, List.set_cons_succ, i64_w, i32_w]
    rfl
  refine done_ (by kernel_rfl) ?_
  clear hHeld
  have HD := Hd.mk (H2.out.below (Below.drew' W2))
  clear H2
  clear m160 m161 m162 m163 m164 m165 m166 r160 r161 r162 r163 r164 r165 r166 z160 z161 z162 g160 h160 g161 h161 g162 h162
  obtain ⟨W7, hW7⟩ : ∃ w_, W2.drew = w_ := ⟨_, rfl⟩
  rw [hW7] at HD ⊢
  clear hW7
  have HP := Hd.mk ((HD.out.below (Below.drew' W7)).poke 2 (by omega) (at_ - at0))
  simp only [setf] at HP
  have hdd := HD.out.below (Below.drew' W7)
  have u0 : W7.drew.cell? ⟨Bm, 1, none⟩ = some (.slice (some ⟨g0, 0, none⟩) (dn.length + 1) cp0) := hdd.cells.2.1
  have u3 : W7.drew.cell? ⟨Bm, 5, none⟩ = some (.int .i64 at0) := hdd.cells.2.2.2.2.2.1
  have u4 : W7.drew.cell? ⟨W.heap.size, 1, none⟩ = some (.int .i64 at_) := hdd.box.2.1
  have u1 := (hdd.at_ 2 (by omega)).1
  have u2 := (hdd.at_ 2 (by omega)).2
  simp only [getf] at u1
  clear HD hdd
  go_upto_region 14 with fail
  refine start_ (n := 16) (S := fun w' => w'.cell? ⟨Bm, 1, none⟩ = some (.slice (some ⟨g0, 0, none⟩) (dn.length + 1) cp0) ∧ w'.cell? ⟨Bm, 5, none⟩ = some (.int .i64 at0) ∧ w'.cell? ⟨W.heap.size, 1, none⟩ = some (.int .i64 at_)) (ds := [15]) #[false, false, false, false, false, false, false, false, false, false, false, false, false, false, false, false] (by kernel_rfl) rfl rfl ⟨u0, u3, u4⟩ (fun hHeld => ?_)
  refine pure_ (i := 0) (N := some 107) (v := ?_) (a' := ?_) #[true, false, false, false, false, false, false, false, false, false, false, false, false, false, false, false] rfl rfl (by kernel_rfl) (fun _ _ _ h => h) (Or.inl ⟨by rfl, ?_⟩) ?_ ?_
  rotate_left
  · intro w'
    go_simp
    with_reducible rfl
  rotate_left
  · simp only [Act.put, List.setIfInBounds_toArray, List.set_cons_zero, List.set_cons_succ, i64_w, i32_w]
    rfl
  refine pure_ (i := 1) (N := some 108) (v := ?_) (a' := ?_) #[true, true, false, false, false, false, false, false, false, false, false, false, false, false, false, false] rfl rfl (by kernel_rfl) (fun _ _ _ h => h) (Or.inl ⟨by rfl, ?_⟩) ?_ ?_
  rotate_left
  · intro w'
    go_simp
    with_reducible rfl
  rotate_left
  · simp only [Act.put, List.setIfInBounds_toArray, List.set_cons_zero, List.set_cons_succ, i64_w, i32_w]
    rfl
  refine pure_ (i := 2) (N := some 109) (v := ?_) (a' := ?_) #[true, true, true, false, false, false, false, false, false, false, false, false, false, false, false, false] rfl rfl (by kernel_rfl) (fun _ _ _ h => h) (Or.inl ⟨by rfl, ?_⟩) ?_ ?_
  rotate_left
  · intro w'
    go_simp
    with_reducible rfl
  rotate_left
  · simp only [Act.put, List.setIfInBounds_toArray, List.set_cons_zero, List.set_cons_succ, i64_w, i32_w]
    rfl
  refine pure_ (i := 4) (N := some 111) (v := ?_) (a' := ?_) #[true, true, true, false, true, false, false, false, false, false, false, false, false, false, false, false] rfl rfl (by kernel_rfl) (fun _ _ _ h => h) (Or.inl ⟨by rfl, ?_⟩) ?_ ?_
  rotate_left
  · intro w'
    go_simp
    with_reducible rfl
  rotate_left
  · simp only [Act.put, List.setIfInBounds_toArray, List.set_cons_zero, List.set_cons_succ, i64_w, i32_w]
    rfl
  refine pure_ (i := 5) (N := some 112) (v := ?_) (a' := ?_) #[true, true, true, false, true, true, false, false, false, false, false, false, false, false, false, false] rfl rfl (by kernel_rfl) (fun _ _ _ h => h) (Or.inl ⟨by rfl, ?_⟩) ?_ ?_
  rotate_left
  · intro w'
    go_simp
    with_reducible rfl
  rotate_left
  · simp only [Act.put, List.setIfInBounds_toArray, List.set_cons_zero, List.set_cons_succ, i64_w, i32_w]
    rfl
  refine pure_ (i := 6) (N := some 113) (v := ?_) (a' := ?_) #[true, true, true, false, true, true, true, false, false, false, false, false, false, false, false, false] rfl rfl (by kernel_rfl) (fun _ _ _ h => h) (Or.inl ⟨by rfl, ?_⟩) ?_ ?_
  rotate_left
  · intro w'
    go_simp
    with_reducible rfl
  rotate_left
  · simp only [Act.put, List.setIfInBounds_toArray, List.set_cons_zero, List.set_cons_succ, i64_w, i32_w]
    rfl
  refine pure_ (i := 8) (N := some 115) (v := ?_) (a' := ?_) #[true, true, true, false, true, true, true, false, true, false, false, false, false, false, false, false] rfl rfl (by kernel_rfl) (fun _ _ _ h => h) (Or.inl ⟨by rfl, ?_⟩) ?_ ?_
  rotate_left
  · intro w'
    go_simp
    with_reducible rfl
  rotate_left
  · simp only [Act.put, List.setIfInBounds_toArray, List.set_cons_zero, List.set_cons_succ, i64_w, i32_w]
    rfl
  refine pure_ (i := 9) (N := some 116) (v := ?_) (a' := ?_) #[true, true, true, false, true, true, true, false, true, true, false, false, false, false, false, false] rfl rfl (by kernel_rfl) (fun _ _ _ h => h) (Or.inl ⟨by rfl, ?_⟩) ?_ ?_
  rotate_left
  · intro w'
    go_simp
    with_reducible rfl
  rotate_left
  · simp only [Act.put, List.setIfInBounds_toArray, List.set_cons_zero, List.set_cons_succ, i64_w, i32_w]
    rfl
  refine pure_ (i := 10) (N := some 117) (v := ?_) (a' := ?_) #[true, true, true, false, true, true, true, false, true, true, true, false, false, false, false, false] rfl rfl (by kernel_rfl) (fun _ _ _ h => h) (Or.inl ⟨by rfl, ?_⟩) ?_ ?_
  rotate_left
  · intro w'
    go_simp
    with_reducible rfl
  rotate_left
  · simp only [Act.put, List.setIfInBounds_toArray, List.set_cons_zero, List.set_cons_succ, i64_w, i32_w]
    rfl
  refine take_ (i := 3) (N := some 110) (v := ?_) (a' := ?_) #[true, true, true, true, true, true, true, false, true, true, true, false, false, false, false, false] rfl rfl (by kernel_rfl) (fun _ _ _ h => h) (Or.inl ⟨by rfl, ?_⟩) hHeld ?_ ?_
  rotate_left
  · rintro w' ⟨s0, s1, s2⟩
    go_simp
    with_reducible rfl
  rotate_left
  · simp only [Act.put, List.setIfInBounds_toArray, List.set_cons_zero, List.set_cons_succ, i64_w, i32_w]
    rfl
  refine take_ (i := 7) (N := some 114) (v := ?_) (a' := ?_) #[true, true, true, true, true, true, true, true, true, true, true, false, false, false, false, false] rfl rfl (by kernel_rfl) (fun _ _ _ h => h) (Or.inl ⟨by rfl, ?_⟩) hHeld ?_ ?_
  rotate_left
  · rintro w' ⟨s0, s1, s2⟩
    go_simp
    with_reducible rfl
  rotate_left
  · simp only [Act.put, List.setIfInBounds_toArray, List.set_cons_zero, List.set_cons_succ, i64_w, i32_w]
    rfl
  refine take_ (i := 11) (N := some 118) (v := ?_) (a' := ?_) #[true, true, true, true, true, true, true, true, true, true, true, true, false, false, false, false] rfl rfl (by kernel_rfl) (fun _ _ _ h => h) (Or.inl ⟨by rfl, ?_⟩) hHeld ?_ ?_
  rotate_left
  · rintro w' ⟨s0, s1, s2⟩
    go_simp
    with_reducible rfl
  rotate_left
  · simp only [Act.put, List.setIfInBounds_toArray, List.set_cons_zero, List.set_cons_succ, i64_w, i32_w]
    rfl
  refine pure_ (i := 12) (N := some 119) (v := ?_) (a' := ?_) #[true, true, true, true, true, true, true, true, true, true, true, true, true, false, false, false] rfl rfl (by kernel_rfl) (fun _ _ _ h => h) (Or.inl ⟨by rfl, ?_⟩) ?_ ?_
  rotate_left
  · intro w'
    go_simp
    with_reducible rfl
  rotate_left
  · simp only [Act.put, List.setIfInBounds_toArray, List.set_cons_zero, List.set_cons_succ, i64_w, i32_w]
    rfl
  refine pure_ (i := 13) (N := some 120) (v := ?_) (a' := ?_) #[true, true, true, true, true, true, true, true, true, true, true, true, true, true, false, false] rfl rfl (by kernel_rfl) (fun _ _ _ h => h) (Or.inl ⟨by rfl, ?_⟩) ?_ ?_
  rotate_left
  · intro w'
    go_simp
    with_reducible rfl
  rotate_left
  · simp only [Act.put, List.setIfInBounds_toArray, List.set_cons_zero, List.set_cons_succ, i64_w, i32_w]
    rfl
  refine pure_ (i := 14) (N := some 121) (v := ?_) (a' := ?_) #[true, true, true, true, true, true, true, true, true, true, true, true, true, true, true, false] rfl rfl (by kernel_rfl) (fun _ _ _ h => h) (Or.inl ⟨by rfl, ?_⟩) ?_ ?_
  rotate_left
  · intro w'
    go_simp
    with_reducible rfl
  rotate_left
  · simp only [Act.put, List.setIfInBounds_toArray, List.set_cons_zero, List.set_cons_succ, i64_w, i32_w]
    rfl
  refine last_ (i := 15) (N := none) #[true, true, true, true, true, true, true, true, true, true, true, true, true, true, true, true] rfl rfl (by kernel_rfl) (by decide) (fun K hK => ?_)
  refine skip_ (w1 := ?_) (by rfl) rfl ?_ ?_
  rotate_left
  · go_simp
    rfl
  refine hK.out _ _ ?_
  clear hK K
  refine done_ (by kernel_rfl) ?_
  clear hHeld u0 u1 u2 u3 u4
  rw [w64 (at_ - at0) (by omega)]
  change Hd (Mq base W0 S0 _ W ((W7.setCell ⟨g0, dn.length * 3 + 2, none⟩ (.int .i64 (at_ - at0))).drew) Bm _ d x _ dl xl _) at HP
  obtain ⟨W8, hW8⟩ : ∃ w_, (W7.setCell ⟨g0, dn.length * 3 + 2, none⟩ (.int .i64 (at_ - at0))).drew = w_ := ⟨_, rfl⟩
  rw [hW8] at HP ⊢
  clear hW8
  obtain ⟨sl, hsl⟩ : ∃ l, dn ++ [(⟨q0, f1, at_ - at0⟩ : S82)] = l := ⟨_, rfl⟩
  have hsn : dn.length + 1 = sl.length := by rw [← hsl]; simp
  rw [hsl] at HP
  have HSL := Hd.mk hsl
  rw [hsn] at HP ⊢
  have hsl7 : sl.length ≤ 70000 := by omega
  have hsc : (dn.length : Int) + 1 = (sl.length : Int) := by omega
  rw [hsc]
  have HSN := Hd.mk hsn
  clear hsn hsl hsc hw1 hw2 hw3
  have hw2 : (0 : Int) ≤ (sl.length : Int) := by omega
  have hw3 : (sl.length : Int) < (sl.length : Int) + 1 := by omega
  have hw1 : wrap64 (sl.length : Int) = (sl.length : Int) := w64 _ (by omega)
  obtain ⟨As0, cs0, hAs0⟩ : ∃ (A : Option Addr) (c : Nat), (some (⟨g0, 0, none⟩ : Addr)) = A ∧ cp0 = c := ⟨_, _, rfl, rfl⟩
  obtain ⟨ha1, ha2⟩ := hAs0
  rw [ha1, ha2] at HP ⊢
  clear ha1 ha2
  obtain ⟨m170, m171, m172, m173, m174, m175, m176⟩ := HP.out.cells
  obtain ⟨r170, r171, r172, r173, r174, r175, r176⟩ := HP.out.froz
  obtain ⟨z170, z171, z172⟩ := HP.out.box
  simp only at m170 m171 m172 m173 m174 m175 m176
  obtain ⟨A1, cp, w3, hr3, hb3, hq3⟩ := HP.out.newS (by omega)
  obtain ⟨g, cq, he⟩ := hq3.form (dn := sl) (t := ⟨0, 0, 0⟩)
  injection he with he1 _ he3
  subst he1
  subst he3
  have e1 : w3.cell? ⟨Bm, 1, none⟩ = some (.slice As0 sl.length cs0) := (blk_cell hb3 1).trans rfl
  have f1_ := blk_frozen hb3 1
  have HD := Hd.mk hq3
  clear hb3 hq3 HP
  go_upto_region 16 with fail
  clear m170 m171 m172 m173 m174 m175 m176 r170 r171 r172 r173 r174 r175 r176 z170 z171 z172
  clear hr3 e1 f1_
  obtain ⟨W4, hW4⟩ : ∃ w_, w3.setCell ⟨Bm, 1, none⟩ (.slice (some ⟨g, 0, none⟩) (sl.length + 1) cp) = w_ := ⟨_, rfl⟩
  rw [hW4] at HD ⊢
  clear hW4
  rw [show (⟨0, 0, 0⟩ : S82) = ⟨f0, 0, 0⟩ by rw [HF0.out]] at HD
  have HP := Hd.mk ((HD.out.below (Below.drew' W4)).poke 0 (by omega) (f0 + 1))
  simp only [setf, Nat.add_zero] at HP
  have u0 : W4.drew.cell? ⟨Bm, 1, none⟩ = some (.slice (some ⟨g, 0, none⟩) (sl.length + 1) cp) := HD.out.cells.2.1
  have u1 : W4.drew.cell? ⟨g, sl.length * 3, none⟩ = some (.int .i64 f0) := (HD.out.at_ 0 (by omega)).1
  have u2 : W4.drew.frozen? ⟨g, sl.length * 3, none⟩ = false := (HD.out.at_ 0 (by omega)).2
  clear HD
  go_upto_region 16 with fail
  refine start_ (n := 17) (S := fun w' => w'.cell? ⟨Bm, 1, none⟩ = some (.slice (some ⟨g, 0, none⟩) (sl.length + 1) cp) ∧ w'.cell? ⟨g, sl.length * 3, none⟩ = some (.int .i64 f0)) (ds := [16]) #[false, false, false, false, false, false, false, false, false, false, false, false, false, false, false, false, false] (by kernel_rfl) rfl rfl ⟨u0, u1⟩ (fun hHeld => ?_)
  refine pure_ (i := 0) (N := some 132) (v := ?_) (a' := ?_) #[true, false, false, false, false, false, false, false, false, false, false, false, false, false, false, false, false] rfl rfl (by kernel_rfl) (fun _ _ _ h => h) (Or.inl ⟨by rfl, ?_⟩) ?_ ?_
  rotate_left
  · intro w'
    go_simp
    with_reducible rfl
  rotate_left
  · simp only [Act.put, List.setIfInBounds_toArray, List.set_cons_zero, List.set_cons_succ, i64_w, i32_w]
    rfl
  refine pure_ (i := 1) (N := some 133) (v := ?_) (a' := ?_) #[true, true, false, false, false, false, false, false, false, false, false, false, false, false, false, false, false] rfl rfl (by kernel_rfl) (fun _ _ _ h => h) (Or.inl ⟨by rfl, ?_⟩) ?_ ?_
  rotate_left
  · intro w'
    go_simp
    with_reducible rfl
  rotate_left
  · simp only [Act.put, List.setIfInBounds_toArray, List.set_cons_zero, List.set_cons_succ, i64_w, i32_w]
    rfl
  refine pure_ (i := 2) (N := some 134) (v := ?_) (a' := ?_) #[true, true, true, false, false, false, false, false, false, false, false, false, false, false, false, false, false] rfl rfl (by kernel_rfl) (fun _ _ _ h => h) (Or.inl ⟨by rfl, ?_⟩) ?_ ?_
  rotate_left
  · intro w'
    go_simp
    with_reducible rfl
  rotate_left
  · simp only [Act.put, List.setIfInBounds_toArray, List.set_cons_zero, List.set_cons_succ, i64_w, i32_w]
    rfl
  refine pure_ (i := 4) (N := some 136) (v := ?_) (a' := ?_) #[true, true, true, false, true, false, false, false, false, false, false, false, false, false, false, false, false] rfl rfl (by kernel_rfl) (fun _ _ _ h => h) (Or.inl ⟨by rfl, ?_⟩) ?_ ?_
  rotate_left
  · intro w'
    go_simp
    with_reducible rfl
  rotate_left
  · simp only [Act.put, List.setIfInBounds_toArray, List.set_cons_zero, List.set_cons_succ, i64_w, i32_w]
    rfl
  refine pure_ (i := 5) (N := some 137) (v := ?_) (a' := ?_) #[true, true, true, false, true, true, false, false, false, false, false, false, false, false, false, false, false] rfl rfl (by kernel_rfl) (fun _ _ _ h => h) (Or.inl ⟨by rfl, ?_⟩) ?_ ?_
  rotate_left
  · intro w'
    go_simp
    with_reducible rfl
  rotate_left
  · simp only [Act.put, List.setIfInBounds_toArray, List.set_cons_zero, List.set_cons_succ, i64_w, i32_w]
    rfl
  refine pure_ (i := 6) (N := some 138) (v := ?_) (a' := ?_) #[true, true, true, false, true, true, true, false, false, false, false, false, false, false, false, false, false] rfl rfl (by kernel_rfl) (fun _ _ _ h => h) (Or.inl ⟨by rfl, ?_⟩) ?_ ?_
  rotate_left
  · intro w'
    go_simp
    with_reducible rfl
  rotate_left
  · simp only [Act.put, List.setIfInBounds_toArray, List.set_cons_zero, List.set_cons_succ, i64_w, i32_w]
    rfl
  refine take_ (i := 3) (N := some 135) (v := ?_) (a' := ?_) #[true, true, true, true, true, true, true, false, false, false, false, false, false, false, false, false, false] rfl rfl (by kernel_rfl) (fun _ _ _ h => h) (Or.inl ⟨by rfl, ?_⟩) hHeld ?_ ?_
  rotate_left
  · rintro w' ⟨s0, s1⟩
    go_simp
    with_reducible rfl
  rotate_left
  · simp only [Act.put, List.setIfInBounds_toArray, List.set_cons_zero, List.set_cons_succ, i64_w, i32_w]
    rfl
  refine take_ (i := 7) (N := some 139) (v := ?_) (a' := ?_) #[true, true, true, true, true, true, true, true, false, false, false, false, false, false, false, false, false] rfl rfl (by kernel_rfl) (fun _ _ _ h => h) (Or.inl ⟨by rfl, ?_⟩) hHeld ?_ ?_
  rotate_left
  · rintro w' ⟨s0, s1⟩
    go_simp
    with_reducible rfl
  rotate_left
  · simp only [Act.put, List.setIfInBounds_toArray, List.set_cons_zero, List.set_cons_succ, i64_w, i32_w]
    rfl
  refine pure_ (i := 8) (N := some 140) (v := ?_) (a' := ?_) #[true, true, true, true, true, true, true, true, true, false, false, false, false, false, false, false, false] rfl rfl (by kernel_rfl) (fun _ _ _ h => h) (Or.inl ⟨by rfl, ?_⟩) ?_ ?_
  rotate_left
  · intro w'
    go_simp
    with_reducible rfl
  rotate_left
  · simp only [Act.put, List.setIfInBounds_toArray, List.set_cons_zero, List.set_cons_succ, i64_w, i32_w]
    rfl
  refine pure_ (i := 9) (N := some 141) (v := ?_) (a' := ?_) #[true, true, true, true, true, true, true, true, true, true, false, false, false, false, false, false, false] rfl rfl (by kernel_rfl) (fun _ _ _ h => h) (Or.inl ⟨by rfl, ?_⟩) ?_ ?_
  rotate_left
  · intro w'
    go_simp
    with_reducible rfl
  rotate_left
  · simp only [Act.put, List.setIfInBounds_toArray, List.set_cons_zero, List.set_cons_succ, i64_w, i32_w]
    rfl
  refine pure_ (i := 10) (N := some 142) (v := ?_) (a' := ?_) #[true, true, true, true, true, true, true, true, true, true, true, false, false, false, false, false, false] rfl rfl (by kernel_rfl) (fun _ _ _ h => h) (Or.inl ⟨by rfl, ?_⟩) ?_ ?_
  rotate_left
  · intro w'
    go_simp
    with_reducible rfl
  rotate_left
  · simp only [Act.put, List.setIfInBounds_toArray, List.set_cons_zero, List.set_cons_succ, i64_w, i32_w]
    rfl
  refine pure_ (i := 11) (N := some 143) (v := ?_) (a' := ?_) #[true, true, true, true, true, true, true, true, true, true, true, true, false, false, false, false, false] rfl rfl (by kernel_rfl) (fun _ _ _ h => h) (Or.inl ⟨by rfl, ?_⟩) ?_ ?_
  rotate_left
  · intro w'
    go_simp
    with_reducible rfl
  rotate_left
  · simp only [Act.put, List.setIfInBounds_toArray, List.set_cons_zero, List.set_cons_succ, i64_w, i32_w]
    rfl
  refine take_ (i := 12) (N := some 144) (v := ?_) (a' := ?_) #[true, true, true, true, true, true, true, true, true, true, true, true, true, false, false, false, false] rfl rfl (by kernel_rfl) (fun _ _ _ h => h) (Or.inl ⟨by rfl, ?_⟩) hHeld ?_ ?_
  rotate_left
  · rintro w' ⟨s0, s1⟩
    go_simp
    with_reducible rfl
  rotate_left
  · simp only [Act.put, List.setIfInBounds_toArray, List.set_cons_zero, List.set_cons_succ, i64_w, i32_w]
    rfl
  refine pure_ (i := 13) (N := some 145) (v := ?_) (a' := ?_) #[true, true, true, true, true, true, true, true, true, true, true, true, true, true, false, false, false] rfl rfl (by kernel_rfl) (fun _ _ _ h => h) (Or.inl ⟨by rfl, ?_⟩) ?_ ?_
  rotate_left
  · intro w'
    go_simp
    with_reducible rfl
  rotate_left
  · simp only [Act.put, List.setIfInBounds_toArray, List.set_cons_zero, List.set_cons_succ, i64_w, i32_w]
    rfl
  refine pure_ (i := 14) (N := some 146) (v := ?_) (a' := ?_) #[true, true, true, true, true, true, true, true, true, true, true, true, true, true, true, false, false] rfl rfl (by kernel_rfl) (fun _ _ _ h => h) (Or.inl ⟨by rfl, ?_⟩) ?_ ?_
  rotate_left
  · intro w'
    go_simp
    with_reducible rfl
  rotate_left
  · simp only [Act.put, List.setIfInBounds_toArray, List.set_cons_zero, List.set_cons_succ, i64_w, i32_w]
    rfl
  refine pure_ (i := 15) (N := some 147) (v := ?_) (a' := ?_) #[true, true, true, true, true, true, true, true, true, true, true, true, true, true, true, true, false] rfl rfl (by kernel_rfl) (fun _ _ _ h => h) (Or.inl ⟨by rfl, ?_⟩) ?_ ?_
  rotate_left
  · intro w'
    go_simp
    with_reducible rfl
  rotate_left
  · simp only [Act.put, List.setIfInBounds_toArray, List.set_cons_zero, List.set_cons_succ, i64_w, i32_w]
    rfl
  refine last_ (i := 16) (N := none) #[true, true, true, true, true, true, true, true, true, true, true, true, true, true, true, true, true] rfl rfl (by kernel_rfl) (by decide) (fun K hK => ?_)
  refine skip_ (w1 := ?_) (by rfl) rfl ?_ ?_
  rotate_left
  · go_simp
    rfl
  refine hK.out _ _ ?_
  clear hK K
  refine done_ (by kernel_rfl) ?_
  clear hHeld u0 u1 u2
  change Hd (Mq base W0 S0 _ W ((W4.setCell ⟨g, sl.length * 3, none⟩ (.int .i64 (f0 + 1))).drew) Bm _ d x _ dl xl _) at HP
  rw [w64 (f0 + 1) (by omega)]
  obtain ⟨W5, hW5⟩ : ∃ w_, (W4.setCell ⟨g, sl.length * 3, none⟩ (.int .i64 (f0 + 1))).drew = w_ := ⟨_, rfl⟩
  rw [hW5] at HP ⊢
  clear hW5
  go_upto_region 17 with fail
  have hd9 := HP.out.below (Below.drew' W5)
  have c2 : W5.drew.cell? ⟨Bm, 2, none⟩ = some d := hd9.cells.2.2.1
  have z2 := hd9.box.2.2
  obtain ⟨A, cx, w9, hrun, hb9, hq⟩ := hd9.newD b (by omega)
  have hba := Hd.mk ((Below.refl W5.drew.heap.size W5.drew).alloc (Nat.le_refl _) (.cells #[.int .u8 b] 5))
  have hrun2 : (Builtin.append_ #[24, 24] 24 #[d, .slice (some ⟨W5.heap.size, 0, none⟩) 1 1]).run Try.prog ((W5.alloc (.cells #[.int .u8 b] 5)).drew) = .ok (.slice A (dl.length + 1) cx) w9 := hrun
  clear hrun
  have e2 : w9.cell? ⟨Bm, 2, none⟩ = some d := (blk_cell hb9 2).trans rfl
  have f2 := blk_frozen hb9 2
  have HQ := Hd.mk hq
  clear hd9 hb9 hq HP
  refine start_ (n := 12) (S := fun w' => w'.cell? ⟨Bm, 2, none⟩ = some d ∧ w'.cell? ⟨W.heap.size, 2, none⟩ = some (.int .u8 b)) (ds := [8, 11]) #[false, false, false, false, false, false, false, false, false, false, false, false] (by kernel_rfl) rfl rfl ⟨c2, z2⟩ (fun hHeld => ?_)
  refine pure_ (i := 0) (N := some 148) (v := ?_) (a' := ?_) #[true, false, false, false, false, false, false, false, false, false, false, false] rfl rfl (by kernel_rfl) (fun _ _ _ h => h) (Or.inl ⟨by rfl, ?_⟩) ?_ ?_
  rotate_left
  · intro w'
    go_simp
    with_reducible rfl
  rotate_left
  · simp only [Act.put, List.setIfInBounds_toArray, List.set_cons_zero, List.set_cons_succ, i64_w, i32_w]
    rfl
  refine pure_ (i := 1) (N := some 149) (v := ?_) (a' := ?_) #[true, true, false, false, false, false, false, false, false, false, false, false] rfl rfl (by kernel_rfl) (fun _ _ _ h => h) (Or.inl ⟨by rfl, ?_⟩) ?_ ?_
  rotate_left
  · intro w'
    go_simp
    with_reducible rfl
  rotate_left
  · simp only [Act.put, List.setIfInBounds_toArray, List.set_cons_zero, List.set_cons_succ, i64_w, i32_w]
    rfl
  refine pure_ (i := 2) (N := some 150) (v := ?_) (a' := ?_) #[true, true, true, false, false, false, false, false, false, false, false, false] rfl rfl (by kernel_rfl) (fun _ _ _ h => h) (Or.inl ⟨by rfl, ?_⟩) ?_ ?_
  rotate_left
  · intro w'
    go_simp
    with_reducible rfl
  rotate_left
  · simp only [Act.put, List.setIfInBounds_toArray, List.set_cons_zero, List.set_cons_succ, i64_w, i32_w]
    rfl
  refine pure_ (i := 3) (N := some 151) (v := ?_) (a' := ?_) #[true, true, true, true, false, false, false, false, false, false, false, false] rfl rfl (by kernel_rfl) (fun _ _ _ h => h) (Or.inl ⟨by rfl, ?_⟩) ?_ ?_
  rotate_left
  · intro w'
    go_simp
    with_reducible rfl
  rotate_left
  · simp only [Act.put, List.setIfInBounds_toArray, List.set_cons_zero, List.set_cons_succ, i64_w, i32_w]
    rfl
  refine pure_ (i := 5) (N := some 153) (v := ?_) (a' := ?_) #[true, true, true, true, false, true, false, false, false, false, false, false] rfl rfl (by kernel_rfl) (fun _ _ _ h => h) (Or.inl ⟨by rfl, ?_⟩) ?_ ?_
  rotate_left
  · intro w'
    go_simp
    with_reducible rfl
  rotate_left
  · simp only [Act.put, List.setIfInBounds_toArray, List.set_cons_zero, List.set_cons_succ, i64_w, i32_w]
    rfl
  refine take_ (i := 4) (N := some 152) (v := ?_) (a' := ?_) #[true, true, true, true, true, true, false, false, false, false, false, false] rfl rfl (by kernel_rfl) (fun _ _ _ h => h) (Or.inl ⟨by rfl, ?_⟩) hHeld ?_ ?_
  rotate_left
  · rintro w' ⟨s0, s1⟩
    go_simp
    with_reducible rfl
  rotate_left
  · simp only [Act.put, List.setIfInBounds_toArray, List.set_cons_zero, List.set_cons_succ, i64_w, i32_w]
    rfl
  refine take_ (i := 6) (N := some 154) (v := ?_) (a' := ?_) #[true, true, true, true, true, true, true, false, false, false, false, false] rfl rfl (by kernel_rfl) (fun _ _ _ h => h) (Or.inl ⟨by rfl, ?_⟩) hHeld ?_ ?_
  rotate_left
  · rintro w' ⟨s0, s1⟩
    go_simp
    with_reducible rfl
  rotate_left
  · simp only [Act.put, List.setIfInBounds_toArray, List.set_cons_zero, List.set_cons_succ, i64_w, i32_w]
    rfl
  refine one_ (i := 7) (N := some 155) #[true, true, true, true, true, true, true, true, false, false, false, false] rfl rfl (by kernel_rfl) (by decide) (fun K hK => ?_)
  refine value_ (w1 := ?_) (v := ?_) (by rfl) rfl ?_ ?_
  rotate_left 2
  · go_simp
    constructor
    · rfl
    · rfl
  refine hK.out _ _ ⟨pw_cell_below hba.out c2, pw_cell_below hba.out z2⟩ (fun hHeld => ?_)
  clear hK K
  refine norm_ (a' := ?_) ?_ ?_
  rotate_left
  · show Act.put _ (some 155) _ = _
    simp only [Act.put, List.setIfInBounds_toArray, List.set_cons_zero, List.set_cons_succ, i64_w, i32_w]
    rfl
  refine last_ (i := 8) (N := some 156) #[true, true, true, true, true, true, true, true, true, false, false, false] rfl rfl (by kernel_rfl) (by decide) (fun K hK => ?_)
  refine value_ (w1 := w9) (v := .slice A (dl.length + 1) cx) (by rfl) rfl ?_ ?_
  · (go_simp; first | done | (rw [hrun2]; rfl))
  refine hK.out _ _ ?_
  clear hK K
  refine norm_ (a' := ?_) ?_ ?_
  rotate_left
  · show Act.put _ (some 156) _ = _
    simp only [Act.put, List.setIfInBounds_toArray, List.set_cons_zero, List.set_cons_succ, i64_w, i32_w]
    rfl
  refine pure_ (i := 9) (N := some 157) (v := ?_) (a' := ?_) #[true, true, true, true, true, true, true, true, true, true, false, false] rfl rfl (by kernel_rfl) (fun _ _ _ h => h) (Or.inl ⟨by rfl, ?_⟩) ?_ ?_
  rotate_left
  · intro w'
    go_simp
    with_reducible rfl
  rotate_left
  · simp only [Act.put, List.setIfInBounds_toArray, List.set_cons_zero, List.set_cons_succ, i64_w, i32_w]
    rfl
  refine pure_ (i := 10) (N := some 158) (v := ?_) (a' := ?_) #[true, true, true, true, true, true, true, true, true, true, true, false] rfl rfl (by kernel_rfl) (fun _ _ _ h => h) (Or.inl ⟨by rfl, ?_⟩) ?_ ?_
  rotate_left
  · intro w'
    go_simp
    with_reducible rfl
  rotate_left
  · simp only [Act.put, List.setIfInBounds_toArray, List.set_cons_zero, List.set_cons_succ, i64_w, i32_w]
    rfl
  refine last_ (i := 11) (N := none) #[true, true, true, true, true, true, true, true, true, true, true, true] rfl rfl (by kernel_rfl) (by decide) (fun K hK => ?_)
  refine skip_ (w1 := ?_) (by rfl) rfl ?_ ?_
  rotate_left
  · go_simp
    rfl
  refine hK.out _ _ ?_
  clear hK K
  refine done_ (by kernel_rfl) ?_
  clear c2 z2 hba hrun2 hHeld
  obtain ⟨W6, hW6⟩ : ∃ w_, w9.setCell ⟨Bm, 2, none⟩ (.slice A (dl.length + 1) cx) = w_ := ⟨_, rfl⟩
  rw [hW6] at HQ ⊢
  clear hW6
  clear e2 f2
  have HR := Hd.mk ((HQ.out.less (Z' := Z) (fun q hq => List.mem_cons_of_mem _ hq)).setAt (at_ + 1))
  obtain ⟨m180, m181, m182, m183, m184, m185, m186⟩ := HQ.out.cells
  obtain ⟨r180, r181, r182, r183, r184, r185, r186⟩ := HQ.out.froz
  obtain ⟨z180, z181, z182⟩ := HQ.out.box
  simp only at m180 m181 m182 m183 m184 m185 m186
  clear HQ
  simp only at HR
  go_wp2
  go_end0
  rw [show dn ++ [(⟨q0, f1, at_ - at0⟩ : S82), ⟨f0 + 1, 0, 0⟩] = sl ++ [(⟨f0 + 1, 0, 0⟩ : S82)] by rw [← HSL.out]; simp]
  exact ⟨rfl, _, _, _, HR.out⟩
set_option maxRecDepth 100000 in
set_option maxHeartbeats 4000000 in
theorem take_p5b (base : Nat) (W0 : World) (S0 : Nat → Prop) (Z : List (Nat × Obj)) (W : World) (Bm : Nat) (s d x : Value) (dl xl : List Int) (pos sz at0 at_ b : Int) (dn : List S82) (q0 f1 f0 z0 : Int)
    (h : Mq base W0 S0 Z W W Bm s d x (dn ++ [⟨q0, f1, 0⟩]) dl xl ⟨pos, sz, at0, true⟩) (hd : dl.length ≤ 70000) (hx : xl.length ≤ 70000) (hs : 0 ≤ sz ∧ sz ≤ 70000) (hat : -1152921504606846976 ≤ at_ ∧ at_ ≤ 1152921504606846976) (hn : dn.length ≤ 69999) (h0 : -1152921504606846976 ≤ at0 ∧ at0 ≤ 1152921504606846976) (hf0 : f0 = 0) (hf1 : f1 = 0) (hne : at_ ≠ at0) :
    Calls Try.prog 42 #[.pointer (some ⟨Bm, 0, none⟩), .agg #[.bool true, .int .i64 at_, .int .u8 b]] W (fun e w' => e = .returned (.tuple #[]) ∧ ∃ s d x, Mq base W0 S0 Z W w' Bm s d x ((dn ++ [⟨q0, f1, at_ - at0⟩]) ++ [⟨f0 + 1, 0, 0⟩]) (dl ++ [b]) xl ⟨pos, sz + 1, at_ + 1, true⟩) := by
  obtain ⟨g0, cp0, rfl⟩ := h.form
  have hc : 0 ≤ f0 ∧ f0 ≤ 70000 := by omega
  have HF0 := Hd.mk hf0
  clear hf0
  have hw2 : (0 : Int) ≤ (dn.length : Int) := by omega
  have hw3 : (dn.length : Int) < (dn.length : Int) + 1 := by omega
  have hw1 : wrap64 (dn.length : Int) = (dn.length : Int) := w64 _ (by omega)
  subst hf1
  have hd1 : (at_ != at0) = true := by simpa using hne
  have HNE := Hd.mk hne
  clear hne
  have h1 := h.add (.cells #[.bool true, .int .i64 at_, .int .u8 b] 91)
  clear h
  have hbm : Bm ≠ W.heap.size := by have := h1.bmlt; have := (h1.z _ List.mem_cons_self).2; intro e; exact this (.inl e.symm)
  have H2 := Hd.mk (h1.setSz (sz + 1))
  obtain ⟨m190, m191, m192, m193, m194, m195, m196⟩ := h1.cells
  obtain ⟨r190, r191, r192, r193, r194, r195, r196⟩ := h1.froz
  obtain ⟨z190, z191, z192⟩ := h1.box
  simp only at m190 m191 m192 m193 m194 m195 m196
  have H1 := Hd.mk h1
  clear h1
  go_enter Try.func42, Try.ntmps42
  go_upto_region 3 with fail
  clear m190 m191 m192 m193 m194 m195 m196 r190 r191 r192 r193 r194 r195 r196 z190 z191 z192
  obtain ⟨W2, hW2⟩ : ∃ w_, (W.alloc (.cells #[.bool true, .int .i64 at_, .int .u8 b] 91)).setCell ⟨Bm, 4, none⟩ (.int .i64 (sz + 1)) = w_ := ⟨_, rfl⟩
  rw [hW2] at H2 ⊢
  clear hW2 H1
  simp only at H2
  obtain ⟨m200, m201, m202, m203, m204, m205, m206⟩ := H2.out.cells
  obtain ⟨r200, r201, r202, r203, r204, r205, r206⟩ := H2.out.froz
  obtain ⟨z200, z201, z202⟩ := H2.out.box
  simp only at m200 m201 m202 m203 m204 m205 m206
  obtain ⟨g200, h200⟩ := H2.out.at_ 0 (by omega)
  obtain ⟨g201, h201⟩ := H2.out.at_ 1 (by omega)
  obtain ⟨g202, h202⟩ := H2.out.at_ 2 (by omega)
  simp only [getf] at g200 g201 g202
  simp only [Nat.add_zero] at g200 h200
  go_upto_region 13 with fail
  refine start_ (n := 20) (S := fun w' => w'.cell? ⟨Bm, 1, none⟩ = some (.slice (some ⟨g0, 0, none⟩) (dn.length + 1) cp0) ∧ w'.cell? ⟨g0, dn.length * 3 + 1, none⟩ = some (.int .i64 0) ∧ w'.cell? ⟨W.heap.size, 1, none⟩ = some (.int .i64 at_) ∧ w'.cell? ⟨Bm, 5, none⟩ = some (.int .i64 at0)) (ds := []) #[false, false, false, false, false, false, false, false, false, false, false, false, false, false, false, false, false, false, false, false] (by kernel_rfl) rfl rfl ⟨m201, g201, z201, m205⟩ (fun hHeld => ?_)
  refine pure_ (i := 0) (N := some 88) (v := ?_) (a' := ?_) #[true, false, false, false, false, false, false, false, false, false, false, false, false, false, false, false, false, false, false, false] rfl rfl (by kernel_rfl) (fun _ _ _ h => h) (Or.inl ⟨by rfl, ?_⟩) ?_ ?_
  rotate_left
  · intro w'
    go_simp
    with_reducible rfl
  rotate_left
  · simp only [Act.put, List.setIfInBounds_toArray, List.set_cons_zero, List.set_cons_succ, i64_w, i32_w]
    rfl
  refine pure_ (i := 1) (N := some 89) (v := ?_) (a' := ?_) #[true, true, false, false, false, false, false, false, false, false, false, false, false, false, false, false, false, false, false, false] rfl rfl (by kernel_rfl) (fun _ _ _ h => h) (Or.inl ⟨by rfl, ?_⟩) ?_ ?_
  rotate_left
  · intro w'
    go_simp
    with_reducible rfl
  rotate_left
  · simp only [Act.put, List.setIfInBounds_toArray, List.set_cons_zero, List.set_cons_succ, i64_w, i32_w]
    rfl
  refine pure_ (i := 2) (N := some 90) (v := ?_) (a' := ?_) #[true, true, true, false, false, false, false, false, false, false, false, false, false, false, false, false, false, false, false, false] rfl rfl (by kernel_rfl) (fun _ _ _ h => h) (Or.inl ⟨by rfl, ?_⟩) ?_ ?_
  rotate_left
  · intro w'
    go_simp
    with_reducible rfl
  rotate_left
  · simp only [Act.put, List.setIfInBounds_toArray, List.set_cons_zero, List.set_cons_succ, i64_w, i32_w]
    rfl
  refine pure_ (i := 4) (N := some 92) (v := ?_) (a' := ?_) #[true, true, true, false, true, false, false, false, false, false, false, false, false, false, false, false, false, false, false, false] rfl rfl (by kernel_rfl) (fun _ _ _ h => h) (Or.inl ⟨by rfl, ?_⟩) ?_ ?_
  rotate_left
  · intro w'
    go_simp
    with_reducible rfl
  rotate_left
  · simp only [Act.put, List.setIfInBounds_toArray, List.set_cons_zero, List.set_cons_succ, i64_w, i32_w]
    rfl
  refine pure_ (i := 5) (N := some 93) (v := ?_) (a' := ?_) #[true, true, true, false, true, true, false, false, false, false, false, false, false, false, false, false, false, false, false, false] rfl rfl (by kernel_rfl) (fun _ _ _ h => h) (Or.inl ⟨by rfl, ?_⟩) ?_ ?_
  rotate_left
  · intro w'
    go_simp
    with_reducible rfl
  rotate_left
  · simp only [Act.put, List.setIfInBounds_toArray, List.set_cons_zero, List.set_cons_succ, i64_w, i32_w]
    rfl
  refine take_ (i := 3) (N := some 91) (v := ?_) (a' := ?_) #[true, true, true, true, true, true, false, false, false, false, false, false, false, false, false, false, false, false, false, false] rfl rfl (by kernel_rfl) (fun _ _ _ h => h) (Or.inl ⟨by rfl, ?_⟩) hHeld ?_ ?_
  rotate_left
  · rintro w' ⟨s0, s1, s2, s3⟩
    go_simp
    with_reducible rfl
  rotate_left
  · simp only [Act.put, List.setIfInBounds_toArray, List.set_cons_zero, List.set_cons_succ, i64_w, i32_w]
    rfl
  refine pure_ (i := 6) (N := some 94) (v := ?_) (a' := ?_) #[true, true, true, true, true, true, true, false, false, false, false, false, false, false, false, false, false, false, false, false] rfl rfl (by kernel_rfl) (fun _ _ _ h => h) (Or.inl ⟨by rfl, ?_⟩) ?_ ?_
  rotate_left
  · intro w'
    go_simp
    with_reducible rfl
  rotate_left
  · simp only [Act.put, List.setIfInBounds_toArray, List.set_cons_zero, List.set_cons_succ, i64_w, i32_w]
    rfl
  refine pure_ (i := 7) (N := some 95) (v := ?_) (a' := ?_) #[true, true, true, true, true, true, true, true, false, false, false, false, false, false, false, false, false, false, false, false] rfl rfl (by kernel_rfl) (fun _ _ _ h => h) (Or.inl ⟨by rfl, ?_⟩) ?_ ?_
  rotate_left
  · intro w'
    go_simp
    with_reducible rfl
  rotate_left
  · simp only [Act.put, List.setIfInBounds_toArray, List.set_cons_zero, List.set_cons_succ, i64_w, i32_w]
    rfl
  refine take_ (i := 8) (N := some 96) (v := ?_) (a' := ?_) #[true, true, true, true, true, true, true, true, true, false, false, false, false, false, false, false, false, false, false, false] rfl rfl (by kernel_rfl) (fun _ _ _ h => h) (Or.inl ⟨by rfl, ?_⟩) hHeld ?_ ?_
  rotate_left
  · rintro w' ⟨s0, s1, s2, s3⟩
    go_simp
    with_reducible rfl
  rotate_left
  · simp only [Act.put, List.setIfInBounds_toArray, List.set_cons_zero, List.set_cons_succ, i64_w, i32_w]
    rfl
  refine pure_ (i := 9) (N := some 97) (v := ?_) (a' := ?_) #[true, true, true, true, true, true, true, true, true, true, false, false, false, false, false, false, false, false, false, false] rfl rfl (by kernel_rfl) (fun _ _ _ h => h) (Or.inl ⟨by rfl, ?_⟩) ?_ ?_
  rotate_left
  · intro w'
    go_simp
    with_reducible rfl
  rotate_left
  · simp only [Act.put, List.setIfInBounds_toArray, List.set_cons_zero, List.set_cons_succ, i64_w, i32_w]
    rfl
  refine pure_ (i := 10) (N := some 98) (v := ?_) (a' := ?_) #[true, true, true, true, true, true, true, true, true, true, true, false, false, false, false, false, false, false, false, false] rfl rfl (by kernel_rfl) (fun _ _ _ h => h) (Or.inl ⟨by rfl, ?_⟩) ?_ ?_
  rotate_left
  · intro w'
    go_simp
    with_reducible rfl
  rotate_left
  · simp only [Act.put, List.setIfInBounds_toArray, List.set_cons_zero, List.set_cons_succ, i64_w, i32_w]
    rfl
  refine pure_ (i := 11) (N := some 99) (v := ?_) (a' := ?_) #[true, true, true, true, true, true, true, true, true, true, true, true, false, false, false, false, false, false, false, false] rfl rfl (by kernel_rfl) (fun _ _ _ h => h) (Or.inl ⟨by rfl, ?_⟩) ?_ ?_
  rotate_left
  · intro w'
    go_simp
    with_reducible rfl
  rotate_left
  · simp only [Act.put, List.setIfInBounds_toArray, List.set_cons_zero, List.set_cons_succ, i64_w, i32_w]
    rfl
  refine pure_ (i := 13) (N := some 101) (v := ?_) (a' := ?_) #[true, true, true, true, true, true, true, true, true, true, true, true, false, true, false, false, false, false, false, false] rfl rfl (by kernel_rfl) (fun _ _ _ h => h) (Or.inl ⟨by rfl, ?_⟩) ?_ ?_
  rotate_left
  · intro w'
    go_simp
    with_reducible rfl
  rotate_left
  · simp only [Act.put, List.setIfInBounds_toArray, List.set_cons_zero, List.set_cons_succ, i64_w, i32_w]
    rfl
  refine pure_ (i := 14) (N := some 102) (v := ?_) (a' := ?_) #[true, true, true, true, true, true, true, true, true, true, true, true, false, true, true, false, false, false, false, false] rfl rfl (by kernel_rfl) (fun _ _ _ h => h) (Or.inl ⟨by rfl, ?_⟩) ?_ ?_
  rotate_left
  · intro w'
    go_simp
    with_reducible rfl
  rotate_left
  · simp only [Act.put, List.setIfInBounds_toArray, List.set_cons_zero, List.set_cons_succ, i64_w, i32_w]
    rfl
  refine pure_ (i := 15) (N := some 103) (v := ?_) (a' := ?_) #[true, true, true, true, true, true, true, true, true, true, true, true, false, true, true, true, false, false, false, false] rfl rfl (by kernel_rfl) (fun _ _ _ h => h) (Or.inl ⟨by rfl, ?_⟩) ?_ ?_
  rotate_left
  · intro w'
    go_simp
    with_reducible rfl
  rotate_left
  · simp only [Act.put, List.setIfInBounds_toArray, List.set_cons_zero, List.set_cons_succ, i64_w, i32_w]
    rfl
  refine take_ (i := 12) (N := some 100) (v := ?_) (a' := ?_) #[true, true, true, true, true, true, true, true, true, true, true, true, true, true, true, true, false, false, false, false] rfl rfl (by kernel_rfl) (fun _ _ _ h => h) (Or.inl ⟨by rfl, ?_⟩) hHeld ?_ ?_
  rotate_left
  · rintro w' ⟨s0, s1, s2, s3⟩
    go_simp
    with_reducible rfl
  rotate_left
  · simp only [Act.put, List.setIfInBounds_toArray, List.set_cons_zero, List.set_cons_succ, i64_w, i32_w]
    rfl
  refine take_ (i := 16) (N := some 104) (v := ?_) (a' := ?_) #[true, true, true, true, true, true, true, true, true, true, true, true, true, true, true, true, true, false, false, false] rfl rfl (by kernel_rfl) (fun _ _ _ h => h) (Or.inl ⟨by rfl, ?_⟩) hHeld ?_ ?_
  rotate_left
  · rintro w' ⟨s0, s1, s2, s3⟩
    go_simp
    with_reducible rfl
  rotate_left
  · simp only [Act.put, List.setIfInBounds_toArray, List.set_cons_zero, List.set_cons_succ, i64_w, i32_w]
    rfl
  refine pure_ (i := 17) (N := some 105) (v := ?_) (a' := ?_) #[true, true, true, true, true, true, true, true, true, true, true, true, true, true, true, true, true, true, false, false] rfl rfl (by kernel_rfl) (fun _ _ _ h => h) (Or.inl ⟨by rfl, ?_⟩) ?_ ?_
  rotate_left
  · intro w'
    go_simp
    with_reducible rfl
  rotate_left
  · simp only [Act.put, List.setIfInBounds_toArray, List.set_cons_zero, List.set_cons_succ, i64_w, i32_w]
    rfl
  refine pure_ (i := 18) (N := some 106) (v := ?_) (a' := ?_) #[true, true, true, true, true, true, true, true, true, true, true, true, true, true, true, true, true, true, true, false] rfl rfl (by kernel_rfl) (fun _ _ _ h => h) (Or.inl ⟨by rfl, ?_⟩) ?_ ?_
  rotate_left
  · intro w'
    go_simp
    with_reducible rfl
  rotate_left
  · simp only [Act.put, List.setIfInBounds_toArray, List.set_cons_zero, List.set_cons_succ, i64_w, i32_w]
    rfl
  refine pure_ (i := 19) (N := some 87) (v := ?_) (a' := ?_) #[true, true, true, true, true, true, true, true, true, true, true, true, true, true, true, true, true, true, true, true] rfl rfl (by kernel_rfl) (fun _ _ _ h => h) (Or.inl ⟨by rfl, ?_⟩) ?_ ?_
  rotate_left
  · intro w'
    go_simp
    with_reducible rfl
  rotate_left
  · simp only [Act.put, List.setIfInBounds_toArray, List.set_cons_zero, List.set_cons_succ, i64_w, i32_w]
    rfl
  refine done_ (by kernel_rfl) ?_
  clear hHeld
  have HD := Hd.mk (H2.out.below (Below.drew' W2))
  clear H2
  clear m200 m201 m202 m203 m204 m205 m206 r200 r201 r202 r203 r204 r205 r206 z200 z201 z202 g200 h200 g201 h201 g202 h202
  obtain ⟨W7, hW7⟩ : ∃ w_, W2.drew = w_ := ⟨_, rfl⟩
  rw [hW7] at HD ⊢
  clear hW7
  have HP := Hd.mk ((HD.out.below (Below.drew' W7)).poke 2 (by omega) (at_ - at0))
  simp only [setf] at HP
  have hdd := HD.out.below (Below.drew' W7)
  have u0 : W7.drew.cell? ⟨Bm, 1, none⟩ = some (.slice (some ⟨g0, 0, none⟩) (dn.length + 1) cp0) := hdd.cells.2.1
  have u3 : W7.drew.cell? ⟨Bm, 5, none⟩ = some (.int .i64 at0) := hdd.cells.2.2.2.2.2.1
  have u4 : W7.drew.cell? ⟨W.heap.size, 1, none⟩ = some (.int .i64 at_) := hdd.box.2.1
  have u1 := (hdd.at_ 2 (by omega)).1
  have u2 := (hdd.at_ 2 (by omega)).2
  simp only [getf] at u1
  clear HD hdd
  go_upto_region 14 with fail
  refine start_ (n := 16) (S := fun w' => w'.cell? ⟨Bm, 1, none⟩ = some (.slice (some ⟨g0, 0, none⟩) (dn.length + 1) cp0) ∧ w'.cell? ⟨Bm, 5, none⟩ = some (.int .i64 at0) ∧ w'.cell? ⟨W.heap.size, 1, none⟩ = some (.int .i64 at_)) (ds := [15]) #[false, false, false, false, false, false, false, false, false, false, false, false, false, false, false, false] (by kernel_rfl) rfl rfl ⟨u0, u3, u4⟩ (fun hHeld => ?_)
  refine pure_ (i := 0) (N := some 107) (v := ?_) (a' := ?_) #[true, false, false, false, false, false, false, false, false, false, false, false, false, false, false, false] rfl rfl (by kernel_rfl) (fun _ _ _ h => h) (Or.inl ⟨by rfl, ?_⟩) ?_ ?_
  rotate_left
  · intro w'
    go_simp
    with_reducible rfl
  rotate_left
  · simp only [Act.put, List.setIfInBounds_toArray, List.set_cons_zero, List.set_cons_succ, i64_w, i32_w]
    rfl
  refine pure_ (i := 1) (N := some 108) (v := ?_) (a' := ?_) #[true, true, false, false, false, false, false, false, false, false, false, false, false, false, false, false] rfl rfl (by kernel_rfl) (fun _ _ _ h => h) (Or.inl ⟨by rfl, ?_⟩) ?_ ?_
  rotate_left
  · intro w'
    go_simp
    with_reducible rfl
  rotate_left
  · simp only [Act.put, List.setIfInBounds_toArray, List.set_cons_zero, List.set_cons_succ, i64_w, i32_w]
    rfl
  refine pure_ (i := 2) (N := some 109) (v := ?_) (a' := ?_) #[true, true, true, false, false, false, false, false, false, false, false, false, false, false, false, false] rfl rfl (by kernel_rfl) (fun _ _ _ h => h) (Or.inl ⟨by rfl, ?_⟩) ?_ ?_
  rotate_left
  · intro w'
    go_simp
    with_reducible rfl
  rotate_left
  · simp only [Act.put, List.setIfInBounds_toArray, List.set_cons_zero, List.set_cons_succ, i64_w, i32_w]
    rfl
  refine pure_ (i := 4) (N := some 111) (v := ?_) (a' := ?_) #[true, true, true, false, true, false, false, false, false, false, false, false, false, false, false, false] rfl rfl (by kernel_rfl) (fun _ _ _ h => h) (Or.inl ⟨by rfl, ?_⟩) ?_ ?_
  rotate_left
  · intro w'
    go_simp
    with_reducible rfl
  rotate_left
  · simp only [Act.put, List.setIfInBounds_toArray, List.set_cons_zero, List.set_cons_succ, i64_w, i32_w]
    rfl
  refine pure_ (i := 5) (N := some 112) (v := ?_) (a' := ?_) #[true, true, true, false, true, true, false, false, false, false, false, false, false, false, false, false] rfl rfl (by kernel_rfl) (fun _ _ _ h => h) (Or.inl ⟨by rfl, ?_⟩) ?_ ?_
  rotate_left
  · intro w'
    go_simp
    with_reducible rfl
  rotate_left
  · simp only [Act.put, List.setIfInBounds_toArray, List.set_cons_zero, List.set_cons_succ, i64_w, i32_w]
    rfl
  refine pure_ (i := 6) (N := some 113) (v := ?_) (a' := ?_) #[true, true, true, false, true, true, true, false, false, false, false, false, false, false, false, false] rfl rfl (by kernel_rfl) (fun _ _ _ h => h) (Or.inl ⟨by rfl, ?_⟩) ?_ ?_
  rotate_left
  · intro w'
    go_simp
    with_reducible rfl
  rotate_left
  · simp only [Act.put, List.setIfInBounds_toArray, List.set_cons_zero, List.set_cons_succ, i64_w, i32_w]
    rfl
  refine pure_ (i := 8) (N := some 115) (v := ?_) (a' := ?_) #[true, true, true, false, true, true, true, false, true, false, false, false, false, false, false, false] rfl rfl (by kernel_rfl) (fun _ _ _ h => h) (Or.inl ⟨by rfl, ?_⟩) ?_ ?_
  rotate_left
  · intro w'
    go_simp
    with_reducible rfl
  rotate_left
  · simp only [Act.put, List.setIfInBounds_toArray, List.set_cons_zero, List.set_cons_succ, i64_w, i32_w]
    rfl
  refine pure_ (i := 9) (N := some 116) (v := ?_) (a' := ?_) #[true, true, true, false, true, true, true, false, true, true, false, false, false, false, false, false] rfl rfl (by kernel_rfl) (fun _ _ _ h => h) (Or.inl ⟨by rfl, ?_⟩) ?_ ?_
  rotate_left
  · intro w'
    go_simp
    with_reducible rfl
  rotate_left
  · simp only [Act.put, List.setIfInBounds_toArray, List.set_cons_zero, List.set_cons_succ, i64_w, i32_w]
    rfl
  refine pure_ (i := 10) (N := some 117) (v := ?_) (a' := ?_) #[true, true, true, false, true, true, true, false, true, true, true, false, false, false, false, false] rfl rfl (by kernel_rfl) (fun _ _ _ h => h) (Or.inl ⟨by rfl, ?_⟩) ?_ ?_
  rotate_left
  · intro w'
    go_simp
    with_reducible rfl
  rotate_left
  · simp only [Act.put, List.setIfInBounds_toArray, List.set_cons_zero, List.set_cons_succ, i64_w, i32_w]
    rfl
  refine take_ (i := 3) (N := some 110) (v := ?_) (a' := ?_) #[true, true, true, true, true, true, true, false, true, true, true, false, false, false, false, false] rfl rfl (by kernel_rfl) (fun _ _ _ h => h) (Or.inl ⟨by rfl, ?_⟩) hHeld ?_ ?_
  rotate_left
  · rintro w' ⟨s0, s1, s2⟩
    go_simp
    with_reducible rfl
  rotate_left
  · simp only [Act.put, List.setIfInBounds_toArray, List.set_cons_zero, List.set_cons_succ, i64_w, i32_w]
    rfl
  refine take_ (i := 7) (N := some 114) (v := ?_) (a' := ?_) #[true, true, true, true, true, true, true, true, true, true, true, false, false, false, false, false] rfl rfl (by kernel_rfl) (fun _ _ _ h => h) (Or.inl ⟨by rfl, ?_⟩) hHeld ?_ ?_
  rotate_left
  · rintro w' ⟨s0, s1, s2⟩
    go_simp
    with_reducible rfl
  rotate_left
  · simp only [Act.put, List.setIfInBounds_toArray, List.set_cons_zero, List.set_cons_succ, i64_w, i32_w]
    rfl
  refine take_ (i := 11) (N := some 118) (v := ?_) (a' := ?_) #[true, true, true, true, true, true, true, true, true, true, true, true, false, false, false, false] rfl rfl (by kernel_rfl) (fun _ _ _ h => h) (Or.inl ⟨by rfl, ?_⟩) hHeld ?_ ?_
  rotate_left
  · rintro w' ⟨s0, s1, s2⟩
    go_simp
    with_reducible rfl
  rotate_left
  · simp only [Act.put, List.setIfInBounds_toArray, List.set_cons_zero, List.set_cons_succ, i64_w, i32_w]
    rfl
  refine pure_ (i := 12) (N := some 119) (v := ?_) (a' := ?_) #[true, true, true, true, true, true, true, true, true, true, true, true, true, false, false, false] rfl rfl (by kernel_rfl) (fun _ _ _ h => h) (Or.inl ⟨by rfl, ?_⟩) ?_ ?_
  rotate_left
  · intro w'
    go_simp
    with_reducible rfl
  rotate_left
  · simp only [Act.put, List.setIfInBounds_toArray, List.set_cons_zero, List.set_cons_succ, i64_w, i32_w]
    rfl
  refine pure_ (i := 13) (N := some 120) (v := ?_) (a' := ?_) #[true, true, true, true, true, true, true, true, true, true, true, true, true, true, false, false] rfl rfl (by kernel_rfl) (fun _ _ _ h => h) (Or.inl ⟨by rfl, ?_⟩) ?_ ?_
  rotate_left
  · intro w'
    go_simp
    with_reducible rfl
  rotate_left
  · simp only [Act.put, List.setIfInBounds_toArray, List.set_cons_zero, List.set_cons_succ, i64_w, i32_w]
    rfl
  refine pure_ (i := 14) (N := some 121) (v := ?_) (a' := ?_) #[true, true, true, true, true, true, true, true, true, true, true, true, true, true, true, false] rfl rfl (by kernel_rfl) (fun _ _ _ h => h) (Or.inl ⟨by rfl, ?_⟩) ?_ ?_
  rotate_left
  · intro w'
    go_simp
    with_reducible rfl
  rotate_left
  · simp only [Act.put, List.setIfInBounds_toArray, List.set_cons_zero, List.set_cons_succ, i64_w, i32_w]
    rfl
  refine last_ (i := 15) (N := none) #[true, true, true, true, true, true, true, true, true, true, true, true, true, true, true, true] rfl rfl (by kernel_rfl) (by decide) (fun K hK => ?_)
  refine skip_ (w1 := ?_) (by rfl) rfl ?_ ?_
  rotate_left
  · go_simp
    rfl
  refine hK.out _ _ ?_
  clear hK K
  refine done_ (by kernel_rfl) ?_
  clear hHeld u0 u1 u2 u3 u4
  rw [w64 (at_ - at0) (by omega)]
  change Hd (Mq base W0 S0 _ W ((W7.setCell ⟨g0, dn.length * 3 + 2, none⟩ (.int .i64 (at_ - at0))).drew) Bm _ d x _ dl xl _) at HP
  obtain ⟨W8, hW8⟩ : ∃ w_, (W7.setCell ⟨g0, dn.length * 3 + 2, none⟩ (.int .i64 (at_ - at0))).drew = w_ := ⟨_, rfl⟩
  rw [hW8] at HP ⊢
  clear hW8
  obtain ⟨sl, hsl⟩ : ∃ l, dn ++ [(⟨q0, 0, at_ - at0⟩ : S82)] = l := ⟨_, rfl⟩
  have hsn : dn.length + 1 = sl.length := by rw [← hsl]; simp
  rw [hsl] at HP
  have HSL := Hd.mk hsl
  rw [hsn] at HP ⊢
  have hsl7 : sl.length ≤ 70000 := by omega
  have hsc : (dn.length : Int) + 1 = (sl.length : Int) := by omega
  rw [hsc]
  have HSN := Hd.mk hsn
  clear hsn hsl hsc hw1 hw2 hw3
  have hw2 : (0 : Int) ≤ (sl.length : Int) := by omega
  have hw3 : (sl.length : Int) < (sl.length : Int) + 1 := by omega
  have hw1 : wrap64 (sl.length : Int) = (sl.length : Int) := w64 _ (by omega)
  obtain ⟨As0, cs0, hAs0⟩ : ∃ (A : Option Addr) (c : Nat), (some (⟨g0, 0, none⟩ : Addr)) = A ∧ cp0 = c := ⟨_, _, rfl, rfl⟩
  obtain ⟨ha1, ha2⟩ := hAs0
  rw [ha1, ha2] at HP ⊢
  clear ha1 ha2
  obtain ⟨m210, m211, m212, m213, m214, m215, m216⟩ := HP.out.cells
  obtain ⟨r210, r211, r212, r213, r214, r215, r216⟩ := HP.out.froz
  obtain ⟨z210, z211, z212⟩ := HP.out.box
  simp only at m210 m211 m212 m213 m214 m215 m216
  obtain ⟨A1, cp, w3, hr3, hb3, hq3⟩ := HP.out.newS (by omega)
  obtain ⟨g, cq, he⟩ := hq3.form (dn := sl) (t := ⟨0, 0, 0⟩)
  injection he with he1 _ he3
  subst he1
  subst he3
  have e1 : w3.cell? ⟨Bm, 1, none⟩ = some (.slice As0 sl.length cs0) := (blk_cell hb3 1).trans rfl
  have f1_ := blk_frozen hb3 1
  have HD := Hd.mk hq3
  clear hb3 hq3 HP
  go_upto_region 16 with fail
  clear m210 m211 m212 m213 m214 m215 m216 r210 r211 r212 r213 r214 r215 r216 z210 z211 z212
  clear hr3 e1 f1_
  obtain ⟨W4, hW4⟩ : ∃ w_, w3.setCell ⟨Bm, 1, none⟩ (.slice (some ⟨g, 0, none⟩) (sl.length + 1) cp) = w_ := ⟨_, rfl⟩
  rw [hW4] at HD ⊢
  clear hW4
  rw [show (⟨0, 0, 0⟩ : S82) = ⟨f0, 0, 0⟩ by rw [HF0.out]] at HD
  have HP := Hd.mk ((HD.out.below (Below.drew' W4)).poke 0 (by omega) (f0 + 1))
  simp only [setf, Nat.add_zero] at HP
  have u0 : W4.drew.cell? ⟨Bm, 1, none⟩ = some (.slice (some ⟨g, 0, none⟩) (sl.length + 1) cp) := HD.out.cells.2.1
  have u1 : W4.drew.cell? ⟨g, sl.length * 3, none⟩ = some (.int .i64 f0) := (HD.out.at_ 0 (by omega)).1
  have u2 : W4.drew.frozen? ⟨g, sl.length * 3, none⟩ = false := (HD.out.at_ 0 (by omega)).2
  clear HD
  go_upto_region 16 with fail
  refine start_ (n := 17) (S := fun w' => w'.cell? ⟨Bm, 1, none⟩ = some (.slice (some ⟨g, 0, none⟩) (sl.length + 1) cp) ∧ w'.cell? ⟨g, sl.length * 3, none⟩ = some (.int .i64 f0)) (ds := [16]) #[false, false, false, false, false, false, false, false, false, false, false, false, false, false, false, false, false] (by kernel_rfl) rfl rfl ⟨u0, u1⟩ (fun hHeld => ?_)
  refine pure_ (i := 0) (N := some 132) (v := ?_) (a' := ?_) #[true, false, false, false, false, false, false, false, false, false, false, false, false, false, false, false, false] rfl rfl (by kernel_rfl) (fun _ _ _ h => h) (Or.inl ⟨by rfl, ?_⟩) ?_ ?_
  rotate_left
  · intro w'
    go_simp
    with_reducible rfl
  rotate_left
  · simp only [Act.put, List.setIfInBounds_toArray, List.set_cons_zero, List.set_cons_succ, i64_w, i32_w]
    rfl
  refine pure_ (i := 1) (N := some 133) (v := ?_) (a' := ?_) #[true, true, false, false, false, false, false, false, false, false, false, false, false, false, false, false, false] rfl rfl (by kernel_rfl) (fun _ _ _ h => h) (Or.inl ⟨by rfl, ?_⟩) ?_ ?_
  rotate_left
  · intro w'
    go_simp
    with_reducible rfl
  rotate_left
  · simp only [Act.put, List.setIfInBounds_toArray, List.set_cons_zero, List.set_cons_succ, i64_w, i32_w]
    rfl
  refine pure_ (i := 2) (N := some 134) (v := ?_) (a' := ?_) #[true, true, true, false, false, false, false, false, false, false, false, false, false, false, false, false, false] rfl rfl (by kernel_rfl) (fun _ _ _ h => h) (Or.inl ⟨by rfl, ?_⟩) ?_ ?_
  rotate_left
  · intro w'
    go_simp
    with_reducible rfl
  rotate_left
  · simp only [Act.put, List.setIfInBounds_toArray, List.set_cons_zero, List.set_cons_succ, i64_w, i32_w]
    rfl
  refine pure_ (i := 4) (N := some 136) (v := ?_) (a' := ?_) #[true, true, true, false, true, false, false, false, false, false, false, false, false, false, false, false, false] rfl rfl (by kernel_rfl) (fun _ _ _ h => h) (Or.inl ⟨by rfl, ?_⟩) ?_ ?_
  rotate_left
  · intro w'
    go_simp
    with_reducible rfl
  rotate_left
  · simp only [Act.put, List.setIfInBounds_toArray, List.set_cons_zero, List.set_cons_succ, i64_w, i32_w]
    rfl
  refine pure_ (i := 5) (N := some 137) (v := ?_) (a' := ?_) #[true, true, true, false, true, true, false, false, false, false, false, false, false, false, false, false, false] rfl rfl (by kernel_rfl) (fun _ _ _ h => h) (Or.inl ⟨by rfl, ?_⟩) ?_ ?_
  rotate_left
  · intro w'
    go_simp
    with_reducible rfl
  rotate_left
  · simp only [Act.put, List.setIfInBounds_toArray, List.set_cons_zero, List.set_cons_succ, i64_w, i32_w]
    rfl
  refine pure_ (i := 6) (N := some 138) (v := ?_) (a' := ?_) #[true, true, true, false, true, true, true, false, false, false, false, false, false, false, false, false, false] rfl rfl (by kernel_rfl) (fun _ _ _ h => h) (Or.inl ⟨by rfl, ?_⟩) ?_ ?_
  rotate_left
  · intro w'
    go_simp
    with_reducible rfl
  rotate_left
  · simp only [Act.put, List.setIfInBounds_toArray, List.set_cons_zero, List.set_cons_succ, i64_w, i32_w]
    rfl
  refine take_ (i := 3) (N := some 135) (v := ?_) (a' := ?_) #[true, true, true, true, true, true, true, false, false, false, false, false, false, false, false, false, false] rfl rfl (by kernel_rfl) (fun _ _ _ h => h) (Or.inl ⟨by rfl, ?_⟩) hHeld ?_ ?_
  rotate_left
  · rintro w' ⟨s0, s1⟩
    go_simp
    with_reducible rfl
  rotate_left
  · simp only [Act.put, List.setIfInBounds_toArray, List.set_cons_zero, List.set_cons_succ, i64_w, i32_w]
    rfl
  refine take_ (i := 7) (N := some 139) (v := ?_) (a' := ?_) #[true, true, true, true, true, true, true, true, false, false, false, false, false, false, false, false, false] rfl rfl (by kernel_rfl) (fun _ _ _ h => h) (Or.inl ⟨by rfl, ?_⟩) hHeld ?_ ?_
  rotate_left
  · rintro w' ⟨s0, s1⟩
    go_simp
    with_reducible rfl
  rotate_left
  · simp only [Act.put, List.setIfInBounds_toArray, List.set_cons_zero, List.set_cons_succ, i64_w, i32_w]
    rfl
  refine pure_ (i := 8) (N := some 140) (v := ?_) (a' := ?_) #[true, true, true, true, true, true, true, true, true, false, false, false, false, false, false, false, false] rfl rfl (by kernel_rfl) (fun _ _ _ h => h) (Or.inl ⟨by rfl, ?_⟩) ?_ ?_
  rotate_left
  · intro w'
    go_simp
    with_reducible rfl
  rotate_left
  · simp only [Act.put, List.setIfInBounds_toArray, List.set_cons_zero, List.set_cons_succ, i64_w, i32_w]
    rfl
  refine pure_ (i := 9) (N := some 141) (v := ?_) (a' := ?_) #[true, true, true, true, true, true, true, true, true, true, false, false, false, false, false, false, false] rfl rfl (by kernel_rfl) (fun _ _ _ h => h) (Or.inl ⟨by rfl, ?_⟩) ?_ ?_
  rotate_left
  · intro w'
    go_simp
    with_reducible rfl
  rotate_left
  · simp only [Act.put, List.setIfInBounds_toArray, List.set_cons_zero, List.set_cons_succ, i64_w, i32_w]
    rfl
  refine pure_ (i := 10) (N := some 142) (v := ?_) (a' := ?_) #[true, true, true, true, true, true, true, true, true, true, true, false, false, false, false, false, false] rfl rfl (by kernel_rfl) (fun _ _ _ h => h) (Or.inl ⟨by rfl, ?_⟩) ?_ ?_
  rotate_left
  · intro w'
    go_simp
    with_reducible rfl
  rotate_left
  · simp only [Act.put, List.setIfInBounds_toArray, List.set_cons_zero, List.set_cons_succ, i64_w, i32_w]
    rfl
  refine pure_ (i := 11) (N := some 143) (v := ?_) (a' := ?_) #[true, true, true, true, true, true, true, true, true, true, true, true, false, false, false, false, false] rfl rfl (by kernel_rfl) (fun _ _ _ h => h) (Or.inl ⟨by rfl, ?_⟩) ?_ ?_
  rotate_left
  · intro w'
    go_simp
    with_reducible rfl
  rotate_left
  · simp only [Act.put, List.setIfInBounds_toArray, List.set_cons_zero, List.set_cons_succ, i64_w, i32_w]
    rfl
  refine take_ (i := 12) (N := some 144) (v := ?_) (a' := ?_) #[true, true, true, true, true, true, true, true, true, true, true, true, true, false, false, false, false] rfl rfl (by kernel_rfl) (fun _ _ _ h => h) (Or.inl ⟨by rfl, ?_⟩) hHeld ?_ ?_
  rotate_left
  · rintro w' ⟨s0, s1⟩
    go_simp
    with_reducible rfl
  rotate_left
  · simp only [Act.put, List.setIfInBounds_toArray, List.set_cons_zero, List.set_cons_succ, i64_w, i32_w]
    rfl
  refine pure_ (i := 13) (N := some 145) (v := ?_) (a' := ?_) #[true, true, true, true, true, true, true, true, true, true, true, true, true, true, false, false, false] rfl rfl (by kernel_rfl) (fun _ _ _ h => h) (Or.inl ⟨by rfl, ?_⟩) ?_ ?_
  rotate_left
  · intro w'
    go_simp
    with_reducible rfl
  rotate_left
  · simp only [Act.put, List.setIfInBounds_toArray, List.set_cons_zero, List.set_cons_succ, i64_w, i32_w]
    rfl
  refine pure_ (i := 14) (N := some 146) (v := ?_) (a' := ?_) #[true, true, true, true, true, true, true, true, true, true, true, true, true, true, true, false, false] rfl rfl (by kernel_rfl) (fun _ _ _ h => h) (Or.inl ⟨by rfl, ?_⟩) ?_ ?_
  rotate_left
  · intro w'
    go_simp
    with_reducible rfl
  rotate_left
  · simp only [Act.put, List.setIfInBounds_toArray, List.set_cons_zero, List.set_cons_succ, i64_w, i32_w]
    rfl
  refine pure_ (i := 15) (N := some 147) (v := ?_) (a' := ?_) #[true, true, true, true, true, true, true, true, true, true, true, true, true, true, true, true, false] rfl rfl (by kernel_rfl) (fun _ _ _ h => h) (Or.inl ⟨by rfl, ?_⟩) ?_ ?_
  rotate_left
  · intro w'
    go_simp
    with_reducible rfl
  rotate_left
  · simp only [Act.put, List.setIfInBounds_toArray, List.set_cons_zero, List.set_cons_succ, i64_w, i32_w]
    rfl
  refine last_ (i := 16) (N := none) #[true, true, true, true, true, true, true, true, true, true, true, true, true, true, true, true, true] rfl rfl (by kernel_rfl) (by decide) (fun K hK => ?_)
  refine skip_ (w1 := ?_) (by rfl) rfl ?_ ?_
  rotate_left
  · go_simp
    rfl
  refine hK.out _ _ ?_
  clear hK K
  refine done_ (by kernel_rfl) ?_
  clear hHeld u0 u1 u2
  change Hd (Mq base W0 S0 _ W ((W4.setCell ⟨g, sl.length * 3, none⟩ (.int .i64 (f0 + 1))).drew) Bm _ d x _ dl xl _) at HP
  rw [w64 (f0 + 1) (by omega)]
  obtain ⟨W5, hW5⟩ : ∃ w_, (W4.setCell ⟨g, sl.length * 3, none⟩ (.int .i64 (f0 + 1))).drew = w_ := ⟨_, rfl⟩
  rw [hW5] at HP ⊢
  clear hW5
  go_upto_region 17 with fail
  have hd9 := HP.out.below (Below.drew' W5)
  have c2 : W5.drew.cell? ⟨Bm, 2, none⟩ = some d := hd9.cells.2.2.1
  have z2 := hd9.box.2.2
  obtain ⟨A, cx, w9, hrun, hb9, hq⟩ := hd9.newD b (by omega)
  have hba := Hd.mk ((Below.refl W5.drew.heap.size W5.drew).alloc (Nat.le_refl _) (.cells #[.int .u8 b] 5))
  have hrun2 : (Builtin.append_ #[24, 24] 24 #[d, .slice (some ⟨W5.heap.size, 0, none⟩) 1 1]).run Try.prog ((W5.alloc (.cells #[.int .u8 b] 5)).drew) = .ok (.slice A (dl.length + 1) cx) w9 := hrun
  clear hrun
  have e2 : w9.cell? ⟨Bm, 2, none⟩ = some d := (blk_cell hb9 2).trans rfl
  have f2 := blk_frozen hb9 2
  have HQ := Hd.mk hq
  clear hd9 hb9 hq HP
  refine start_ (n := 12) (S := fun w' => w'.cell? ⟨Bm, 2, none⟩ = some d ∧ w'.cell? ⟨W.heap.size, 2, none⟩ = some (.int .u8 b)) (ds := [8, 11]) #[false, false, false, false, false, false, false, false, false, false, false, false] (by kernel_rfl) rfl rfl ⟨c2, z2⟩ (fun hHeld => ?_)
  refine pure_ (i := 0) (N := some 148) (v := ?_) (a' := ?_) #[true, false, false, false, false, false, false, false, false, false, false, false] rfl rfl (by kernel_rfl) (fun _ _ _ h => h) (Or.inl ⟨by rfl, ?_⟩) ?_ ?_
  rotate_left
  · intro w'
    go_simp
    with_reducible rfl
  rotate_left
  · simp only [Act.put, List.setIfInBounds_toArray, List.set_cons_zero, List.set_cons_succ, i64_w, i32_w]
    rfl
  refine pure_ (i := 1) (N := some 149) (v := ?_) (a' := ?_) #[true, true, false, false, false, false, false, false, false, false, false, false] rfl rfl (by kernel_rfl) (fun _ _ _ h => h) (Or.inl ⟨by rfl, ?_⟩) ?_ ?_
  rotate_left
  · intro w'
    go_simp
    with_reducible rfl
  rotate_left
  · simp only [Act.put, List.setIfInBounds_toArray, List.set_cons_zero, List.set_cons_succ, i64_w, i32_w]
    rfl
  refine pure_ (i := 2) (N := some 150) (v := ?_) (a' := ?_) #[true, true, true, false, false, false, false, false, false, false, false, false] rfl rfl (by kernel_rfl) (fun _ _ _ h => h) (Or.inl ⟨by rfl, ?_⟩) ?_ ?_
  rotate_left
  · intro w'
    go_simp
    with_reducible rfl
  rotate_left
  · simp only [Act.put, List.setIfInBounds_toArray, List.set_cons_zero, List.set_cons_succ, i64_w, i32_w]
    rfl
  refine pure_ (i := 3) (N := some 151) (v := ?_) (a' := ?_) #[true, true, true, true, false, false, false, false, false, false, false, false] rfl rfl (by kernel_rfl) (fun _ _ _ h => h) (Or.inl ⟨by rfl, ?_⟩) ?_ ?_
  rotate_left
  · intro w'
    go_simp
    with_reducible rfl
  rotate_left
  · simp only [Act.put, List.setIfInBounds_toArray, List.set_cons_zero, List.set_cons_succ, i64_w, i32_w]
    rfl
  refine pure_ (i := 5) (N := some 153) (v := ?_) (a' := ?_) #[true, true, true, true, false, true, false, false, false, false, false, false] rfl rfl (by kernel_rfl) (fun _ _ _ h => h) (Or.inl ⟨by rfl, ?_⟩) ?_ ?_
  rotate_left
  · intro w'
    go_simp
    with_reducible rfl
  rotate_left
  · simp only [Act.put, List.setIfInBounds_toArray, List.set_cons_zero, List.set_cons_succ, i64_w, i32_w]
    rfl
  refine take_ (i := 4) (N := some 152) (v := ?_) (a' := ?_) #[true, true, true, true, true, true, false, false, false, false, false, false] rfl rfl (by kernel_rfl) (fun _ _ _ h => h) (Or.inl ⟨by rfl, ?_⟩) hHeld ?_ ?_
  rotate_left
  · rintro w' ⟨s0, s1⟩
    go_simp
    with_reducible rfl
  rotate_left
  · simp only [Act.put, List.setIfInBounds_toArray, List.set_cons_zero, List.set_cons_succ, i64_w, i32_w]
    rfl
  refine take_ (i := 6) (N := some 154) (v := ?_) (a' := ?_) #[true, true, true, true, true, true, true, false, false, false, false, false] rfl rfl (by kernel_rfl) (fun _ _ _ h => h) (Or.inl ⟨by rfl, ?_⟩) hHeld ?_ ?_
  rotate_left
  · rintro w' ⟨s0, s1⟩
    go_simp
    with_reducible rfl
  rotate_left
  · simp only [Act.put, List.setIfInBounds_toArray, List.set_cons_zero, List.set_cons_succ, i64_w, i32_w]
    rfl
  refine one_ (i := 7) (N := some 155) #[true, true, true, true, true, true, true, true, false, false, false, false] rfl rfl (by kernel_rfl) (by decide) (fun K hK => ?_)
  refine value_ (w1 := ?_) (v := ?_) (by rfl) rfl ?_ ?_
  rotate_left 2
  · go_simp
    constructor
    · rfl
    · rfl
  refine hK.out _ _ ⟨pw_cell_below hba.out c2, pw_cell_below hba.out z2⟩ (fun hHeld => ?_)
  clear hK K
  refine norm_ (a' := ?_) ?_ ?_
  rotate_left
  · show Act.put _ (some 155) _ = _
    simp only [Act.put, List.setIfInBounds_toArray, List.set_cons_zero, List.set_cons_succ, i64_w, i32_w]
    rfl
  refine last_ (i := 8) (N := some 156) #[true, true, true, true, true, true, true, true, true, false, false, false] rfl rfl (by kernel_rfl) (by decide) (fun K hK => ?_)
  refine value_ (w1 := w9) (v := .slice A (dl.length + 1) cx) (by rfl) rfl ?_ ?_
  · (go_simp; first | done | (rw [hrun2]; rfl))
  refine hK.out _ _ ?_
  clear hK K
  refine norm_ (a' := ?_) ?_ ?_
  rotate_left
  · show Act.put _ (some 156) _ = _
    simp only [Act.put, List.setIfInBounds_toArray, List.set_cons_zero, List.set_cons_succ, i64_w, i32_w]
    rfl
  refine pure_ (i := 9) (N := some 157) (v := ?_) (a' := ?_) #[true, true, true, true, true, true, true, true, true, true, false, false] rfl rfl (by kernel_rfl) (fun _ _ _ h => h) (Or.inl ⟨by rfl, ?_⟩) ?_ ?_
  rotate_left
  · intro w'
    go_simp
    with_reducible rfl
  rotate_left
  · simp only [Act.put, List.setIfInBounds_toArray, List.set_cons_zero, List.set_cons_succ, i64_w, i32_w]
    rfl
  refine pure_ (i := 10) (N := some 158) (v := ?_) (a' := ?_) #[true, true, true, true, true, true, true, true, true, true, true, false] rfl rfl (by kernel_rfl) (fun _ _ _ h => h) (Or.inl ⟨by rfl, ?_⟩) ?_ ?_
  rotate_left
  · intro w'
    go_simp
    with_reducible rfl
  rotate_left
  · simp only [Act.put, List.setIfInBounds_toArray, List.set_cons_zero, List.set_cons_succ, i64_w, i32_w]
    rfl
  refine last_ (i := 11) (N := none) #[true, true, true, true, true, true, true, true, true, true, true, true] rfl rfl (by kernel_rfl) (by decide) (fun K hK => ?_)
  refine skip_ (w1 := ?_) (by rfl) rfl ?_ ?_
  rotate_left
  · go_simp
    rfl
  refine hK.out _ _ ?_
  clear hK K
  refine done_ (by kernel_rfl) ?_
  clear c2 z2 hba hrun2 hHeld
  obtain ⟨W6, hW6⟩ : ∃ w_, w9.setCell ⟨Bm, 2, none⟩ (.slice A (dl.length + 1) cx) = w_ := ⟨_, rfl⟩
  rw [hW6] at HQ ⊢
  clear hW6
  clear e2 f2
  have HR := Hd.mk ((HQ.out.less (Z' := Z) (fun q hq => List.mem_cons_of_mem _ hq)).setAt (at_ + 1))
  obtain ⟨m220, m221, m222, m223, m224, m225, m226⟩ := HQ.out.cells
  obtain ⟨r220, r221, r222, r223, r224, r225, r226⟩ := HQ.out.froz
  obtain ⟨z220, z221, z222⟩ := HQ.out.box
  simp only at m220 m221 m222 m223 m224 m225 m226
  clear HQ
  simp only at HR
  go_wp2
  go_end0
  rw [show dn ++ [(⟨q0, 0, at_ - at0⟩ : S82), ⟨f0 + 1, 0, 0⟩] = sl ++ [(⟨f0 + 1, 0, 0⟩ : S82)] by rw [← HSL.out]; simp]
  exact ⟨rfl, _, _, _, HR.out⟩
end Go.Proofs.Ytinlfoblpgpikaa
