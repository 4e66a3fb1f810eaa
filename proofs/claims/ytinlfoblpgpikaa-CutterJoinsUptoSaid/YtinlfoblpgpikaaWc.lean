/- cutter: the walk of CutterChecks. -/
import Derived.Test.YtinlfoblpgpikaaKp
import Derived.Test.YtinlfoblpgpikaaLv
import Derived.Test.YtinlfoblpgpikaaOc
namespace Go.Proofs.Ytinlfoblpgpikaa
open Go.RowKit Go.Shelf Go.Proofs.YtinlfoblpgpikaaW.PrintWords Go.Proofs.YtinlfoblpgpikaaW.PrintLast Go.Proofs.YtinlfoblpgpikaaW.PrintMore Go.Proofs.Ytinlfoblpgpikaa.Pr
set_option linter.unusedVariables false
set_option linter.unusedSimpArgs false
theorem face_c {pos : Int} {A0 : Option Addr} {c0 : Nat} {L : List S81} {A1 : Option Addr} {c1 : Nat} {d : List Int} {A2 : Option Addr} {c2 : Nat} {x : List Int} {w : World} (h : WinI w pos A0 c0 L A1 c1 d A2 c2 x) {SL : List S82} (hS : L.map f81 = SL) :
    Calls Try.prog 20 #[.agg #[.int .i64 pos, .slice A0 L.length c0, .slice A1 d.length c1, .slice A2 x.length c2]] w fun e w' => ∃ B0 b0 B1 b1 B2 b2, e = .returned (.agg #[.int .i64 pos, .slice B0 SL.length b0, .slice B1 d.length b1, .slice B2 x.length b2]) ∧ EdC w' B0 b0 SL B1 b1 d B2 b2 x ∧ Below w.heap.size w w' := by
  have hl0 := h.l0
  have hl1 := h.l1
  have hl2 := h.l2
  have hf := face_f pos L d x (by omega) (by omega) (by omega)
  rw [hS] at hf
  refine (sapperlaw17_faceWindow.calls (L.length + 1) pos A0 c0 L A1 c1 d A2 c2 x pos SL d x w h.s h.hs h.di h.hd h.ex h.hx hf).mono ?_
  rintro e w' ⟨v0, v1, v2, rfl, r0, r1, r2, hb⟩
  obtain ⟨B0, b0, rfl⟩ := Kd.R_slice r0
  obtain ⟨B1, b1, rfl⟩ := Kd.R_slice r1
  obtain ⟨B2, b2, rfl⟩ := Kd.R_slice r2
  exact ⟨B0, b0, B1, b1, B2, b2, rfl, ⟨(Kd.R_reads' r0).2.2, (Kd.R_reads' r1).2.2, (Kd.R_reads' r2).2.2, (Kd.R_reads' r0).2.1, (Kd.R_reads' r1).2.1, (Kd.R_reads' r2).2.1⟩, hb⟩
theorem WinI.below {W W' : World} {pos : Int} {A0 : Option Addr} {c0 : Nat} {st : List S81} {A1 : Option Addr} {c1 : Nat} {d : List Int} {A2 : Option Addr} {c2 : Nat} {x : List Int} (h : WinI W pos A0 c0 st A1 c1 d A2 c2 x) (hb : Below W.heap.size W W') : WinI W' pos A0 c0 st A1 c1 d A2 c2 x :=
  ⟨Kd.C_below h.s hb, Kd.C_below h.di hb, Kd.C_below h.ex hb, h.hs, h.hd, h.hx, h.ws, h.hp, h.l0, h.l1, h.l2⟩
theorem rck_c {pos : Int} {A0 : Option Addr} {c0 : Nat} {L : List S81} {A1 : Option Addr} {c1 : Nat} {d : List Int} {A2 : Option Addr} {c2 : Nat} {x : List Int} {w : World} (h : WinI w pos A0 c0 L A1 c1 d A2 c2 x) (old size : Int) {r : Int} (hr : rchk pos L d x old size = r) :
    Calls Try.prog 21 #[.agg #[.int .i64 pos, .slice A0 L.length c0, .slice A1 d.length c1, .slice A2 x.length c2], .int .i64 old, .int .i64 size] w fun e w' => e = .returned (.int .i64 r) ∧ Below w.heap.size w w' := by
  obtain ⟨k, hk⟩ := rchk_f pos L d x old size h.s.2.1 (fun s hs => (h.ws s hs).2.2)
  rw [hr] at hk
  exact sapperref17_Check.calls k pos A0 c0 L A1 c1 d A2 c2 x old size r w h.s h.hs h.di h.hd h.ex h.hx hk
theorem pck_c {A0 : Option Addr} {c0 : Nat} {st : List S82} {A1 : Option Addr} {c1 : Nat} {d : List Int} {A2 : Option Addr} {c2 : Nat} {x : List Int} {w : World} (hE : EdC w A0 c0 st A1 c1 d A2 c2 x) (pos old size : Int) {r : Int} (hr : pchk pos st d x old size = r) :
    Calls Try.prog 19 #[.agg #[.int .i64 pos, .slice A0 st.length c0, .slice A1 d.length c1, .slice A2 x.length c2], .int .i64 old, .int .i64 size] w fun e w' => e = .returned (.int .i64 r) ∧ Below w.heap.size w w' := by
  have := cck_c hE pos old size
  rw [hr] at this
  exact this
set_option maxRecDepth 100000 in
set_option maxHeartbeats 8000000 in
theorem walk_cutterChecks (pos : Int) (A0 : Option Addr) (c0 : Nat) (L : List S81) (A1 : Option Addr) (c1 : Nat) (d : List Int) (A2 : Option Addr) (c2 : Nat) (x : List Int) (old size : Int) (w : World) (h : WinI w pos A0 c0 L A1 c1 d A2 c2 x) (ho : (Lit.int .i64 old).wf = true) (hs : (Lit.int .i64 size).wf = true) :
    Calls Try.prog 5 #[.agg #[.int .i64 pos, .slice A0 L.length c0, .slice A1 d.length c1, .slice A2 x.length c2], .int .i64 old, .int .i64 size] w fun e w' => e = .returned (.bool true) ∧ Below w.heap.size w w' := by
  have hb0 : Below w.heap.size w (w.alloc (.cells #[.int .i64 pos, .slice A0 L.length c0, .slice A1 d.length c1, .slice A2 x.length c2] 45)) := (Below.refl _ _).alloc (Nat.le_refl _) _
  have HE := Hd.mk (h.below hb0)
  have HB := Hd.mk hb0
  have HY := Hd.mk (blk_new w (.cells #[.int .i64 pos, .slice A0 L.length c0, .slice A1 d.length c1, .slice A2 x.length c2] 45))
  obtain ⟨SL, hSL⟩ : ∃ l, L.map f81 = l := ⟨_, rfl⟩
  obtain ⟨r, hr⟩ : ∃ r, rchk pos L d x old size = r := ⟨_, rfl⟩
  have hp : pchk pos SL d x old size = r := by rw [← hSL, ← chk_same]; exact hr
  have HSL := Hd.mk hSL
  have HR := Hd.mk (And.intro hr hp)
  clear hb0 h hSL hr hp ho hs
  go_enter Try.func5, Try.ntmps5
  go_upto_region 1 with fail
  obtain ⟨w0, hw0⟩ : ∃ v, w.alloc (.cells #[.int .i64 pos, .slice A0 L.length c0, .slice A1 d.length c1, .slice A2 x.length c2] 45) = v := ⟨_, rfl⟩
  rw [hw0] at HE HB HY ⊢
  clear hw0
  have cHY0 := blk_cell HY.out 0
  have cHY1 := blk_cell HY.out 1
  have cHY2 := blk_cell HY.out 2
  have cHY3 := blk_cell HY.out 3
  simp at cHY0 cHY1 cHY2 cHY3
  clear cHY0 cHY1 cHY2 cHY3
  replace HB := Hd.mk (below_step HB.out (Below.drew' w0))
  replace HE := Hd.mk (HE.out.below (Below.drew' w0))
  replace HY := Hd.mk (blk_below HY.out (Below.drew' w0))
  have cHY0 := blk_cell HY.out 0
  have cHY1 := blk_cell HY.out 1
  have cHY2 := blk_cell HY.out 2
  have cHY3 := blk_cell HY.out 3
  simp at cHY0 cHY1 cHY2 cHY3
  refine start_ (n := 14) (S := fun w' => w'.cell? ⟨w.heap.size, 0, none⟩ = some (.int .i64 pos) ∧ w'.cell? ⟨w.heap.size, 1, none⟩ = some (.slice A0 L.length c0) ∧ w'.cell? ⟨w.heap.size, 2, none⟩ = some (.slice A1 d.length c1) ∧ w'.cell? ⟨w.heap.size, 3, none⟩ = some (.slice A2 x.length c2)) (ds := []) #[false, false, false, false, false, false, false, false, false, false, false, false, false, false] (by kernel_rfl) rfl rfl ⟨cHY0, cHY1, cHY2, cHY3⟩ (fun hHeld => ?_)
  refine pure_ (i := 2) (N := some 9) (v := ?_) (a' := ?_) #[false, false, true, false, false, false, false, false, false, false, false, false, false, false] rfl rfl (by kernel_rfl) (fun _ _ _ h => h) (Or.inl ⟨by rfl, ?_⟩) ?_ ?_
  rotate_left
  · intro w'
    go_simp
    with_reducible rfl
  rotate_left
  · simp only [Act.put, List.setIfInBounds_toArray, List.set_cons_zero, List.set_cons_succ, i64_w, i32_w]
    rfl
  refine pure_ (i := 3) (N := some 10) (v := ?_) (a' := ?_) #[false, false, true, true, false, false, false, false, false, false, false, false, false, false] rfl rfl (by kernel_rfl) (fun _ _ _ h => h) (Or.inl ⟨by rfl, ?_⟩) ?_ ?_
  rotate_left
  · intro w'
    go_simp
    with_reducible rfl
  rotate_left
  · simp only [Act.put, List.setIfInBounds_toArray, List.set_cons_zero, List.set_cons_succ, i64_w, i32_w]
    rfl
  refine pure_ (i := 6) (N := some 13) (v := ?_) (a' := ?_) #[false, false, true, true, false, false, true, false, false, false, false, false, false, false] rfl rfl (by kernel_rfl) (fun _ _ _ h => h) (Or.inl ⟨by rfl, ?_⟩) ?_ ?_
  rotate_left
  · intro w'
    go_simp
    with_reducible rfl
  rotate_left
  · simp only [Act.put, List.setIfInBounds_toArray, List.set_cons_zero, List.set_cons_succ, i64_w, i32_w]
    rfl
  refine pure_ (i := 7) (N := some 14) (v := ?_) (a' := ?_) #[false, false, true, true, false, false, true, true, false, false, false, false, false, false] rfl rfl (by kernel_rfl) (fun _ _ _ h => h) (Or.inl ⟨by rfl, ?_⟩) ?_ ?_
  rotate_left
  · intro w'
    go_simp
    with_reducible rfl
  rotate_left
  · simp only [Act.put, List.setIfInBounds_toArray, List.set_cons_zero, List.set_cons_succ, i64_w, i32_w]
    rfl
  refine take_ (i := 0) (N := some 7) (v := ?_) (a' := ?_) #[true, false, true, true, false, false, true, true, false, false, false, false, false, false] rfl rfl (by kernel_rfl) (fun _ _ _ h => h) (Or.inl ⟨by rfl, ?_⟩) hHeld ?_ ?_
  rotate_left
  · rintro w' ⟨s0, s1, s2, s3⟩
    go_simp
    with_reducible rfl
  rotate_left
  · simp only [Act.put, List.setIfInBounds_toArray, List.set_cons_zero, List.set_cons_succ, i64_w, i32_w]
    rfl
  refine take_ (i := 5) (N := some 12) (v := ?_) (a' := ?_) #[true, false, true, true, false, true, true, true, false, false, false, false, false, false] rfl rfl (by kernel_rfl) (fun _ _ _ h => h) (Or.inl ⟨by rfl, ?_⟩) hHeld ?_ ?_
  rotate_left
  · rintro w' ⟨s0, s1, s2, s3⟩
    go_simp
    with_reducible rfl
  rotate_left
  · simp only [Act.put, List.setIfInBounds_toArray, List.set_cons_zero, List.set_cons_succ, i64_w, i32_w]
    rfl
  refine one_ (i := 1) (N := some 8) #[true, true, true, true, false, true, true, true, false, false, false, false, false, false] rfl rfl (by kernel_rfl) (by decide) (fun K hK => ?_)
  refine goes_ Try.func20 (by kernel_rfl) rfl #[.agg #[.int .i64 pos, .slice A0 L.length c0, .slice A1 d.length c1, .slice A2 x.length c2]] (by rfl) rfl rfl (by simp only [List.map_toArray, List.map_cons, List.map_nil]; rfl) ?_
  with_reducible refine (face_c HE.out HSL.out).mono ?_
  rintro e w1 ⟨B0, b0, B1, b1, B2, b2, rfl, hF, hb1⟩
  refine ⟨_, rfl, ?_⟩
  clear cHY0 cHY1 cHY2 cHY3
  replace HB := Hd.mk (below_step HB.out hb1)
  replace HE := Hd.mk (HE.out.below hb1)
  replace HY := Hd.mk (blk_below HY.out hb1)
  have cHY0 := blk_cell HY.out 0
  have cHY1 := blk_cell HY.out 1
  have cHY2 := blk_cell HY.out 2
  have cHY3 := blk_cell HY.out 3
  simp at cHY0 cHY1 cHY2 cHY3
  have HF := Hd.mk hF
  clear hb1 hF
  refine hK.out _ _ ⟨cHY0, cHY1, cHY2, cHY3⟩ (fun hHeld => ?_)
  clear hK K
  refine norm_ (a' := ?_) ?_ ?_
  rotate_left
  · show Act.put _ (some 8) _ = _
    simp only [Act.put, List.setIfInBounds_toArray, List.set_cons_zero, List.set_cons_succ, i64_w, i32_w]
    rfl
  refine one_ (i := 4) (N := some 11) #[true, true, true, true, true, true, true, true, false, false, false, false, false, false] rfl rfl (by kernel_rfl) (by decide) (fun K hK => ?_)
  refine goes_ Try.func19 (by kernel_rfl) rfl #[.agg #[.int .i64 pos, .slice B0 SL.length b0, .slice B1 d.length b1, .slice B2 x.length b2], .int .i64 old, .int .i64 size] (by rfl) rfl rfl (by simp only [List.map_toArray, List.map_cons, List.map_nil]; rfl) ?_
  with_reducible refine (pck_c HF.out pos old size HR.out.2).mono ?_
  rintro e w2 ⟨rfl, hb2⟩
  refine ⟨_, rfl, ?_⟩
  clear cHY0 cHY1 cHY2 cHY3
  replace HB := Hd.mk (below_step HB.out hb2)
  replace HE := Hd.mk (HE.out.below hb2)
  replace HY := Hd.mk (blk_below HY.out hb2)
  have cHY0 := blk_cell HY.out 0
  have cHY1 := blk_cell HY.out 1
  have cHY2 := blk_cell HY.out 2
  have cHY3 := blk_cell HY.out 3
  simp at cHY0 cHY1 cHY2 cHY3
  clear hb2 HF
  refine hK.out _ _ ⟨cHY0, cHY1, cHY2, cHY3⟩ (fun hHeld => ?_)
  clear hK K
  refine norm_ (a' := ?_) ?_ ?_
  rotate_left
  · show Act.put _ (some 11) _ = _
    simp only [Act.put, List.setIfInBounds_toArray, List.set_cons_zero, List.set_cons_succ, i64_w, i32_w]
    rfl
  refine one_ (i := 8) (N := some 15) #[true, true, true, true, true, true, true, true, true, false, false, false, false, false] rfl rfl (by kernel_rfl) (by decide) (fun K hK => ?_)
  refine goes_ Try.func21 (by kernel_rfl) rfl #[.agg #[.int .i64 pos, .slice A0 L.length c0, .slice A1 d.length c1, .slice A2 x.length c2], .int .i64 old, .int .i64 size] (by rfl) rfl rfl (by simp only [List.map_toArray, List.map_cons, List.map_nil]; rfl) ?_
  with_reducible refine (rck_c HE.out old size HR.out.1).mono ?_
  rintro e w3 ⟨rfl, hb3⟩
  refine ⟨_, rfl, ?_⟩
  clear cHY0 cHY1 cHY2 cHY3
  replace HB := Hd.mk (below_step HB.out hb3)
  replace HE := Hd.mk (HE.out.below hb3)
  replace HY := Hd.mk (blk_below HY.out hb3)
  have cHY0 := blk_cell HY.out 0
  have cHY1 := blk_cell HY.out 1
  have cHY2 := blk_cell HY.out 2
  have cHY3 := blk_cell HY.out 3
  simp at cHY0 cHY1 cHY2 cHY3
  clear hb3
  refine hK.out _ _ ⟨cHY0, cHY1, cHY2, cHY3⟩ (fun hHeld => ?_)
  clear hK K
  refine norm_ (a' := ?_) ?_ ?_
  rotate_left
  · show Act.put _ (some 15) _ = _
    simp only [Act.put, List.setIfInBounds_toArray, List.set_cons_zero, List.set_cons_succ, i64_w, i32_w]
    rfl
  refine pure_ (i := 9) (N := some 16) (v := ?_) (a' := ?_) #[true, true, true, true, true, true, true, true, true, true, false, false, false, false] rfl rfl (by kernel_rfl) (fun _ _ _ h => h) (Or.inl ⟨by rfl, ?_⟩) ?_ ?_
  rotate_left
  · intro w'
    go_simp
    with_reducible rfl
  rotate_left
  · simp only [Act.put, List.setIfInBounds_toArray, List.set_cons_zero, List.set_cons_succ, i64_w, i32_w]
    rfl
  refine pure_ (i := 10) (N := some 17) (v := ?_) (a' := ?_) #[true, true, true, true, true, true, true, true, true, true, true, false, false, false] rfl rfl (by kernel_rfl) (fun _ _ _ h => h) (Or.inl ⟨by rfl, ?_⟩) ?_ ?_
  rotate_left
  · intro w'
    go_simp
    with_reducible rfl
  rotate_left
  · simp only [Act.put, List.setIfInBounds_toArray, List.set_cons_zero, List.set_cons_succ, i64_w, i32_w]
    rfl
  refine one_ (i := 11) (N := some 18) #[true, true, true, true, true, true, true, true, true, true, true, true, false, false] rfl rfl (by kernel_rfl) (by decide) (fun K hK => ?_)
  refine goes_ Try.func11 (by kernel_rfl) rfl #[] (by rfl) rfl rfl (by simp only [List.map_toArray, List.map_nil]) ?_
  refine (lives_c _).mono ?_
  rintro e w9 ⟨rfl, hb9⟩
  refine ⟨_, rfl, ?_⟩
  clear cHY0 cHY1 cHY2 cHY3
  replace HB := Hd.mk (below_step HB.out hb9)
  replace HE := Hd.mk (HE.out.below hb9)
  replace HY := Hd.mk (blk_below HY.out hb9)
  have cHY0 := blk_cell HY.out 0
  have cHY1 := blk_cell HY.out 1
  have cHY2 := blk_cell HY.out 2
  have cHY3 := blk_cell HY.out 3
  simp at cHY0 cHY1 cHY2 cHY3
  clear hb9
  refine hK.out _ _ ⟨cHY0, cHY1, cHY2, cHY3⟩ (fun hHeld => ?_)
  clear hK K
  refine norm_ (a' := ?_) ?_ ?_
  rotate_left
  · show Act.put _ (some 18) _ = _
    simp only [Act.put, List.setIfInBounds_toArray, List.set_cons_zero, List.set_cons_succ, i64_w, i32_w]
    rfl
  refine pure_ (i := 12) (N := some 19) (v := ?_) (a' := ?_) #[true, true, true, true, true, true, true, true, true, true, true, true, true, false] rfl rfl (by kernel_rfl) (fun _ _ _ h => h) (Or.inl ⟨by rfl, ?_⟩) ?_ ?_
  rotate_left
  · intro w'
    go_simp
    with_reducible rfl
  rotate_left
  · simp only [Act.put, List.setIfInBounds_toArray, List.set_cons_zero, List.set_cons_succ, i64_w, i32_w]
    rfl
  refine pure_ (i := 13) (N := some 6) (v := ?_) (a' := ?_) #[true, true, true, true, true, true, true, true, true, true, true, true, true, true] rfl rfl (by kernel_rfl) (fun _ _ _ h => h) (Or.inl ⟨by rfl, ?_⟩) ?_ ?_
  rotate_left
  · intro w'
    go_simp
    with_reducible rfl
  rotate_left
  · simp only [Act.put, List.setIfInBounds_toArray, List.set_cons_zero, List.set_cons_succ, i64_w, i32_w]
    rfl
  refine done_ (by kernel_rfl) ?_
  go_wp2
  go_ret
  exact ⟨by simp, HB.out⟩
end Go.Proofs.Ytinlfoblpgpikaa
