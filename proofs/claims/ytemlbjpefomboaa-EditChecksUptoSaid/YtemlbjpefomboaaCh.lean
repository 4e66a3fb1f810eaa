/- edit: the walk of EditChecks. -/
import Derived.Test.YtemlbjpefomboaaLe
import Derived.Test.YtemlbjpefomboaaKe
import Derived.Test.YtemlbjpefomboaaRc
import Derived.Test.YtemlbjpefomboaaFi
import Derived.Test.YtemlbjpefomboaaEn
import Derived.Test.YtemlbjpefomboaaOz2
namespace Go.Proofs.Ytemlbjpefomboaa
open Go.RowKit Go.Shelf Go.Proofs.YtemlbjpefomboaaW.PrintWords Go.Proofs.YtemlbjpefomboaaW.PrintLast Go.Proofs.YtemlbjpefomboaaW.PrintMore Go.Proofs.Ytemlbjpefomboaa.Pr
set_option linter.unusedVariables false
set_option linter.unusedSimpArgs false
set_option maxRecDepth 100000 in
set_option maxHeartbeats 8000000 in
theorem walk_editChecks (A0 : Option Addr) (c0 : Nat) (st : List S80) (A1 : Option Addr) (c1 : Nat) (d : List Int) (A2 : Option Addr) (c2 : Nat) (x : List Int) (old size : Int) (w : World)
    (H : EdI w A0 c0 st A1 c1 d A2 c2 x ∧ st.length ≤ 1048576 ∧ d.length ≤ 1048576 ∧ x.length ≤ 1048576 ∧ (-9223372036854775808 ≤ old ∧ old ≤ 9223372036854775807) ∧ (-9223372036854775808 ≤ size ∧ size ≤ 9223372036854775807)) :
    Calls Try.prog 5 #[.agg #[.slice A0 st.length c0, .slice A1 d.length c1, .slice A2 x.length c2, .int .i64 old, .int .i64 size]] w fun e w' => e = .returned (.bool true) ∧ Below w.heap.size w w' := by
  obtain ⟨⟨hE, _, _, _⟩, hf, hdl, hxl, _, _⟩ := H
  have hb0 : Below w.heap.size w (w.alloc (.cells #[.slice A0 st.length c0, .slice A1 d.length c1, .slice A2 x.length c2, .int .i64 old, .int .i64 size] 38)) := (Below.refl _ _).alloc (Nat.le_refl _) _
  have HE := Hd.mk hE
  have HB0 := Hd.mk hb0
  have HY0 := Hd.mk (blk_new w (.cells #[.slice A0 st.length c0, .slice A1 d.length c1, .slice A2 x.length c2, .int .i64 old, .int .i64 size] 38))
  have HF := Hd.mk hf
  have hlend := lend_c A0 c0 st A1 c1 d A2 c2 x _ (hE.below hb0) (by omega) (by omega) (by omega)
  have HLEND := Hd.mk hlend
  clear hb0 hE hf hdl hxl hlend
  go_enter Try.func5, Try.ntmps5
  go_wp2_with fail
  refine HLEND.out.mono ?_
  rintro e w1 ⟨B0, e0, B1, e1, B2, e2, rfl, hL, hb1⟩
  unfold EdV
  have HB1 := Hd.mk (below_step HB0.out hb1)
  have HL1 := Hd.mk hL
  have HY1 := Hd.mk (blk_below HY0.out hb1)
  clear hb1 hL HB0 HY0 HLEND
  have cy0 := blk_cell HY1.out 0
  have cy1 := blk_cell HY1.out 1
  have cy2 := blk_cell HY1.out 2
  have cy3 := blk_cell HY1.out 3
  have cy4 := blk_cell HY1.out 4
  simp at cy0 cy1 cy2 cy3 cy4
  have hlt1 := blk_lt HY1.out
  have hbA : Below w1.heap.size w1 (w1.alloc (.cells #[.slice B0 st.length e0, .slice B1 d.length e1, .slice B2 x.length e2] 28)) := (Below.refl _ _).alloc (Nat.le_refl _) _
  have HBA := Hd.mk hbA
  have HTA := Hd.mk (blk_new w1 (.cells #[.slice B0 st.length e0, .slice B1 d.length e1, .slice B2 x.length e2] 28))
  clear hbA
  go_wp2_with fail
  refine (check_c old size (HL1.out.edc.below HBA.out)).mono ?_
  rintro e w2 ⟨rfl, hb2⟩
  have HB2 := Hd.mk (below_step (below_step HB1.out HBA.out) hb2)
  have HL2 := Hd.mk ((HL1.out.below HBA.out).below hb2)
  have HY2 := Hd.mk (blk_below (blk_below HY1.out HBA.out) hb2)
  have HT2 := Hd.mk (blk_below HTA.out hb2)
  clear hb2 HB1 HL1 HY1 HTA HBA cy0 cy1 cy2 cy3 cy4
  have cy0 := blk_cell HY2.out 0
  have cy1 := blk_cell HY2.out 1
  have cy2 := blk_cell HY2.out 2
  have cy3 := blk_cell HY2.out 3
  have cy4 := blk_cell HY2.out 4
  have ct0 := blk_cell HT2.out 0
  have ct1 := blk_cell HT2.out 1
  have ct2 := blk_cell HT2.out 2
  simp at cy0 cy1 cy2 cy3 cy4 ct0 ct1 ct2
  go_wp2_with fail
  refine (size_c HL2.out.edc).mono ?_
  rintro e w3 ⟨rfl, hb3⟩
  have HB3 := Hd.mk (below_step HB2.out hb3)
  have HL3 := Hd.mk (HL2.out.below hb3)
  have HY3 := Hd.mk (blk_below HY2.out hb3)
  have HT3 := Hd.mk (blk_below HT2.out hb3)
  clear hb3 HB2 HL2 HY2 HT2 cy0 cy1 cy2 cy3 cy4 ct0 ct1 ct2
  have cy0 := blk_cell HY3.out 0
  have cy1 := blk_cell HY3.out 1
  have cy2 := blk_cell HY3.out 2
  have cy3 := blk_cell HY3.out 3
  have cy4 := blk_cell HY3.out 4
  have ct0 := blk_cell HT3.out 0
  have ct1 := blk_cell HT3.out 1
  have ct2 := blk_cell HT3.out 2
  simp at cy0 cy1 cy2 cy3 cy4 ct0 ct1 ct2
  go_wp2_with fail
  refine (rsize_c (HE.out.below HB3.out) HF.out).mono ?_
  rintro e w4 ⟨rfl, hb4⟩
  have HB4 := Hd.mk (below_step HB3.out hb4)
  have HL4 := Hd.mk (HL3.out.below hb4)
  have HY4 := Hd.mk (blk_below HY3.out hb4)
  have HT4 := Hd.mk (blk_below HT3.out hb4)
  clear hb4 HB3 HL3 HY3 HT3 cy0 cy1 cy2 cy3 cy4 ct0 ct1 ct2
  have cy0 := blk_cell HY4.out 0
  have cy1 := blk_cell HY4.out 1
  have cy2 := blk_cell HY4.out 2
  have cy3 := blk_cell HY4.out 3
  have cy4 := blk_cell HY4.out 4
  have ct0 := blk_cell HT4.out 0
  have ct1 := blk_cell HT4.out 1
  have ct2 := blk_cell HT4.out 2
  simp at cy0 cy1 cy2 cy3 cy4 ct0 ct1 ct2
  go_wp2_with fail
  obtain ⟨q, hq⟩ : ∃ q, checked st d x old size = q := ⟨_, rfl⟩
  obtain ⟨r1, hr1⟩ : ∃ q, (ited st d x).1 = q := ⟨_, rfl⟩
  obtain ⟨r2, hr2⟩ : ∃ q, (ited st d x).2 = q := ⟨_, rfl⟩
  rw [hq, hr1, hr2]
  have HRC : Hd (Calls Try.prog 31 #[.agg #[.slice A0 st.length c0, .slice A1 d.length c1, .slice A2 x.length c2], .int .i64 old, .int .i64 size] w4.drew fun e w' => e = .returned (.int .i64 q) ∧ Below w4.drew.heap.size w4.drew w') := ⟨by rw [← hq]; exact rcheck_c old size ((HE.out.below HB4.out).below (Below.drew' w4)) HF.out⟩
  have hdw := Hd.mk (Below.drew' w4)
  have HK : Hd (∀ W, Below w4.drew.heap.size w4.drew W → Calls Try.prog 27 #[.agg #[.slice B0 st.length e0, .slice B1 d.length e1, .slice B2 x.length e2], .agg #[.slice A0 st.length c0, .slice A1 d.length c1, .slice A2 x.length c2]] W fun e w' => e = .returned (.bool true) ∧ Below W.heap.size W w') := ⟨fun W hW => kept_c ((HL4.out.below (Below.drew' w4)).below hW) (((HE.out.below HB4.out).below (Below.drew' w4)).below hW)⟩
  clear hq hr1 hr2
  refine start_ (n := 31) (S := fun w' => w'.cell? ⟨w.heap.size, 0, none⟩ = some (.slice A0 st.length c0) ∧ w'.cell? ⟨w.heap.size, 1, none⟩ = some (.slice A1 d.length c1) ∧ w'.cell? ⟨w.heap.size, 2, none⟩ = some (.slice A2 x.length c2) ∧ w'.cell? ⟨w.heap.size, 3, none⟩ = some (.int .i64 old) ∧ w'.cell? ⟨w.heap.size, 4, none⟩ = some (.int .i64 size) ∧ w'.cell? ⟨w1.heap.size, 0, none⟩ = some (.slice B0 st.length e0) ∧ w'.cell? ⟨w1.heap.size, 1, none⟩ = some (.slice B1 d.length e1) ∧ w'.cell? ⟨w1.heap.size, 2, none⟩ = some (.slice B2 x.length e2)) (ds := []) #[false, false, false, false, false, false, false, false, false, false, false, false, false, false, false, false, false, false, false, false, false, false, false, false, false, false, false, false, false, false, false] (by kernel_rfl) rfl rfl ⟨cy0, cy1, cy2, cy3, cy4, ct0, ct1, ct2⟩ (fun hHeld => ?_)
  refine pure_ (i := 0) (N := some 29) (v := ?_) (a' := ?_) #[true, false, false, false, false, false, false, false, false, false, false, false, false, false, false, false, false, false, false, false, false, false, false, false, false, false, false, false, false, false, false] rfl rfl (by kernel_rfl) (fun _ _ _ h => h) (Or.inl ⟨by rfl, ?_⟩) ?_ ?_
  rotate_left
  · intro w'
    go_simp
    with_reducible rfl
  rotate_left
  · simp only [Act.put, List.setIfInBounds_toArray, List.set_cons_zero, List.set_cons_succ, i64_w, i32_w]
    rfl
  refine pure_ (i := 2) (N := some 31) (v := ?_) (a' := ?_) #[true, false, true, false, false, false, false, false, false, false, false, false, false, false, false, false, false, false, false, false, false, false, false, false, false, false, false, false, false, false, false] rfl rfl (by kernel_rfl) (fun _ _ _ h => h) (Or.inl ⟨by rfl, ?_⟩) ?_ ?_
  rotate_left
  · intro w'
    go_simp
    with_reducible rfl
  rotate_left
  · simp only [Act.put, List.setIfInBounds_toArray, List.set_cons_zero, List.set_cons_succ, i64_w, i32_w]
    rfl
  refine pure_ (i := 4) (N := some 33) (v := ?_) (a' := ?_) #[true, false, true, false, true, false, false, false, false, false, false, false, false, false, false, false, false, false, false, false, false, false, false, false, false, false, false, false, false, false, false] rfl rfl (by kernel_rfl) (fun _ _ _ h => h) (Or.inl ⟨by rfl, ?_⟩) ?_ ?_
  rotate_left
  · intro w'
    go_simp
    with_reducible rfl
  rotate_left
  · simp only [Act.put, List.setIfInBounds_toArray, List.set_cons_zero, List.set_cons_succ, i64_w, i32_w]
    rfl
  refine pure_ (i := 6) (N := some 35) (v := ?_) (a' := ?_) #[true, false, true, false, true, false, true, false, false, false, false, false, false, false, false, false, false, false, false, false, false, false, false, false, false, false, false, false, false, false, false] rfl rfl (by kernel_rfl) (fun _ _ _ h => h) (Or.inl ⟨by rfl, ?_⟩) ?_ ?_
  rotate_left
  · intro w'
    go_simp
    with_reducible rfl
  rotate_left
  · simp only [Act.put, List.setIfInBounds_toArray, List.set_cons_zero, List.set_cons_succ, i64_w, i32_w]
    rfl
  refine take_ (i := 3) (N := some 32) (v := ?_) (a' := ?_) #[true, false, true, true, true, false, true, false, false, false, false, false, false, false, false, false, false, false, false, false, false, false, false, false, false, false, false, false, false, false, false] rfl rfl (by kernel_rfl) (fun _ _ _ h => h) (Or.inl ⟨by rfl, ?_⟩) hHeld ?_ ?_
  rotate_left
  · rintro w' ⟨s0, s1, s2, s3, s4, s5, s6, s7⟩
    go_simp
    with_reducible rfl
  rotate_left
  · simp only [Act.put, List.setIfInBounds_toArray, List.set_cons_zero, List.set_cons_succ, i64_w, i32_w]
    rfl
  refine take_ (i := 5) (N := some 34) (v := ?_) (a' := ?_) #[true, false, true, true, true, true, true, false, false, false, false, false, false, false, false, false, false, false, false, false, false, false, false, false, false, false, false, false, false, false, false] rfl rfl (by kernel_rfl) (fun _ _ _ h => h) (Or.inl ⟨by rfl, ?_⟩) hHeld ?_ ?_
  rotate_left
  · rintro w' ⟨s0, s1, s2, s3, s4, s5, s6, s7⟩
    go_simp
    with_reducible rfl
  rotate_left
  · simp only [Act.put, List.setIfInBounds_toArray, List.set_cons_zero, List.set_cons_succ, i64_w, i32_w]
    rfl
  refine take_ (i := 7) (N := some 36) (v := ?_) (a' := ?_) #[true, false, true, true, true, true, true, true, false, false, false, false, false, false, false, false, false, false, false, false, false, false, false, false, false, false, false, false, false, false, false] rfl rfl (by kernel_rfl) (fun _ _ _ h => h) (Or.inl ⟨by rfl, ?_⟩) hHeld ?_ ?_
  rotate_left
  · rintro w' ⟨s0, s1, s2, s3, s4, s5, s6, s7⟩
    go_simp
    with_reducible rfl
  rotate_left
  · simp only [Act.put, List.setIfInBounds_toArray, List.set_cons_zero, List.set_cons_succ, i64_w, i32_w]
    rfl
  refine one_ (i := 1) (N := some 30) #[true, true, true, true, true, true, true, true, false, false, false, false, false, false, false, false, false, false, false, false, false, false, false, false, false, false, false, false, false, false, false] rfl rfl (by kernel_rfl) (by decide) (fun K hK => ?_)
  refine goes_ Try.func21 (by kernel_rfl) rfl #[.int .i64 q] (by rfl) rfl rfl (by simp only [List.map_toArray, List.map_cons, List.map_nil]; rfl) ?_
  with_reducible refine (num_c q _).mono ?_
  rintro e w5 ⟨rfl, rfl⟩
  refine ⟨_, rfl, ?_⟩
  refine hK.out _ _ ⟨cy0, cy1, cy2, cy3, cy4, ct0, ct1, ct2⟩ (fun hHeld => ?_)
  clear hK K
  refine norm_ (a' := ?_) ?_ ?_
  rotate_left
  · show Act.put _ (some 30) _ = _
    simp only [Act.put, List.setIfInBounds_toArray, List.set_cons_zero, List.set_cons_succ, i64_w, i32_w]
    rfl
  refine one_ (i := 8) (N := some 37) #[true, true, true, true, true, true, true, true, true, false, false, false, false, false, false, false, false, false, false, false, false, false, false, false, false, false, false, false, false, false, false] rfl rfl (by kernel_rfl) (by decide) (fun K hK => ?_)
  refine goes_ Try.func31 (by kernel_rfl) rfl #[.agg #[.slice A0 st.length c0, .slice A1 d.length c1, .slice A2 x.length c2], .int .i64 old, .int .i64 size] (by rfl) rfl rfl (by simp only [List.map_toArray, List.map_cons, List.map_nil]; rfl) ?_
  with_reducible refine (HRC.out).mono ?_
  rintro e w6 ⟨rfl, hb6⟩
  refine ⟨_, rfl, ?_⟩
  have H6 := Hd.mk hb6
  clear hb6
  refine hK.out _ _ ⟨pw_cell_below H6.out cy0, pw_cell_below H6.out cy1, pw_cell_below H6.out cy2, pw_cell_below H6.out cy3, pw_cell_below H6.out cy4, pw_cell_below H6.out ct0, pw_cell_below H6.out ct1, pw_cell_below H6.out ct2⟩ (fun hHeld => ?_)
  clear hK K
  refine norm_ (a' := ?_) ?_ ?_
  rotate_left
  · show Act.put _ (some 37) _ = _
    simp only [Act.put, List.setIfInBounds_toArray, List.set_cons_zero, List.set_cons_succ, i64_w, i32_w]
    rfl
  refine pure_ (i := 9) (N := some 38) (v := ?_) (a' := ?_) #[true, true, true, true, true, true, true, true, true, true, false, false, false, false, false, false, false, false, false, false, false, false, false, false, false, false, false, false, false, false, false] rfl rfl (by kernel_rfl) (fun _ _ _ h => h) (Or.inl ⟨by rfl, ?_⟩) ?_ ?_
  rotate_left
  · intro w'
    go_simp
    with_reducible rfl
  rotate_left
  · simp only [Act.put, List.setIfInBounds_toArray, List.set_cons_zero, List.set_cons_succ, i64_w, i32_w]
    rfl
  refine pure_ (i := 10) (N := some 39) (v := ?_) (a' := ?_) #[true, true, true, true, true, true, true, true, true, true, true, false, false, false, false, false, false, false, false, false, false, false, false, false, false, false, false, false, false, false, false] rfl rfl (by kernel_rfl) (fun _ _ _ h => h) (Or.inl ⟨by rfl, ?_⟩) ?_ ?_
  rotate_left
  · intro w'
    go_simp
    with_reducible rfl
  rotate_left
  · simp only [Act.put, List.setIfInBounds_toArray, List.set_cons_zero, List.set_cons_succ, i64_w, i32_w]
    rfl
  refine pure_ (i := 11) (N := some 40) (v := ?_) (a' := ?_) #[true, true, true, true, true, true, true, true, true, true, true, true, false, false, false, false, false, false, false, false, false, false, false, false, false, false, false, false, false, false, false] rfl rfl (by kernel_rfl) (fun _ _ _ h => h) (Or.inl ⟨by rfl, ?_⟩) ?_ ?_
  rotate_left
  · intro w'
    go_simp
    with_reducible rfl
  rotate_left
  · simp only [Act.put, List.setIfInBounds_toArray, List.set_cons_zero, List.set_cons_succ, i64_w, i32_w]
    rfl
  refine pure_ (i := 12) (N := some 41) (v := ?_) (a' := ?_) #[true, true, true, true, true, true, true, true, true, true, true, true, true, false, false, false, false, false, false, false, false, false, false, false, false, false, false, false, false, false, false] rfl rfl (by kernel_rfl) (fun _ _ _ h => h) (Or.inl ⟨by rfl, ?_⟩) ?_ ?_
  rotate_left
  · intro w'
    go_simp
    with_reducible rfl
  rotate_left
  · simp only [Act.put, List.setIfInBounds_toArray, List.set_cons_zero, List.set_cons_succ, i64_w, i32_w]
    rfl
  refine pure_ (i := 13) (N := some 42) (v := ?_) (a' := ?_) #[true, true, true, true, true, true, true, true, true, true, true, true, true, true, false, false, false, false, false, false, false, false, false, false, false, false, false, false, false, false, false] rfl rfl (by kernel_rfl) (fun _ _ _ h => h) (Or.inl ⟨by rfl, ?_⟩) ?_ ?_
  rotate_left
  · intro w'
    go_simp
    with_reducible rfl
  rotate_left
  · simp only [Act.put, List.setIfInBounds_toArray, List.set_cons_zero, List.set_cons_succ, i64_w, i32_w]
    rfl
  refine pure_ (i := 14) (N := some 43) (v := ?_) (a' := ?_) #[true, true, true, true, true, true, true, true, true, true, true, true, true, true, true, false, false, false, false, false, false, false, false, false, false, false, false, false, false, false, false] rfl rfl (by kernel_rfl) (fun _ _ _ h => h) (Or.inl ⟨by rfl, ?_⟩) ?_ ?_
  rotate_left
  · intro w'
    go_simp
    with_reducible rfl
  rotate_left
  · simp only [Act.put, List.setIfInBounds_toArray, List.set_cons_zero, List.set_cons_succ, i64_w, i32_w]
    rfl
  refine pure_ (i := 15) (N := some 44) (v := ?_) (a' := ?_) #[true, true, true, true, true, true, true, true, true, true, true, true, true, true, true, true, false, false, false, false, false, false, false, false, false, false, false, false, false, false, false] rfl rfl (by kernel_rfl) (fun _ _ _ h => h) (Or.inl ⟨by rfl, ?_⟩) ?_ ?_
  rotate_left
  · intro w'
    go_simp
    with_reducible rfl
  rotate_left
  · simp only [Act.put, List.setIfInBounds_toArray, List.set_cons_zero, List.set_cons_succ, i64_w, i32_w]
    rfl
  refine pure_ (i := 16) (N := some 45) (v := ?_) (a' := ?_) #[true, true, true, true, true, true, true, true, true, true, true, true, true, true, true, true, true, false, false, false, false, false, false, false, false, false, false, false, false, false, false] rfl rfl (by kernel_rfl) (fun _ _ _ h => h) (Or.inl ⟨by rfl, ?_⟩) ?_ ?_
  rotate_left
  · intro w'
    go_simp
    with_reducible rfl
  rotate_left
  · simp only [Act.put, List.setIfInBounds_toArray, List.set_cons_zero, List.set_cons_succ, i64_w, i32_w]
    rfl
  refine pure_ (i := 18) (N := some 47) (v := ?_) (a' := ?_) #[true, true, true, true, true, true, true, true, true, true, true, true, true, true, true, true, true, false, true, false, false, false, false, false, false, false, false, false, false, false, false] rfl rfl (by kernel_rfl) (fun _ _ _ h => h) (Or.inl ⟨by rfl, ?_⟩) ?_ ?_
  rotate_left
  · intro w'
    go_simp
    with_reducible rfl
  rotate_left
  · simp only [Act.put, List.setIfInBounds_toArray, List.set_cons_zero, List.set_cons_succ, i64_w, i32_w]
    rfl
  refine one_ (i := 17) (N := some 46) #[true, true, true, true, true, true, true, true, true, true, true, true, true, true, true, true, true, true, true, false, false, false, false, false, false, false, false, false, false, false, false] rfl rfl (by kernel_rfl) (by decide) (fun K hK => ?_)
  refine goes_ Try.func21 (by kernel_rfl) rfl #[.int .i64 r2] (by rfl) rfl rfl (by simp only [List.map_toArray, List.map_cons, List.map_nil]; rfl) ?_
  with_reducible refine (num_c r2 _).mono ?_
  rintro e w7 ⟨rfl, rfl⟩
  refine ⟨_, rfl, ?_⟩
  refine hK.out _ _ ⟨pw_cell_below H6.out cy0, pw_cell_below H6.out cy1, pw_cell_below H6.out cy2, pw_cell_below H6.out cy3, pw_cell_below H6.out cy4, pw_cell_below H6.out ct0, pw_cell_below H6.out ct1, pw_cell_below H6.out ct2⟩ (fun hHeld => ?_)
  clear hK K
  refine norm_ (a' := ?_) ?_ ?_
  rotate_left
  · show Act.put _ (some 46) _ = _
    simp only [Act.put, List.setIfInBounds_toArray, List.set_cons_zero, List.set_cons_succ, i64_w, i32_w]
    rfl
  refine pure_ (i := 19) (N := some 48) (v := ?_) (a' := ?_) #[true, true, true, true, true, true, true, true, true, true, true, true, true, true, true, true, true, true, true, true, false, false, false, false, false, false, false, false, false, false, false] rfl rfl (by kernel_rfl) (fun _ _ _ h => h) (Or.inl ⟨by rfl, ?_⟩) ?_ ?_
  rotate_left
  · intro w'
    go_simp
    with_reducible rfl
  rotate_left
  · simp only [Act.put, List.setIfInBounds_toArray, List.set_cons_zero, List.set_cons_succ, i64_w, i32_w]
    rfl
  refine pure_ (i := 20) (N := some 49) (v := ?_) (a' := ?_) #[true, true, true, true, true, true, true, true, true, true, true, true, true, true, true, true, true, true, true, true, true, false, false, false, false, false, false, false, false, false, false] rfl rfl (by kernel_rfl) (fun _ _ _ h => h) (Or.inl ⟨by rfl, ?_⟩) ?_ ?_
  rotate_left
  · intro w'
    go_simp
    with_reducible rfl
  rotate_left
  · simp only [Act.put, List.setIfInBounds_toArray, List.set_cons_zero, List.set_cons_succ, i64_w, i32_w]
    rfl
  refine pure_ (i := 21) (N := some 50) (v := ?_) (a' := ?_) #[true, true, true, true, true, true, true, true, true, true, true, true, true, true, true, true, true, true, true, true, true, true, false, false, false, false, false, false, false, false, false] rfl rfl (by kernel_rfl) (fun _ _ _ h => h) (Or.inl ⟨by rfl, ?_⟩) ?_ ?_
  rotate_left
  · intro w'
    go_simp
    with_reducible rfl
  rotate_left
  · simp only [Act.put, List.setIfInBounds_toArray, List.set_cons_zero, List.set_cons_succ, i64_w, i32_w]
    rfl
  refine pure_ (i := 23) (N := some 52) (v := ?_) (a' := ?_) #[true, true, true, true, true, true, true, true, true, true, true, true, true, true, true, true, true, true, true, true, true, true, false, true, false, false, false, false, false, false, false] rfl rfl (by kernel_rfl) (fun _ _ _ h => h) (Or.inl ⟨by rfl, ?_⟩) ?_ ?_
  rotate_left
  · intro w'
    go_simp
    with_reducible rfl
  rotate_left
  · simp only [Act.put, List.setIfInBounds_toArray, List.set_cons_zero, List.set_cons_succ, i64_w, i32_w]
    rfl
  refine take_ (i := 22) (N := some 51) (v := ?_) (a' := ?_) #[true, true, true, true, true, true, true, true, true, true, true, true, true, true, true, true, true, true, true, true, true, true, true, true, false, false, false, false, false, false, false] rfl rfl (by kernel_rfl) (fun _ _ _ h => h) (Or.inl ⟨by rfl, ?_⟩) hHeld ?_ ?_
  rotate_left
  · rintro w' ⟨s0, s1, s2, s3, s4, s5, s6, s7⟩
    go_simp
    with_reducible rfl
  rotate_left
  · simp only [Act.put, List.setIfInBounds_toArray, List.set_cons_zero, List.set_cons_succ, i64_w, i32_w]
    rfl
  refine take_ (i := 24) (N := some 53) (v := ?_) (a' := ?_) #[true, true, true, true, true, true, true, true, true, true, true, true, true, true, true, true, true, true, true, true, true, true, true, true, true, false, false, false, false, false, false] rfl rfl (by kernel_rfl) (fun _ _ _ h => h) (Or.inl ⟨by rfl, ?_⟩) hHeld ?_ ?_
  rotate_left
  · rintro w' ⟨s0, s1, s2, s3, s4, s5, s6, s7⟩
    go_simp
    with_reducible rfl
  rotate_left
  · simp only [Act.put, List.setIfInBounds_toArray, List.set_cons_zero, List.set_cons_succ, i64_w, i32_w]
    rfl
  refine one_ (i := 25) (N := some 54) #[true, true, true, true, true, true, true, true, true, true, true, true, true, true, true, true, true, true, true, true, true, true, true, true, true, true, false, false, false, false, false] rfl rfl (by kernel_rfl) (by decide) (fun K hK => ?_)
  refine goes_ Try.func27 (by kernel_rfl) rfl #[.agg #[.slice B0 st.length e0, .slice B1 d.length e1, .slice B2 x.length e2], .agg #[.slice A0 st.length c0, .slice A1 d.length c1, .slice A2 x.length c2]] (by rfl) rfl rfl (by simp only [List.map_toArray, List.map_cons, List.map_nil]; rfl) ?_
  with_reducible refine (HK.out _ H6.out).mono ?_
  rintro e w8 ⟨rfl, hb8⟩
  refine ⟨_, rfl, ?_⟩
  have H8 := Hd.mk (below_step H6.out hb8)
  clear hb8
  refine hK.out _ _ ⟨pw_cell_below H8.out cy0, pw_cell_below H8.out cy1, pw_cell_below H8.out cy2, pw_cell_below H8.out cy3, pw_cell_below H8.out cy4, pw_cell_below H8.out ct0, pw_cell_below H8.out ct1, pw_cell_below H8.out ct2⟩ (fun hHeld => ?_)
  clear hK K
  refine norm_ (a' := ?_) ?_ ?_
  rotate_left
  · show Act.put _ (some 54) _ = _
    simp only [Act.put, List.setIfInBounds_toArray, List.set_cons_zero, List.set_cons_succ, i64_w, i32_w]
    rfl
  refine pure_ (i := 26) (N := some 55) (v := ?_) (a' := ?_) #[true, true, true, true, true, true, true, true, true, true, true, true, true, true, true, true, true, true, true, true, true, true, true, true, true, true, true, false, false, false, false] rfl rfl (by kernel_rfl) (fun _ _ _ h => h) (Or.inl ⟨by rfl, ?_⟩) ?_ ?_
  rotate_left
  · intro w'
    go_simp
    with_reducible rfl
  rotate_left
  · simp only [Act.put, List.setIfInBounds_toArray, List.set_cons_zero, List.set_cons_succ, i64_w, i32_w]
    rfl
  refine pure_ (i := 27) (N := some 56) (v := ?_) (a' := ?_) #[true, true, true, true, true, true, true, true, true, true, true, true, true, true, true, true, true, true, true, true, true, true, true, true, true, true, true, true, false, false, false] rfl rfl (by kernel_rfl) (fun _ _ _ h => h) (Or.inl ⟨by rfl, ?_⟩) ?_ ?_
  rotate_left
  · intro w'
    go_simp
    with_reducible rfl
  rotate_left
  · simp only [Act.put, List.setIfInBounds_toArray, List.set_cons_zero, List.set_cons_succ, i64_w, i32_w]
    rfl
  refine one_ (i := 28) (N := some 57) #[true, true, true, true, true, true, true, true, true, true, true, true, true, true, true, true, true, true, true, true, true, true, true, true, true, true, true, true, true, false, false] rfl rfl (by kernel_rfl) (by decide) (fun K hK => ?_)
  refine goes_ Try.func22 (by kernel_rfl) rfl #[] (by rfl) rfl rfl (by simp) ?_
  with_reducible refine (awake_c _).mono ?_
  rintro e w9 ⟨rfl, hb9⟩
  refine ⟨_, rfl, ?_⟩
  have H9 := Hd.mk (below_step H8.out hb9)
  clear hb9
  refine hK.out _ _ ⟨pw_cell_below H9.out cy0, pw_cell_below H9.out cy1, pw_cell_below H9.out cy2, pw_cell_below H9.out cy3, pw_cell_below H9.out cy4, pw_cell_below H9.out ct0, pw_cell_below H9.out ct1, pw_cell_below H9.out ct2⟩ (fun hHeld => ?_)
  clear hK K
  refine norm_ (a' := ?_) ?_ ?_
  rotate_left
  · show Act.put _ (some 57) _ = _
    simp only [Act.put, List.setIfInBounds_toArray, List.set_cons_zero, List.set_cons_succ, i64_w, i32_w]
    rfl
  refine pure_ (i := 29) (N := some 58) (v := ?_) (a' := ?_) #[true, true, true, true, true, true, true, true, true, true, true, true, true, true, true, true, true, true, true, true, true, true, true, true, true, true, true, true, true, true, false] rfl rfl (by kernel_rfl) (fun _ _ _ h => h) (Or.inl ⟨by rfl, ?_⟩) ?_ ?_
  rotate_left
  · intro w'
    go_simp
    with_reducible rfl
  rotate_left
  · simp only [Act.put, List.setIfInBounds_toArray, List.set_cons_zero, List.set_cons_succ, i64_w, i32_w]
    rfl
  refine pure_ (i := 30) (N := some 2) (v := ?_) (a' := ?_) #[true, true, true, true, true, true, true, true, true, true, true, true, true, true, true, true, true, true, true, true, true, true, true, true, true, true, true, true, true, true, true] rfl rfl (by kernel_rfl) (fun _ _ _ h => h) (Or.inl ⟨by rfl, ?_⟩) ?_ ?_
  rotate_left
  · intro w'
    go_simp
    with_reducible rfl
  rotate_left
  · simp only [Act.put, List.setIfInBounds_toArray, List.set_cons_zero, List.set_cons_succ, i64_w, i32_w]
    rfl
  refine done_ (by kernel_rfl) ?_
  go_wp2
  go_ret
  exact ⟨by simp, below_step (below_step HB4.out hdw.out) H9.out⟩
end Go.Proofs.Ytemlbjpefomboaa
