/- edit: the walk of EditApplies. -/
import Derived.Test.YtemlbjpefomboaaLe
import Derived.Test.YtemlbjpefomboaaKe
import Derived.Test.YtemlbjpefomboaaRa
import Derived.Test.YtemlbjpefomboaaRw
import Derived.Test.YtemlbjpefomboaaFi
import Derived.Test.YtemlbjpefomboaaEj
import Derived.Test.YtemlbjpefomboaaOe
namespace Go.Proofs.Ytemlbjpefomboaa
open Go.RowKit Go.Shelf Go.Proofs.YtemlbjpefomboaaW.PrintWords Go.Proofs.YtemlbjpefomboaaW.PrintLast Go.Proofs.YtemlbjpefomboaaW.PrintMore Go.Proofs.Ytemlbjpefomboaa.Pr
set_option linter.unusedVariables false
set_option linter.unusedSimpArgs false
theorem same_f (l : List Int) : sapperlaw16_same.f l l = some true := by
  unfold sapperlaw16_same.f
  simp
theorem same_c {A : Option Addr} {c : Nat} {B : Option Addr} {e : Nat} {l : List Int} {w : World} (h : Kd.C (Kd.int .u8) w A l.length l) (hc : l.length ≤ c) (k : Kd.C (Kd.int .u8) w B l.length l) (hk : l.length ≤ e) :
    Calls Try.prog 26 #[.slice A l.length c, .slice B l.length e] w fun e w' => e = .returned (.bool true) ∧ Below w.heap.size w w' :=
  (sapperlaw16_same.calls A c l B e l true w h hc k hk (same_f l)).mono fun e w' h => ⟨h.1, h.2.below⟩
attribute [-go_sem] Builtin.append_
set_option maxRecDepth 100000 in
set_option maxHeartbeats 8000000 in
theorem walk_editApplies (Ao : Option Addr) (co : Nat) (old : List Int) (A0 : Option Addr) (c0 : Nat) (st : List S80) (A1 : Option Addr) (c1 : Nat) (d : List Int) (A2 : Option Addr) (c2 : Nat) (x : List Int) (w : World)
    (HO : Bys w Ao co old ∧ old.length ≤ 1048576) (H : EdI w A0 c0 st A1 c1 d A2 c2 x ∧ st.length ≤ 1048576 ∧ d.length ≤ 1048576 ∧ x.length ≤ 1048576) :
    Calls Try.prog 4 #[.slice Ao old.length co, .agg #[.slice A0 st.length c0, .slice A1 d.length c1, .slice A2 x.length c2]] w fun e w' => e = .returned (.bool true) ∧ Below w.heap.size w w' := by
  obtain ⟨⟨hE, _, _, _⟩, hf, hdl, hxl⟩ := H
  obtain ⟨⟨hO, hoc, _⟩, hol⟩ := HO
  have hb0 : Below w.heap.size w (w.alloc (.cells #[.slice A0 st.length c0, .slice A1 d.length c1, .slice A2 x.length c2] 28)) := (Below.refl _ _).alloc (Nat.le_refl _) _
  have HE := Hd.mk (hE.below hb0)
  have HO := Hd.mk (Kd.C_below hO hb0)
  have HOC := Hd.mk hoc
  have HB := Hd.mk hb0
  have HY := Hd.mk (blk_new w (.cells #[.slice A0 st.length c0, .slice A1 d.length c1, .slice A2 x.length c2] 28))
  have HF := Hd.mk hf
  have HOL := Hd.mk hol
  have HLEND := Hd.mk (lend_c A0 c0 st A1 c1 d A2 c2 x _ HE.out (by omega) (by omega) (by omega))
  clear hb0 hE hf hdl hxl hO hoc hol
  go_enter Try.func4, Try.ntmps4
  go_wp2_with fail
  refine HLEND.out.mono ?_
  rintro e w1 ⟨B0, e0, B1, e1, B2, e2, rfl, hL, hb1⟩
  unfold EdV
  have HL := Hd.mk hL
  clear HLEND hL
  have cHY0 := blk_cell HY.out 0
  have cHY1 := blk_cell HY.out 1
  have cHY2 := blk_cell HY.out 2
  simp at cHY0 cHY1 cHY2
  clear cHY0 cHY1 cHY2
  replace HB := Hd.mk (below_step HB.out hb1)
  replace HE := Hd.mk (HE.out.below hb1)
  replace HO := Hd.mk (Kd.C_below HO.out hb1)
  replace HY := Hd.mk (blk_below HY.out hb1)
  have cHY0 := blk_cell HY.out 0
  have cHY1 := blk_cell HY.out 1
  have cHY2 := blk_cell HY.out 2
  simp at cHY0 cHY1 cHY2
  clear hb1
  have hlt1 := blk_lt HY.out
  have hbA : Below w1.heap.size w1 (w1.alloc (.cells #[.slice B0 st.length e0, .slice B1 d.length e1, .slice B2 x.length e2] 28)) := (Below.refl _ _).alloc (Nat.le_refl _) _
  clear cHY0 cHY1 cHY2
  replace HB := Hd.mk (below_step HB.out hbA)
  replace HE := Hd.mk (HE.out.below hbA)
  replace HO := Hd.mk (Kd.C_below HO.out hbA)
  replace HY := Hd.mk (blk_below HY.out hbA)
  replace HL := Hd.mk (HL.out.below hbA)
  have cHY0 := blk_cell HY.out 0
  have cHY1 := blk_cell HY.out 1
  have cHY2 := blk_cell HY.out 2
  simp at cHY0 cHY1 cHY2
  have HT := Hd.mk (blk_new w1 (.cells #[.slice B0 st.length e0, .slice B1 d.length e1, .slice B2 x.length e2] 28))
  clear hbA
  obtain ⟨A6, c6, w2, A10, c10, w3, hr1, hr2, hroom, hcr, hb2, hb3⟩ := room_run (w1.alloc (.cells #[.slice B0 st.length e0, .slice B1 d.length e1, .slice B2 x.length e2] 28)) old [91, 92] (c := co) HO.out (by have := HOL.out; omega) (by decide)
  have HC := Hd.mk hroom
  have hr2' : (Builtin.append_ #[25, 25] 25 #[.slice A6 old.length c6, .slice (some ⟨w2.heap.size, 0, none⟩) 2 2]).run Try.prog (w2.alloc (.cells #[.int .u8 91, .int .u8 92] 5)) = .ok (.slice A10 (old.length + 2) c10) w3 := hr2
  simp only [List.length_cons, List.length_nil, Nat.zero_add] at hcr
  clear hr2 hroom
  have cHT0 := blk_cell HT.out 0
  have cHT1 := blk_cell HT.out 1
  have cHT2 := blk_cell HT.out 2
  simp at cHT0 cHT1 cHT2
  go_wp2_with fail
  clear cHY0 cHY1 cHY2 cHT0 cHT1 cHT2
  replace HB := Hd.mk (below_step HB.out hb3)
  replace HE := Hd.mk (HE.out.below hb3)
  replace HO := Hd.mk (Kd.C_below HO.out hb3)
  replace HY := Hd.mk (blk_below HY.out hb3)
  replace HL := Hd.mk (HL.out.below hb3)
  replace HT := Hd.mk (blk_below HT.out hb3)
  have cHY0 := blk_cell HY.out 0
  have cHY1 := blk_cell HY.out 1
  have cHY2 := blk_cell HY.out 2
  have cHT0 := blk_cell HT.out 0
  have cHT1 := blk_cell HT.out 1
  have cHT2 := blk_cell HT.out 2
  simp at cHY0 cHY1 cHY2 cHT0 cHT1 cHT2
  clear hr1 hr2' hb2 hb3
  have HS3 := Hd.mk (show w.heap.size ≤ w3.drew.heap.size from HB.out.size)
  have hdw := Below.drew' w3
  have hcr1 : old.length ≤ c10 := by omega
  have hCO : Kd.C (Kd.int .u8) w3 A10 old.length old := by
    have h0 := Kd.C_take HC.out (m := old.length) (by simp)
    rwa [List.take_left] at h0
  have HCO := Hd.mk hCO
  have hap := apply_c A10 c10 old B0 e0 st B1 e1 d B2 e2 x w3.drew (Kd.C_below hCO hdw) (by omega) (HL.out.edc.below hdw) (fun h => inn_applied HF.out h)
  unfold EdV at hap
  obtain ⟨q, hq⟩ : ∃ q, appliedE old st d x = q := ⟨_, rfl⟩
  obtain ⟨bs, hbs⟩ : ∃ q, applied old st d x = q := ⟨_, rfl⟩
  rw [hq, hbs] at hap
  have HAP := Hd.mk hap
  have HQ := Hd.mk hq
  have HBS := Hd.mk hbs
  have HDW := Hd.mk hdw
  clear hCO hap hdw hq hbs
  refine start_ (n := 11) (S := fun w' => w'.cell? ⟨w.heap.size, 0, none⟩ = some (.slice A0 st.length c0) ∧ w'.cell? ⟨w.heap.size, 1, none⟩ = some (.slice A1 d.length c1) ∧ w'.cell? ⟨w.heap.size, 2, none⟩ = some (.slice A2 x.length c2) ∧ w'.cell? ⟨w1.heap.size, 0, none⟩ = some (.slice B0 st.length e0) ∧ w'.cell? ⟨w1.heap.size, 1, none⟩ = some (.slice B1 d.length e1) ∧ w'.cell? ⟨w1.heap.size, 2, none⟩ = some (.slice B2 x.length e2)) (ds := []) #[false, false, false, false, false, false, false, false, false, false, false] (by kernel_rfl) rfl rfl ⟨cHY0, cHY1, cHY2, cHT0, cHT1, cHT2⟩ (fun hHeld => ?_)
  refine pure_ (i := 0) (N := some 22) (v := ?_) (a' := ?_) #[true, false, false, false, false, false, false, false, false, false, false] rfl rfl (by kernel_rfl) (fun _ _ _ h => h) (Or.inl ⟨by rfl, ?_⟩) ?_ ?_
  rotate_left
  · intro w'
    go_simp
    with_reducible rfl
  rotate_left
  · simp only [Act.put, List.setIfInBounds_toArray, List.set_cons_zero, List.set_cons_succ, i64_w, i32_w]
    rfl
  refine pure_ (i := 1) (N := some 23) (v := ?_) (a' := ?_) #[true, true, false, false, false, false, false, false, false, false, false] rfl rfl (by kernel_rfl) (fun _ _ _ h => h) (Or.inl ⟨by rfl, ?_⟩) ?_ ?_
  rotate_left
  · intro w'
    go_simp
    with_reducible rfl
  rotate_left
  · simp only [Act.put, List.setIfInBounds_toArray, List.set_cons_zero, List.set_cons_succ, i64_w, i32_w]
    rfl
  refine pure_ (i := 2) (N := some 24) (v := ?_) (a' := ?_) #[true, true, true, false, false, false, false, false, false, false, false] rfl rfl (by kernel_rfl) (fun _ _ _ h => h) (Or.inl ⟨by rfl, ?_⟩) ?_ ?_
  rotate_left
  · intro w'
    go_simp
    with_reducible rfl
  rotate_left
  · simp only [Act.put, List.setIfInBounds_toArray, List.set_cons_zero, List.set_cons_succ, i64_w, i32_w]
    rfl
  refine pure_ (i := 3) (N := some 25) (v := ?_) (a' := ?_) #[true, true, true, true, false, false, false, false, false, false, false] rfl rfl (by kernel_rfl) (fun _ _ _ h => h) (Or.inl ⟨by rfl, ?_⟩) ?_ ?_
  rotate_left
  · intro w'
    go_simp
    with_reducible rfl
  rotate_left
  · simp only [Act.put, List.setIfInBounds_toArray, List.set_cons_zero, List.set_cons_succ, i64_w, i32_w]
    rfl
  refine take_ (i := 4) (N := some 26) (v := ?_) (a' := ?_) #[true, true, true, true, true, false, false, false, false, false, false] rfl rfl (by kernel_rfl) (fun _ _ _ h => h) (Or.inl ⟨by rfl, ?_⟩) hHeld ?_ ?_
  rotate_left
  · rintro w' ⟨s0, s1, s2, s3, s4, s5⟩
    go_simp
    with_reducible rfl
  rotate_left
  · simp only [Act.put, List.setIfInBounds_toArray, List.set_cons_zero, List.set_cons_succ, i64_w, i32_w]
    rfl
  refine one_ (i := 5) (N := some 27) #[true, true, true, true, true, true, false, false, false, false, false] rfl rfl (by kernel_rfl) (by decide) (fun K hK => ?_)
  refine goes_ Try.func24 (by kernel_rfl) rfl #[.slice A10 old.length c10, .agg #[.slice B0 st.length e0, .slice B1 d.length e1, .slice B2 x.length e2]] (by rfl) rfl rfl (by simp only [List.map_toArray, List.map_cons, List.map_nil]; rfl) ?_
  with_reducible refine (HAP.out).mono ?_
  rintro e w4 ⟨v4, rfl, hra, hb4⟩
  refine ⟨_, rfl, ?_⟩
  obtain ⟨Aa, ca, rfl⟩ := own_slice hra
  have HRA := Hd.mk hra
  have HB4 := Hd.mk hb4
  clear hra hb4
  refine hK.out _ _ ⟨pw_cell_below HB4.out cHY0, pw_cell_below HB4.out cHY1, pw_cell_below HB4.out cHY2, pw_cell_below HB4.out cHT0, pw_cell_below HB4.out cHT1, pw_cell_below HB4.out cHT2⟩ (fun hHeld => ?_)
  clear hK K
  refine norm_ (a' := ?_) ?_ ?_
  rotate_left
  · show Act.put _ (some 27) _ = _
    simp only [Act.put, List.setIfInBounds_toArray, List.set_cons_zero, List.set_cons_succ, i64_w, i32_w]
    rfl
  refine pure_ (i := 6) (N := some 21) (v := ?_) (a' := ?_) #[true, true, true, true, true, true, true, false, false, false, false] rfl rfl (by kernel_rfl) (fun _ _ _ h => h) (Or.inl ⟨by rfl, ?_⟩) ?_ ?_
  rotate_left
  · intro w'
    go_simp
    with_reducible rfl
  rotate_left
  · simp only [Act.put, List.setIfInBounds_toArray, List.set_cons_zero, List.set_cons_succ, i64_w, i32_w]
    rfl
  refine pure_ (i := 7) (N := some 28) (v := ?_) (a' := ?_) #[true, true, true, true, true, true, true, true, false, false, false] rfl rfl (by kernel_rfl) (fun _ _ _ h => h) (Or.inl ⟨by rfl, ?_⟩) ?_ ?_
  rotate_left
  · intro w'
    go_simp
    with_reducible rfl
  rotate_left
  · simp only [Act.put, List.setIfInBounds_toArray, List.set_cons_zero, List.set_cons_succ, i64_w, i32_w]
    rfl
  refine pure_ (i := 8) (N := some 29) (v := ?_) (a' := ?_) #[true, true, true, true, true, true, true, true, true, false, false] rfl rfl (by kernel_rfl) (fun _ _ _ h => h) (Or.inl ⟨by rfl, ?_⟩) ?_ ?_
  rotate_left
  · intro w'
    go_simp
    with_reducible rfl
  rotate_left
  · simp only [Act.put, List.setIfInBounds_toArray, List.set_cons_zero, List.set_cons_succ, i64_w, i32_w]
    rfl
  refine pure_ (i := 9) (N := some 7) (v := ?_) (a' := ?_) #[true, true, true, true, true, true, true, true, true, true, false] rfl rfl (by kernel_rfl) (fun _ _ _ h => h) (Or.inl ⟨by rfl, ?_⟩) ?_ ?_
  rotate_left
  · intro w'
    go_simp
    with_reducible rfl
  rotate_left
  · simp only [Act.put, List.setIfInBounds_toArray, List.set_cons_zero, List.set_cons_succ, i64_w, i32_w]
    rfl
  refine pure_ (i := 10) (N := some 8) (v := ?_) (a' := ?_) #[true, true, true, true, true, true, true, true, true, true, true] rfl rfl (by kernel_rfl) (fun _ _ _ h => h) (Or.inl ⟨by rfl, ?_⟩) ?_ ?_
  rotate_left
  · intro w'
    go_simp
    with_reducible rfl
  rotate_left
  · simp only [Act.put, List.setIfInBounds_toArray, List.set_cons_zero, List.set_cons_succ, i64_w, i32_w]
    rfl
  refine done_ (by kernel_rfl) ?_
  clear cHY0 cHY1 cHY2 cHT0 cHT1 cHT2
  replace HB := Hd.mk (below_step HB.out HDW.out)
  replace HE := Hd.mk (HE.out.below HDW.out)
  replace HO := Hd.mk (Kd.C_below HO.out HDW.out)
  replace HY := Hd.mk (blk_below HY.out HDW.out)
  replace HL := Hd.mk (HL.out.below HDW.out)
  replace HT := Hd.mk (blk_below HT.out HDW.out)
  replace HC := Hd.mk (Kd.C_below HC.out HDW.out)
  replace HCO := Hd.mk (Kd.C_below HCO.out HDW.out)
  have cHY0 := blk_cell HY.out 0
  have cHY1 := blk_cell HY.out 1
  have cHY2 := blk_cell HY.out 2
  have cHT0 := blk_cell HT.out 0
  have cHT1 := blk_cell HT.out 1
  have cHT2 := blk_cell HT.out 2
  simp at cHY0 cHY1 cHY2 cHT0 cHT1 cHT2
  clear cHY0 cHY1 cHY2 cHT0 cHT1 cHT2
  replace HB := Hd.mk (below_step HB.out HB4.out)
  replace HE := Hd.mk (HE.out.below HB4.out)
  replace HO := Hd.mk (Kd.C_below HO.out HB4.out)
  replace HY := Hd.mk (blk_below HY.out HB4.out)
  replace HL := Hd.mk (HL.out.below HB4.out)
  replace HT := Hd.mk (blk_below HT.out HB4.out)
  replace HC := Hd.mk (Kd.C_below HC.out HB4.out)
  replace HCO := Hd.mk (Kd.C_below HCO.out HB4.out)
  have cHY0 := blk_cell HY.out 0
  have cHY1 := blk_cell HY.out 1
  have cHY2 := blk_cell HY.out 2
  have cHT0 := blk_cell HT.out 0
  have cHT1 := blk_cell HT.out 1
  have cHT2 := blk_cell HT.out 2
  simp at cHY0 cHY1 cHY2 cHT0 cHT1 cHT2
  clear HDW HAP HB4
  have HS4 := Hd.mk (show w.heap.size ≤ w4.drew.heap.size from HB.out.size)
  have hdw := Below.drew' w4
  have hap := apply_c A10 c10 old B0 e0 st B1 e1 d B2 e2 x w4.drew (Kd.C_below HCO.out hdw) (by omega) (HL.out.edc.below hdw) (fun h => inn_applied HF.out h)
  unfold EdV at hap
  rw [HQ.out, HBS.out] at hap
  have HAP := Hd.mk hap
  have HDW := Hd.mk hdw
  clear hap hdw
  go_wp2_with fail
  refine start_ (n := 11) (S := fun w' => w'.cell? ⟨w.heap.size, 0, none⟩ = some (.slice A0 st.length c0) ∧ w'.cell? ⟨w.heap.size, 1, none⟩ = some (.slice A1 d.length c1) ∧ w'.cell? ⟨w.heap.size, 2, none⟩ = some (.slice A2 x.length c2) ∧ w'.cell? ⟨w1.heap.size, 0, none⟩ = some (.slice B0 st.length e0) ∧ w'.cell? ⟨w1.heap.size, 1, none⟩ = some (.slice B1 d.length e1) ∧ w'.cell? ⟨w1.heap.size, 2, none⟩ = some (.slice B2 x.length e2)) (ds := []) #[false, false, false, false, false, false, false, false, false, false, false] (by kernel_rfl) rfl rfl ⟨cHY0, cHY1, cHY2, cHT0, cHT1, cHT2⟩ (fun hHeld => ?_)
  refine pure_ (i := 0) (N := some 31) (v := ?_) (a' := ?_) #[true, false, false, false, false, false, false, false, false, false, false] rfl rfl (by kernel_rfl) (fun _ _ _ h => h) (Or.inl ⟨by rfl, ?_⟩) ?_ ?_
  rotate_left
  · intro w'
    go_simp
    with_reducible rfl
  rotate_left
  · simp only [Act.put, List.setIfInBounds_toArray, List.set_cons_zero, List.set_cons_succ, i64_w, i32_w]
    rfl
  refine pure_ (i := 1) (N := some 32) (v := ?_) (a' := ?_) #[true, true, false, false, false, false, false, false, false, false, false] rfl rfl (by kernel_rfl) (fun _ _ _ h => h) (Or.inl ⟨by rfl, ?_⟩) ?_ ?_
  rotate_left
  · intro w'
    go_simp
    with_reducible rfl
  rotate_left
  · simp only [Act.put, List.setIfInBounds_toArray, List.set_cons_zero, List.set_cons_succ, i64_w, i32_w]
    rfl
  refine pure_ (i := 2) (N := some 33) (v := ?_) (a' := ?_) #[true, true, true, false, false, false, false, false, false, false, false] rfl rfl (by kernel_rfl) (fun _ _ _ h => h) (Or.inl ⟨by rfl, ?_⟩) ?_ ?_
  rotate_left
  · intro w'
    go_simp
    with_reducible rfl
  rotate_left
  · simp only [Act.put, List.setIfInBounds_toArray, List.set_cons_zero, List.set_cons_succ, i64_w, i32_w]
    rfl
  refine pure_ (i := 3) (N := some 34) (v := ?_) (a' := ?_) #[true, true, true, true, false, false, false, false, false, false, false] rfl rfl (by kernel_rfl) (fun _ _ _ h => h) (Or.inl ⟨by rfl, ?_⟩) ?_ ?_
  rotate_left
  · intro w'
    go_simp
    with_reducible rfl
  rotate_left
  · simp only [Act.put, List.setIfInBounds_toArray, List.set_cons_zero, List.set_cons_succ, i64_w, i32_w]
    rfl
  refine take_ (i := 4) (N := some 35) (v := ?_) (a' := ?_) #[true, true, true, true, true, false, false, false, false, false, false] rfl rfl (by kernel_rfl) (fun _ _ _ h => h) (Or.inl ⟨by rfl, ?_⟩) hHeld ?_ ?_
  rotate_left
  · rintro w' ⟨s0, s1, s2, s3, s4, s5⟩
    go_simp
    with_reducible rfl
  rotate_left
  · simp only [Act.put, List.setIfInBounds_toArray, List.set_cons_zero, List.set_cons_succ, i64_w, i32_w]
    rfl
  refine one_ (i := 5) (N := some 36) #[true, true, true, true, true, true, false, false, false, false, false] rfl rfl (by kernel_rfl) (by decide) (fun K hK => ?_)
  refine goes_ Try.func24 (by kernel_rfl) rfl #[.slice A10 old.length c10, .agg #[.slice B0 st.length e0, .slice B1 d.length e1, .slice B2 x.length e2]] (by rfl) rfl rfl (by simp only [List.map_toArray, List.map_cons, List.map_nil]; rfl) ?_
  with_reducible refine (HAP.out).mono ?_
  rintro e w5 ⟨v5, rfl, hrb, hb5⟩
  refine ⟨_, rfl, ?_⟩
  obtain ⟨Ab, cb, rfl⟩ := own_slice hrb
  have HRB := Hd.mk hrb
  have HB5 := Hd.mk hb5
  clear hrb hb5
  refine hK.out _ _ ⟨pw_cell_below HB5.out cHY0, pw_cell_below HB5.out cHY1, pw_cell_below HB5.out cHY2, pw_cell_below HB5.out cHT0, pw_cell_below HB5.out cHT1, pw_cell_below HB5.out cHT2⟩ (fun hHeld => ?_)
  clear hK K
  refine norm_ (a' := ?_) ?_ ?_
  rotate_left
  · show Act.put _ (some 36) _ = _
    simp only [Act.put, List.setIfInBounds_toArray, List.set_cons_zero, List.set_cons_succ, i64_w, i32_w]
    rfl
  refine pure_ (i := 6) (N := some 30) (v := ?_) (a' := ?_) #[true, true, true, true, true, true, true, false, false, false, false] rfl rfl (by kernel_rfl) (fun _ _ _ h => h) (Or.inl ⟨by rfl, ?_⟩) ?_ ?_
  rotate_left
  · intro w'
    go_simp
    with_reducible rfl
  rotate_left
  · simp only [Act.put, List.setIfInBounds_toArray, List.set_cons_zero, List.set_cons_succ, i64_w, i32_w]
    rfl
  refine pure_ (i := 7) (N := some 37) (v := ?_) (a' := ?_) #[true, true, true, true, true, true, true, true, false, false, false] rfl rfl (by kernel_rfl) (fun _ _ _ h => h) (Or.inl ⟨by rfl, ?_⟩) ?_ ?_
  rotate_left
  · intro w'
    go_simp
    with_reducible rfl
  rotate_left
  · simp only [Act.put, List.setIfInBounds_toArray, List.set_cons_zero, List.set_cons_succ, i64_w, i32_w]
    rfl
  refine pure_ (i := 8) (N := some 38) (v := ?_) (a' := ?_) #[true, true, true, true, true, true, true, true, true, false, false] rfl rfl (by kernel_rfl) (fun _ _ _ h => h) (Or.inl ⟨by rfl, ?_⟩) ?_ ?_
  rotate_left
  · intro w'
    go_simp
    with_reducible rfl
  rotate_left
  · simp only [Act.put, List.setIfInBounds_toArray, List.set_cons_zero, List.set_cons_succ, i64_w, i32_w]
    rfl
  refine pure_ (i := 9) (N := some 9) (v := ?_) (a' := ?_) #[true, true, true, true, true, true, true, true, true, true, false] rfl rfl (by kernel_rfl) (fun _ _ _ h => h) (Or.inl ⟨by rfl, ?_⟩) ?_ ?_
  rotate_left
  · intro w'
    go_simp
    with_reducible rfl
  rotate_left
  · simp only [Act.put, List.setIfInBounds_toArray, List.set_cons_zero, List.set_cons_succ, i64_w, i32_w]
    rfl
  refine pure_ (i := 10) (N := some 10) (v := ?_) (a' := ?_) #[true, true, true, true, true, true, true, true, true, true, true] rfl rfl (by kernel_rfl) (fun _ _ _ h => h) (Or.inl ⟨by rfl, ?_⟩) ?_ ?_
  rotate_left
  · intro w'
    go_simp
    with_reducible rfl
  rotate_left
  · simp only [Act.put, List.setIfInBounds_toArray, List.set_cons_zero, List.set_cons_succ, i64_w, i32_w]
    rfl
  refine done_ (by kernel_rfl) ?_
  have HS45 := Hd.mk (show w4.heap.size ≤ w5.heap.size from HB5.out.size)
  have hka : ∀ k, (Value.slice Aa bs.length ca).ownBlock = some k → k < w4.heap.size := fun k hk => own_lt HRA.out k hk
  have HKA := Hd.mk hka
  clear hka
  clear cHY0 cHY1 cHY2 cHT0 cHT1 cHT2
  replace HB := Hd.mk (below_step HB.out HDW.out)
  replace HE := Hd.mk (HE.out.below HDW.out)
  replace HO := Hd.mk (Kd.C_below HO.out HDW.out)
  replace HY := Hd.mk (blk_below HY.out HDW.out)
  replace HL := Hd.mk (HL.out.below HDW.out)
  replace HT := Hd.mk (blk_below HT.out HDW.out)
  replace HC := Hd.mk (Kd.C_below HC.out HDW.out)
  replace HCO := Hd.mk (Kd.C_below HCO.out HDW.out)
  replace HRA := Hd.mk (pw_own_below HRA.out HDW.out)
  have cHY0 := blk_cell HY.out 0
  have cHY1 := blk_cell HY.out 1
  have cHY2 := blk_cell HY.out 2
  have cHT0 := blk_cell HT.out 0
  have cHT1 := blk_cell HT.out 1
  have cHT2 := blk_cell HT.out 2
  simp at cHY0 cHY1 cHY2 cHT0 cHT1 cHT2
  clear cHY0 cHY1 cHY2 cHT0 cHT1 cHT2
  replace HB := Hd.mk (below_step HB.out HB5.out)
  replace HE := Hd.mk (HE.out.below HB5.out)
  replace HO := Hd.mk (Kd.C_below HO.out HB5.out)
  replace HY := Hd.mk (blk_below HY.out HB5.out)
  replace HL := Hd.mk (HL.out.below HB5.out)
  replace HT := Hd.mk (blk_below HT.out HB5.out)
  replace HC := Hd.mk (Kd.C_below HC.out HB5.out)
  replace HCO := Hd.mk (Kd.C_below HCO.out HB5.out)
  replace HRA := Hd.mk (pw_own_below HRA.out HB5.out)
  have cHY0 := blk_cell HY.out 0
  have cHY1 := blk_cell HY.out 1
  have cHY2 := blk_cell HY.out 2
  have cHT0 := blk_cell HT.out 0
  have cHT1 := blk_cell HT.out 1
  have cHT2 := blk_cell HT.out 2
  simp at cHY0 cHY1 cHY2 cHT0 cHT1 cHT2
  clear HDW HAP HB5
  have HS5 := Hd.mk (show w.heap.size ≤ w5.heap.size from HB.out.size)
  have hrap := rapply_c (HO.out) HOC.out HE.out (by have := HOL.out; omega) HF.out
  unfold EdV at hrap
  rw [HQ.out, HBS.out] at hrap
  have HRAP := Hd.mk hrap
  clear hrap
  go_wp2_with fail
  refine HRAP.out.mono ?_
  rintro e w6 ⟨v6, rfl, hrw, hb6⟩
  obtain ⟨Aw, cw, rfl⟩ := Kd.R_slice hrw
  have HRW := Hd.mk hrw
  have HN5 := Hd.mk (Kd.R_reads' hrw)
  clear hrw
  clear cHY0 cHY1 cHY2 cHT0 cHT1 cHT2
  replace HB := Hd.mk (below_step HB.out hb6)
  replace HE := Hd.mk (HE.out.below hb6)
  replace HO := Hd.mk (Kd.C_below HO.out hb6)
  replace HY := Hd.mk (blk_below HY.out hb6)
  replace HL := Hd.mk (HL.out.below hb6)
  replace HT := Hd.mk (blk_below HT.out hb6)
  replace HC := Hd.mk (Kd.C_below HC.out hb6)
  replace HCO := Hd.mk (Kd.C_below HCO.out hb6)
  replace HRA := Hd.mk (pw_own_below HRA.out hb6)
  replace HRB := Hd.mk (pw_own_below HRB.out hb6)
  have cHY0 := blk_cell HY.out 0
  have cHY1 := blk_cell HY.out 1
  have cHY2 := blk_cell HY.out 2
  have cHT0 := blk_cell HT.out 0
  have cHT1 := blk_cell HT.out 1
  have cHT2 := blk_cell HT.out 2
  simp at cHY0 cHY1 cHY2 cHT0 cHT1 cHT2
  clear hb6 HRAP
  go_wp2_with fail
  refine (num_c q _).mono ?_
  rintro e w7 ⟨rfl, rfl⟩
  go_wp2_with fail
  refine (num_c q _).mono ?_
  rintro e w7 ⟨rfl, rfl⟩
  go_wp2_with fail
  refine (same_c (own_C8 HRA.out) (own_le HRA.out) (Kd.R_reads' HRW.out).2.2 (Kd.R_reads' HRW.out).2.1).mono ?_
  rintro e w7 ⟨rfl, hb7⟩
  clear cHY0 cHY1 cHY2 cHT0 cHT1 cHT2
  replace HB := Hd.mk (below_step HB.out hb7)
  replace HE := Hd.mk (HE.out.below hb7)
  replace HO := Hd.mk (Kd.C_below HO.out hb7)
  replace HY := Hd.mk (blk_below HY.out hb7)
  replace HL := Hd.mk (HL.out.below hb7)
  replace HT := Hd.mk (blk_below HT.out hb7)
  replace HC := Hd.mk (Kd.C_below HC.out hb7)
  replace HCO := Hd.mk (Kd.C_below HCO.out hb7)
  replace HRA := Hd.mk (pw_own_below HRA.out hb7)
  replace HRB := Hd.mk (pw_own_below HRB.out hb7)
  replace HRW := Hd.mk (Kd.R_below HRW.out hb7)
  have cHY0 := blk_cell HY.out 0
  have cHY1 := blk_cell HY.out 1
  have cHY2 := blk_cell HY.out 2
  have cHT0 := blk_cell HT.out 0
  have cHT1 := blk_cell HT.out 1
  have cHT2 := blk_cell HT.out 2
  simp at cHY0 cHY1 cHY2 cHT0 cHT1 cHT2
  clear hb7
  go_wp2_with fail
  refine (same_c (own_C8 HRB.out) (own_le HRB.out) (Kd.R_reads' HRW.out).2.2 (Kd.R_reads' HRW.out).2.1).mono ?_
  rintro e w8 ⟨rfl, hb8⟩
  clear cHY0 cHY1 cHY2 cHT0 cHT1 cHT2
  replace HB := Hd.mk (below_step HB.out hb8)
  replace HE := Hd.mk (HE.out.below hb8)
  replace HO := Hd.mk (Kd.C_below HO.out hb8)
  replace HY := Hd.mk (blk_below HY.out hb8)
  replace HL := Hd.mk (HL.out.below hb8)
  replace HT := Hd.mk (blk_below HT.out hb8)
  replace HC := Hd.mk (Kd.C_below HC.out hb8)
  replace HCO := Hd.mk (Kd.C_below HCO.out hb8)
  replace HRA := Hd.mk (pw_own_below HRA.out hb8)
  replace HRB := Hd.mk (pw_own_below HRB.out hb8)
  replace HRW := Hd.mk (Kd.R_below HRW.out hb8)
  have cHY0 := blk_cell HY.out 0
  have cHY1 := blk_cell HY.out 1
  have cHY2 := blk_cell HY.out 2
  have cHT0 := blk_cell HT.out 0
  have cHT1 := blk_cell HT.out 1
  have cHT2 := blk_cell HT.out 2
  simp at cHY0 cHY1 cHY2 cHT0 cHT1 cHT2
  clear hb8
  go_wp2_with fail
  refine (kept_c HL.out HE.out).mono ?_
  rintro e w9 ⟨rfl, hb9⟩
  clear cHY0 cHY1 cHY2 cHT0 cHT1 cHT2
  replace HB := Hd.mk (below_step HB.out hb9)
  replace HE := Hd.mk (HE.out.below hb9)
  replace HO := Hd.mk (Kd.C_below HO.out hb9)
  replace HY := Hd.mk (blk_below HY.out hb9)
  replace HL := Hd.mk (HL.out.below hb9)
  replace HT := Hd.mk (blk_below HT.out hb9)
  replace HC := Hd.mk (Kd.C_below HC.out hb9)
  replace HCO := Hd.mk (Kd.C_below HCO.out hb9)
  replace HRA := Hd.mk (pw_own_below HRA.out hb9)
  replace HRB := Hd.mk (pw_own_below HRB.out hb9)
  replace HRW := Hd.mk (Kd.R_below HRW.out hb9)
  have cHY0 := blk_cell HY.out 0
  have cHY1 := blk_cell HY.out 1
  have cHY2 := blk_cell HY.out 2
  have cHT0 := blk_cell HT.out 0
  have cHT1 := blk_cell HT.out 1
  have cHT2 := blk_cell HT.out 2
  simp at cHY0 cHY1 cHY2 cHT0 cHT1 cHT2
  clear hb9
  go_wp2_with fail
  refine (same_c HCO.out hcr1 HO.out HOC.out).mono ?_
  rintro e w10 ⟨rfl, hb10⟩
  clear cHY0 cHY1 cHY2 cHT0 cHT1 cHT2
  replace HB := Hd.mk (below_step HB.out hb10)
  replace HE := Hd.mk (HE.out.below hb10)
  replace HO := Hd.mk (Kd.C_below HO.out hb10)
  replace HY := Hd.mk (blk_below HY.out hb10)
  replace HL := Hd.mk (HL.out.below hb10)
  replace HT := Hd.mk (blk_below HT.out hb10)
  replace HC := Hd.mk (Kd.C_below HC.out hb10)
  replace HCO := Hd.mk (Kd.C_below HCO.out hb10)
  replace HRA := Hd.mk (pw_own_below HRA.out hb10)
  replace HRB := Hd.mk (pw_own_below HRB.out hb10)
  replace HRW := Hd.mk (Kd.R_below HRW.out hb10)
  have cHY0 := blk_cell HY.out 0
  have cHY1 := blk_cell HY.out 1
  have cHY2 := blk_cell HY.out 2
  have cHT0 := blk_cell HT.out 0
  have cHT1 := blk_cell HT.out 1
  have cHT2 := blk_cell HT.out 2
  simp at cHY0 cHY1 cHY2 cHT0 cHT1 cHT2
  clear hb10
  obtain ⟨ad, e10, g0⟩ := Kd.at_int HC.out (old.length : Int) (by omega) (by simp <;> omega)
  obtain ⟨ad', e10', g1⟩ := Kd.at_int HC.out ((old.length + 1 : Nat) : Int) (by omega) (by simp <;> omega)
  subst e10
  cases e10'
  simp [rd] at g0 g1
  have hol2 := HOL.out
  have g1' := g1
  simp only [Addr.add, Nat.add_one_ne_zero, if_false] at g1'
  go_wp2_with fail
  have hRA := own_weaken HRA.out HS3.out
  have hRB := own_weaken HRB.out HS4.out
  have hsp : Sp w w10 (.slice Aa bs.length ca) bs.length (.slice Ab bs.length cb) (.slice Aw bs.length cw) bs := by
    refine ⟨HB.out, ⟨bs, rfl, Kd.R_of_own hRA (fun _ _ => trivial)⟩, Kd.R_of_own hRB (fun k hk => ⟨trivial, fun e => ?_⟩), ?_⟩
    · have h1 := own_base HRB.out k hk
      have h2 := HKA.out k e.symm
      simp at h1
      omega
    · refine Kd.R_lower (Kd.R_mono (Kd.R_bound HRW.out) (fun k hk => ⟨trivial, fun e => ?_⟩)) HS5.out
      have h2 := HKA.out k e.symm
      have h3 := HS45.out
      omega
  have HSP := Hd.mk hsp
  have hbl : bs.length ≤ 16777216 := by
    have h1 := own_le HRA.out
    have h2 := (own_C8 HRA.out).2.1
    rw [← HBS.out]
    unfold applied
    split
    · rename_i h0
      have := inn_applied HF.out h0
      have hq := h0
      unfold appliedE at hq
      by_cases g1 : 16777216 < (old.length : Int)
      · rw [if_pos g1] at hq; cases hq
      · rw [if_neg g1] at hq
        by_cases g2 : (ited st d x).2 ≠ 0
        · rw [if_pos g2] at hq; exact absurd hq g2
        · have g3 := ited_all (Decidable.not_not.1 g2)
          have g4 := og_len st d x 0 g3.1 g3.2.2.1 g3.2.2.2.1
          have g5 := g3.2.1
          rw [List.length_map]
          omega
    · simp
  clear hRA hRB hsp g0 g1 g1' hol2 hcr hcr1 hlt1
  clear cHY0 cHY1 cHY2 cHT0 cHT1 cHT2
  clear HB HE HO HL HC HCO HRA HRB HRW HY HT HN5 HKA HS3 HS4 HS5 HS45 HQ HBS HF HOL HOC
  go_loopw [13] (fun y wr => ∃ i : Nat, y = .int .i64 i ∧ i ≤ bs.length ∧ Hd (Sp w wr (.slice Aa bs.length ca) bs.length (.slice Ab bs.length cb) (.slice Aw bs.length cw) bs)) (fun y _ => bs.length - (intOf y).toNat)
  case atStart => exact ⟨0, rfl, by omega, HSP⟩
  case round =>
    obtain ⟨i, rfl, hi, HS⟩ := hrel
    clear HSP
    by_cases hlt : i < bs.length
    · obtain ⟨g, cap, he⟩ := HS.out.form (by omega)
      cases he
      obtain ⟨⟨u, hu⟩, hfr⟩ := HS.out.at_ i hlt
      have HS2 := Hd.mk (HS.out.put i 93)
      go_wp2
      go_roundw
      case rel => exact ⟨i + 1, by go_num, by omega, HS2⟩
      case measure => simp [intOf]; omega
    · obtain rfl : i = bs.length := by omega
      go_wp2
      obtain ⟨N, hN⟩ : ∃ N, bs.length = N := ⟨_, rfl⟩
      have HN := Hd.mk hN
      rw [hN] at HS hbl ⊢
      clear hN hi hlt
      go_loopw [7, 14] (fun y7 y wr => ∃ (i : Nat) (A : Option Addr) (cap : Nat), y7 = .slice A (N + i) cap ∧ y = .int .i64 i ∧ i ≤ 40 ∧ Hd (Sp w wr (.slice A (N + i) cap) (N + i) (.slice Ab N cb) (.slice Aw N cw) bs)) (fun _ y _ => 40 - (intOf y).toNat)
      case atStart => exact ⟨0, Aa, ca, rfl, rfl, by omega, HS⟩
      case round =>
        clear HS
        obtain ⟨i, A, cap, rfl, rfl, hi, HS⟩ := hrel
        by_cases hlt : i < 40
        · obtain ⟨A', cap', w', hrun, hS'⟩ := HS.out.push 94 (by omega)
          have HS2 := Hd.mk hS'
          clear hS' HS
          go_wp2
          go_roundw
          case rel => exact ⟨i + 1, A', cap', rfl, by go_num, by omega, HS2⟩
          case measure => simp [intOf]; omega
        · obtain rfl : i = 40 := by omega
          have hb := Kd.R_reads' HS.out.rb
          have hc := Kd.R_reads' HS.out.rc
          have HSB := Hd.mk HS.out.be
          have hsm := same_c (w := wr) hb.2.2 (by rw [← hb.1]; exact hb.2.1) hc.2.2 (by rw [← hc.1]; exact hc.2.1)
          rw [HN.out] at hsm
          have HSM := Hd.mk hsm
          clear hb hc hsm HS
          go_wp2_with fail
          refine HSM.out.mono ?_
          rintro e w12 ⟨rfl, hb12⟩
          have H12 := Hd.mk (below_step HSB.out hb12)
          clear hb12 HSM HSB
          go_wp2_with fail
          refine (awake_c _).mono ?_
          rintro e w13 ⟨rfl, hb13⟩
          have H13 := Hd.mk (below_step H12.out hb13)
          clear hb13 H12
          go_wp2
          go_ret
          exact ⟨by simp, H13.out⟩
end Go.Proofs.Ytemlbjpefomboaa
