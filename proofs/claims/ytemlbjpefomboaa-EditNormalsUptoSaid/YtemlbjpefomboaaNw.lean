/- edit: the walk of EditNormals. -/
import Derived.Test.YtemlbjpefomboaaLe
import Derived.Test.YtemlbjpefomboaaOw
import Derived.Test.YtemlbjpefomboaaFi
import Derived.Test.YtemlbjpefomboaaOe
namespace Go.Proofs.Ytemlbjpefomboaa
open Go.RowKit Go.Shelf Go.Proofs.YtemlbjpefomboaaW.PrintWords Go.Proofs.YtemlbjpefomboaaW.PrintLast Go.Proofs.YtemlbjpefomboaaW.PrintMore Go.Proofs.Ytemlbjpefomboaa.Pr
set_option linter.unusedVariables false
set_option linter.unusedSimpArgs false
theorem normOf_len (L : List S94) : (normOf L).1.length ≤ L.length + 1 ∧ (normOf L).2.1.length ≤ L.length ∧ (normOf L).2.2.1.length ≤ L.length := by
  unfold normOf
  cases h : tks L ts0 with
  | none => simp [nrm]
  | some t =>
    have hv := vt_tks L L.length t (Nat.le_refl _) (by rw [List.take_length]; exact h)
    refine ⟨?_, hv.d, hv.x⟩
    simp only [nrm, TS.st, List.length_append]
    have h1 := hv.n
    have h2 : t.cu.toList.length ≤ 1 := by cases t.cu <;> simp
    omega
theorem normalE_len (st : List S80) (d x : List Int) : (normalE st d x).1.length ≤ 16777217 ∧ (normalE st d x).2.1.length ≤ 16777216 ∧ (normalE st d x).2.2.1.length ≤ 16777216 := by
  unfold normalE
  by_cases h : (ited st d x).2 = 0
  · rw [if_neg (fun h' => h' h)]
    have h1 := og_fit h
    have h2 := normOf_len (og st d x 0)
    omega
  · rw [if_pos h]
    simp
set_option maxRecDepth 100000 in
set_option maxHeartbeats 8000000 in
theorem walk_editNormals (A0 : Option Addr) (c0 : Nat) (st : List S80) (A1 : Option Addr) (c1 : Nat) (d : List Int) (A2 : Option Addr) (c2 : Nat) (x : List Int) (w : World)
    (H : EdI w A0 c0 st A1 c1 d A2 c2 x ∧ st.length ≤ 1048576 ∧ d.length ≤ 1048576 ∧ x.length ≤ 1048576) :
    Calls Try.prog 10 #[.agg #[.slice A0 st.length c0, .slice A1 d.length c1, .slice A2 x.length c2]] w fun e w' => e = .returned (.bool true) ∧ Below w.heap.size w w' := by
  obtain ⟨⟨hE, _, _, _⟩, hf, hdl, hxl⟩ := H
  have hb0 : Below w.heap.size w (w.alloc (.cells #[.slice A0 st.length c0, .slice A1 d.length c1, .slice A2 x.length c2] 28)) := (Below.refl _ _).alloc (Nat.le_refl _) _
  have HE := Hd.mk (hE.below hb0)
  have HB := Hd.mk hb0
  have HY := Hd.mk (blk_new w (.cells #[.slice A0 st.length c0, .slice A1 d.length c1, .slice A2 x.length c2] 28))
  have HF := Hd.mk (And.intro hf (And.intro hdl hxl))
  have hrn := rnormal_c HE.out hf
  have hln := normalE_len st d x
  obtain ⟨⟨n0, n1, n2, n3⟩, hq⟩ : ∃ q, normalE st d x = q := ⟨_, rfl⟩
  rw [hq] at hrn hln
  simp only at hln
  have HQ := Hd.mk hq
  have HRN := Hd.mk hrn
  have HLN := Hd.mk hln
  clear hb0 hE hf hdl hxl hrn hq hln
  unfold EdV at HRN
  go_enter Try.func10, Try.ntmps10
  go_wp2_with fail
  refine HRN.out.mono ?_
  intro e w1 hN
  obtain ⟨C0, g0, C1, g1, C2, g2, rfl, hC, hb1⟩ := hN.ed3
  simp only
  have HC := Hd.mk hC
  clear HRN hC hN
  have cHY0 := blk_cell HY.out 0
  have cHY1 := blk_cell HY.out 1
  have cHY2 := blk_cell HY.out 2
  simp at cHY0 cHY1 cHY2
  clear cHY0 cHY1 cHY2
  replace HB := Hd.mk (below_step HB.out hb1)
  replace HE := Hd.mk (HE.out.below hb1)
  replace HY := Hd.mk (blk_below HY.out hb1)
  have cHY0 := blk_cell HY.out 0
  have cHY1 := blk_cell HY.out 1
  have cHY2 := blk_cell HY.out 2
  simp at cHY0 cHY1 cHY2
  clear hb1
  have hbA : Below w1.heap.size w1 (w1.alloc (.cells #[.slice C0 n0.length g0, .slice C1 n1.length g1, .slice C2 n2.length g2] 28)) := (Below.refl _ _).alloc (Nat.le_refl _) _
  have HBA := Hd.mk hbA
  have HLEND := Hd.mk (lend_c A0 c0 st A1 c1 d A2 c2 x _ (HE.out.below hbA) (by have := HF.out; omega) (by have := HF.out; omega) (by have := HF.out; omega))
  clear hbA
  have hlt1 := blk_lt HY.out
  go_wp2_with fail
  refine HLEND.out.mono ?_
  rintro e w2 ⟨B0, e0, B1, e1, B2, e2, rfl, hL, hb2⟩
  unfold EdV
  have HL := Hd.mk hL
  clear cHY0 cHY1 cHY2
  replace HB := Hd.mk (below_step HB.out HBA.out)
  replace HE := Hd.mk (HE.out.below HBA.out)
  replace HY := Hd.mk (blk_below HY.out HBA.out)
  replace HC := Hd.mk (HC.out.below HBA.out)
  have cHY0 := blk_cell HY.out 0
  have cHY1 := blk_cell HY.out 1
  have cHY2 := blk_cell HY.out 2
  simp at cHY0 cHY1 cHY2
  have HW := Hd.mk (blk_new w1 (.cells #[.slice C0 n0.length g0, .slice C1 n1.length g1, .slice C2 n2.length g2] 28))
  clear HBA HLEND hL hlt1
  have cHW0 := blk_cell HW.out 0
  have cHW1 := blk_cell HW.out 1
  have cHW2 := blk_cell HW.out 2
  simp at cHW0 cHW1 cHW2
  clear cHY0 cHY1 cHY2 cHW0 cHW1 cHW2
  replace HB := Hd.mk (below_step HB.out hb2)
  replace HE := Hd.mk (HE.out.below hb2)
  replace HY := Hd.mk (blk_below HY.out hb2)
  replace HC := Hd.mk (HC.out.below hb2)
  replace HW := Hd.mk (blk_below HW.out hb2)
  have cHY0 := blk_cell HY.out 0
  have cHY1 := blk_cell HY.out 1
  have cHY2 := blk_cell HY.out 2
  have cHW0 := blk_cell HW.out 0
  have cHW1 := blk_cell HW.out 1
  have cHW2 := blk_cell HW.out 2
  simp at cHY0 cHY1 cHY2 cHW0 cHW1 cHW2
  clear hb2
  have hbA : Below w2.heap.size w2 (w2.alloc (.cells #[.slice B0 st.length e0, .slice B1 d.length e1, .slice B2 x.length e2] 28)) := (Below.refl _ _).alloc (Nat.le_refl _) _
  have hlt1 := blk_lt HY.out
  have hlt2 := blk_lt HW.out
  clear cHY0 cHY1 cHY2 cHW0 cHW1 cHW2
  replace HB := Hd.mk (below_step HB.out hbA)
  replace HE := Hd.mk (HE.out.below hbA)
  replace HY := Hd.mk (blk_below HY.out hbA)
  replace HC := Hd.mk (HC.out.below hbA)
  replace HW := Hd.mk (blk_below HW.out hbA)
  replace HL := Hd.mk (HL.out.below hbA)
  have cHY0 := blk_cell HY.out 0
  have cHY1 := blk_cell HY.out 1
  have cHY2 := blk_cell HY.out 2
  have cHW0 := blk_cell HW.out 0
  have cHW1 := blk_cell HW.out 1
  have cHW2 := blk_cell HW.out 2
  simp at cHY0 cHY1 cHY2 cHW0 cHW1 cHW2
  have HT := Hd.mk (blk_new w2 (.cells #[.slice B0 st.length e0, .slice B1 d.length e1, .slice B2 x.length e2] 28))
  clear hbA
  clear cHY0 cHY1 cHY2 cHW0 cHW1 cHW2
  -- what there is ahead of the first answer
  obtain ⟨wa, hwa⟩ : ∃ w_, w2.alloc (.cells #[.slice B0 st.length e0, .slice B1 d.length e1, .slice B2 x.length e2] 28) = w_ := ⟨_, rfl⟩
  have HBa := HB
  have HEa := HE
  have HLa := HL
  have HYa := HY
  have HTa := HT
  have HCa : Hd (Ed3 wa w.heap.size (fun k => k < wa.heap.size) (.slice C0 n0.length g0) (.slice C1 n1.length g1) (.slice C2 n2.length g2) n0 n1 n2) := by
    rw [← hwa]
    exact ⟨(HC.out.lower (b' := w.heap.size) (by simp)).mono (fun k _ _ h => h)⟩
  rw [hwa] at HBa HEa HLa HYa HTa
  have hna := normal_c HL.out.edc
  unfold EdV at hna
  rw [HQ.out] at hna
  have HNA := Hd.mk hna
  clear hna
  rw [hwa] at HNA
  have HWA := Hd.mk hwa
  clear hwa
  have cHY0 := blk_cell HY.out 0
  have cHY1 := blk_cell HY.out 1
  have cHY2 := blk_cell HY.out 2
  have cHW0 := blk_cell HW.out 0
  have cHW1 := blk_cell HW.out 1
  have cHW2 := blk_cell HW.out 2
  have cHT0 := blk_cell HT.out 0
  have cHT1 := blk_cell HT.out 1
  have cHT2 := blk_cell HT.out 2
  simp at cHY0 cHY1 cHY2 cHW0 cHW1 cHW2 cHT0 cHT1 cHT2
  go_wp2_with fail
  rw [HWA.out]
  refine HNA.out.mono ?_
  intro e w3 hN
  obtain ⟨D0, f0, D1, f1, D2, f2, rfl, hD, hb3⟩ := hN.ed3
  simp only
  have HD := Hd.mk (hD.mono (q := fun k => k < w3.heap.size) (fun k _ _ h => h))
  have HBW := Hd.mk hb3
  clear cHY0 cHY1 cHY2 cHW0 cHW1 cHW2 cHT0 cHT1 cHT2
  rw [HWA.out] at HB HE HY HC HW HL HT
  replace HB := Hd.mk (below_step HB.out hb3)
  replace HE := Hd.mk (HE.out.below hb3)
  replace HY := Hd.mk (blk_below HY.out hb3)
  replace HC := Hd.mk (HC.out.below hb3)
  replace HW := Hd.mk (blk_below HW.out hb3)
  replace HL := Hd.mk (HL.out.below hb3)
  replace HT := Hd.mk (blk_below HT.out hb3)
  clear HNA hD hN hb3
  have cHY0 := blk_cell HY.out 0
  have cHY1 := blk_cell HY.out 1
  have cHY2 := blk_cell HY.out 2
  have cHW0 := blk_cell HW.out 0
  have cHW1 := blk_cell HW.out 1
  have cHW2 := blk_cell HW.out 2
  have cHT0 := blk_cell HT.out 0
  have cHT1 := blk_cell HT.out 1
  have cHT2 := blk_cell HT.out 2
  simp at cHY0 cHY1 cHY2 cHW0 cHW1 cHW2 cHT0 cHT1 cHT2
  have hbA : Below w3.heap.size w3 (w3.alloc (.cells #[.slice D0 n0.length f0, .slice D1 n1.length f1, .slice D2 n2.length f2] 28)) := (Below.refl _ _).alloc (Nat.le_refl _) _
  have HBA := Hd.mk hbA
  have hnb := normal_c (HL.out.below hbA).edc
  unfold EdV at hnb
  rw [HQ.out] at hnb
  have HNB := Hd.mk hnb
  clear hnb hbA
  have hlt3 := blk_lt HT.out
  clear hlt1 hlt2
  have hlt1 := blk_lt HY.out
  have hlt2 := blk_lt HW.out
  go_wp2_with fail
  refine HNB.out.mono ?_
  intro e w4 hN
  obtain ⟨G0, h0, G1, h1, G2, h2, rfl, hG, hb4⟩ := hN.ed3
  simp only
  clear cHY0 cHY1 cHY2 cHW0 cHW1 cHW2 cHT0 cHT1 cHT2
  replace HB := Hd.mk (below_step HB.out HBA.out)
  replace HE := Hd.mk (HE.out.below HBA.out)
  replace HY := Hd.mk (blk_below HY.out HBA.out)
  replace HC := Hd.mk (HC.out.below HBA.out)
  replace HW := Hd.mk (blk_below HW.out HBA.out)
  replace HL := Hd.mk (HL.out.below HBA.out)
  replace HT := Hd.mk (blk_below HT.out HBA.out)
  replace HD := Hd.mk (HD.out.below HBA.out)
  replace HBW := Hd.mk (below_step HBW.out HBA.out)
  have cHY0 := blk_cell HY.out 0
  have cHY1 := blk_cell HY.out 1
  have cHY2 := blk_cell HY.out 2
  have cHW0 := blk_cell HW.out 0
  have cHW1 := blk_cell HW.out 1
  have cHW2 := blk_cell HW.out 2
  have cHT0 := blk_cell HT.out 0
  have cHT1 := blk_cell HT.out 1
  have cHT2 := blk_cell HT.out 2
  simp at cHY0 cHY1 cHY2 cHW0 cHW1 cHW2 cHT0 cHT1 cHT2
  have HA := Hd.mk (blk_new w3 (.cells #[.slice D0 n0.length f0, .slice D1 n1.length f1, .slice D2 n2.length f2] 28))
  clear HBA HNB hN
  have cHA0 := blk_cell HA.out 0
  have cHA1 := blk_cell HA.out 1
  have cHA2 := blk_cell HA.out 2
  simp at cHA0 cHA1 cHA2
  have HG := Hd.mk (hG.mono (q := fun k => w3.heap.size ≤ k) (fun k _ h _ => by simp at h; omega))
  clear cHY0 cHY1 cHY2 cHW0 cHW1 cHW2 cHT0 cHT1 cHT2 cHA0 cHA1 cHA2
  replace HB := Hd.mk (below_step HB.out hb4)
  replace HE := Hd.mk (HE.out.below hb4)
  replace HY := Hd.mk (blk_below HY.out hb4)
  replace HC := Hd.mk (HC.out.below hb4)
  replace HW := Hd.mk (blk_below HW.out hb4)
  replace HL := Hd.mk (HL.out.below hb4)
  replace HT := Hd.mk (blk_below HT.out hb4)
  replace HD := Hd.mk (HD.out.below hb4)
  replace HBW := Hd.mk (below_step HBW.out hb4)
  replace HA := Hd.mk (blk_below HA.out hb4)
  have cHY0 := blk_cell HY.out 0
  have cHY1 := blk_cell HY.out 1
  have cHY2 := blk_cell HY.out 2
  have cHW0 := blk_cell HW.out 0
  have cHW1 := blk_cell HW.out 1
  have cHW2 := blk_cell HW.out 2
  have cHT0 := blk_cell HT.out 0
  have cHT1 := blk_cell HT.out 1
  have cHT2 := blk_cell HT.out 2
  have cHA0 := blk_cell HA.out 0
  have cHA1 := blk_cell HA.out 1
  have cHA2 := blk_cell HA.out 2
  simp at cHY0 cHY1 cHY2 cHW0 cHW1 cHW2 cHT0 cHT1 cHT2 cHA0 cHA1 cHA2
  clear hG hb4
  have hbA : Below w4.heap.size w4 (w4.alloc (.cells #[.slice G0 n0.length h0, .slice G1 n1.length h1, .slice G2 n2.length h2] 28)) := (Below.refl _ _).alloc (Nat.le_refl _) _
  have HBA := Hd.mk hbA
  clear hbA
  clear hlt1 hlt2 hlt3
  have hlt1 := blk_lt HY.out
  have hlt2 := blk_lt HW.out
  have hlt3 := blk_lt HT.out
  have hlt4 := blk_lt HA.out
  go_wp2_with fail
  refine (num_c n3 _).mono ?_
  rintro e w5 ⟨rfl, rfl⟩
  go_wp2_with fail
  refine (num_c n3 _).mono ?_
  rintro e w5 ⟨rfl, rfl⟩
  clear cHY0 cHY1 cHY2 cHW0 cHW1 cHW2 cHT0 cHT1 cHT2 cHA0 cHA1 cHA2
  replace HB := Hd.mk (below_step HB.out HBA.out)
  replace HE := Hd.mk (HE.out.below HBA.out)
  replace HY := Hd.mk (blk_below HY.out HBA.out)
  replace HC := Hd.mk (HC.out.below HBA.out)
  replace HW := Hd.mk (blk_below HW.out HBA.out)
  replace HL := Hd.mk (HL.out.below HBA.out)
  replace HT := Hd.mk (blk_below HT.out HBA.out)
  replace HD := Hd.mk (HD.out.below HBA.out)
  replace HBW := Hd.mk (below_step HBW.out HBA.out)
  replace HA := Hd.mk (blk_below HA.out HBA.out)
  replace HG := Hd.mk (HG.out.below HBA.out)
  have cHY0 := blk_cell HY.out 0
  have cHY1 := blk_cell HY.out 1
  have cHY2 := blk_cell HY.out 2
  have cHW0 := blk_cell HW.out 0
  have cHW1 := blk_cell HW.out 1
  have cHW2 := blk_cell HW.out 2
  have cHT0 := blk_cell HT.out 0
  have cHT1 := blk_cell HT.out 1
  have cHT2 := blk_cell HT.out 2
  have cHA0 := blk_cell HA.out 0
  have cHA1 := blk_cell HA.out 1
  have cHA2 := blk_cell HA.out 2
  simp at cHY0 cHY1 cHY2 cHW0 cHW1 cHW2 cHT0 cHT1 cHT2 cHA0 cHA1 cHA2
  clear HBA
  have hl := HLN.out
  have HOWN := Hd.mk (own_c HBW.out HD.out HG.out (HCa.out.step (fun k hk _ => by
    exact HBW.out.block k hk)) (by omega) (by omega) (by omega))
  clear hl
  go_wp2_with fail
  refine HOWN.out.mono ?_
  rintro e w6 ⟨rfl, hb6⟩
  clear cHY0 cHY1 cHY2 cHW0 cHW1 cHW2 cHT0 cHT1 cHT2 cHA0 cHA1 cHA2
  clear HB HE HY HC HW HL HT HD HBW HA HG HOWN HCa hlt1 hlt2 hlt3 hlt4
  have HL := Hd.mk (HLa.out.below hb6)
  have HE := Hd.mk (HEa.out.below hb6)
  have HY := Hd.mk (blk_below HYa.out hb6)
  have HT := Hd.mk (blk_below HTa.out hb6)
  have HB := Hd.mk (below_step HBa.out hb6)
  clear HLa HEa HYa HTa HBa hb6
  have cHY0 := blk_cell HY.out 0
  have cHY1 := blk_cell HY.out 1
  have cHY2 := blk_cell HY.out 2
  have cHT0 := blk_cell HT.out 0
  have cHT1 := blk_cell HT.out 1
  have cHT2 := blk_cell HT.out 2
  simp at cHY0 cHY1 cHY2 cHT0 cHT1 cHT2
  go_wp2_with fail
  refine (kept_c HL.out HE.out).mono ?_
  rintro e w7 ⟨rfl, hb7⟩
  clear cHY0 cHY1 cHY2 cHT0 cHT1 cHT2
  replace HB := Hd.mk (below_step HB.out hb7)
  replace HE := Hd.mk (HE.out.below hb7)
  replace HL := Hd.mk (HL.out.below hb7)
  replace HY := Hd.mk (blk_below HY.out hb7)
  replace HT := Hd.mk (blk_below HT.out hb7)
  have cHY0 := blk_cell HY.out 0
  have cHY1 := blk_cell HY.out 1
  have cHY2 := blk_cell HY.out 2
  have cHT0 := blk_cell HT.out 0
  have cHT1 := blk_cell HT.out 1
  have cHT2 := blk_cell HT.out 2
  simp at cHY0 cHY1 cHY2 cHT0 cHT1 cHT2
  clear hb7
  go_wp2_with fail
  refine (awake_c _).mono ?_
  rintro e w8 ⟨rfl, hb8⟩
  have H8 := Hd.mk (below_step HB.out hb8)
  clear hb8
  go_wp2
  go_ret
  exact ⟨by simp, H8.out⟩
end Go.Proofs.Ytemlbjpefomboaa
