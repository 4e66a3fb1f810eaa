/- edit: the walk of EditTells. -/
import Derived.Test.YtemlbjpefomboaaLe
import Derived.Test.YtemlbjpefomboaaKe
import Derived.Test.YtemlbjpefomboaaRl
import Derived.Test.YtemlbjpefomboaaFi
import Derived.Test.YtemlbjpefomboaaEn
import Derived.Test.YtemlbjpefomboaaOe
namespace Go.Proofs.Ytemlbjpefomboaa
open Go.RowKit Go.Shelf Go.Proofs.YtemlbjpefomboaaW.PrintWords Go.Proofs.YtemlbjpefomboaaW.PrintLast Go.Proofs.YtemlbjpefomboaaW.PrintMore Go.Proofs.Ytemlbjpefomboaa.Pr
set_option linter.unusedVariables false
set_option linter.unusedSimpArgs false
set_option maxRecDepth 100000 in
set_option maxHeartbeats 8000000 in
theorem walk_editTells (A0 : Option Addr) (c0 : Nat) (st : List S80) (A1 : Option Addr) (c1 : Nat) (d : List Int) (A2 : Option Addr) (c2 : Nat) (x : List Int) (w : World)
    (H : EdI w A0 c0 st A1 c1 d A2 c2 x ∧ st.length ≤ 1048576 ∧ d.length ≤ 1048576 ∧ x.length ≤ 1048576) :
    Calls Try.prog 7 #[.agg #[.slice A0 st.length c0, .slice A1 d.length c1, .slice A2 x.length c2]] w fun e w' => e = .returned (.bool true) ∧ Below w.heap.size w w' := by
  obtain ⟨⟨hE, _, _, _⟩, hf, hdl, hxl⟩ := H
  have hb0 : Below w.heap.size w (w.alloc (.cells #[.slice A0 st.length c0, .slice A1 d.length c1, .slice A2 x.length c2] 28)) := (Below.refl _ _).alloc (Nat.le_refl _) _
  have HE := Hd.mk (hE.below hb0)
  have HB := Hd.mk hb0
  have HY := Hd.mk (blk_new w (.cells #[.slice A0 st.length c0, .slice A1 d.length c1, .slice A2 x.length c2] 28))
  have HF := Hd.mk hf
  have HD := Hd.mk hdl
  have HLEND := Hd.mk (lend_c A0 c0 st A1 c1 d A2 c2 x _ HE.out (by omega) (by omega) (by omega))
  clear hb0 hE hf hdl hxl
  go_enter Try.func7, Try.ntmps7
  go_wp2_with fail
  refine HLEND.out.mono ?_
  rintro e w1 ⟨B0, e0, B1, e1, B2, e2, rfl, hL, hb1⟩
  unfold EdV
  have HL := Hd.mk hL
  clear HLEND hL
  have cHY0 := blk_cell HY.out 0
  have cHY1 := blk_cell HY.out 1
  have cHY2 := blk_cell HY.out 2
  simp at cHY0 cHY1 cHY2
  clear cHY0 cHY1 cHY2
  replace HB := Hd.mk (below_step HB.out hb1)
  replace HE := Hd.mk (HE.out.below hb1)
  replace HY := Hd.mk (blk_below HY.out hb1)
  have cHY0 := blk_cell HY.out 0
  have cHY1 := blk_cell HY.out 1
  have cHY2 := blk_cell HY.out 2
  simp at cHY0 cHY1 cHY2
  clear hb1
  have hlt1 := blk_lt HY.out
  have hbA : Below w1.heap.size w1 (w1.alloc (.cells #[.slice B0 st.length e0, .slice B1 d.length e1, .slice B2 x.length e2] 28)) := (Below.refl _ _).alloc (Nat.le_refl _) _
  have HBA := Hd.mk hbA
  have HT := Hd.mk (blk_new w1 (.cells #[.slice B0 st.length e0, .slice B1 d.length e1, .slice B2 x.length e2] 28))
  clear hbA
  go_wp2_with fail
  refine (tell_c (HL.out.edc.below HBA.out) HF.out HD.out).mono ?_
  rintro e w2 ⟨rfl, hb2⟩
  clear cHY0 cHY1 cHY2
  replace HB := Hd.mk (below_step HB.out HBA.out)
  replace HE := Hd.mk (HE.out.below HBA.out)
  replace HY := Hd.mk (blk_below HY.out HBA.out)
  replace HL := Hd.mk (HL.out.below HBA.out)
  have cHY0 := blk_cell HY.out 0
  have cHY1 := blk_cell HY.out 1
  have cHY2 := blk_cell HY.out 2
  simp at cHY0 cHY1 cHY2
  clear HBA
  have cHT0 := blk_cell HT.out 0
  have cHT1 := blk_cell HT.out 1
  have cHT2 := blk_cell HT.out 2
  simp at cHT0 cHT1 cHT2
  clear cHY0 cHY1 cHY2 cHT0 cHT1 cHT2
  replace HB := Hd.mk (below_step HB.out hb2)
  replace HE := Hd.mk (HE.out.below hb2)
  replace HY := Hd.mk (blk_below HY.out hb2)
  replace HL := Hd.mk (HL.out.below hb2)
  replace HT := Hd.mk (blk_below HT.out hb2)
  have cHY0 := blk_cell HY.out 0
  have cHY1 := blk_cell HY.out 1
  have cHY2 := blk_cell HY.out 2
  have cHT0 := blk_cell HT.out 0
  have cHT1 := blk_cell HT.out 1
  have cHT2 := blk_cell HT.out 2
  simp at cHY0 cHY1 cHY2 cHT0 cHT1 cHT2
  clear hb2
  obtain ⟨⟨q1, q2, q3, q4, q5, q6, q7⟩, hq⟩ : ∃ q, told st d x = q := ⟨_, rfl⟩
  have HQ := Hd.mk hq
  rw [hq]
  simp only
  clear hq
  have hlt2 := blk_lt HY.out
  have hlt3 := blk_lt HT.out
  have hbA : Below w2.heap.size w2 (w2.alloc (.cells #[.int .i64 q1, .int .i64 q2, .int .i64 q3, .int .i64 q4, .int .i64 q5, .int .i64 q6] 47)) := (Below.refl _ _).alloc (Nat.le_refl _) _
  have HBA := Hd.mk hbA
  have HS := Hd.mk (blk_new w2 (.cells #[.int .i64 q1, .int .i64 q2, .int .i64 q3, .int .i64 q4, .int .i64 q5, .int .i64 q6] 47))
  clear hbA
  go_wp2_with fail
  refine (rtell_c (HE.out.below HBA.out) HF.out HD.out).mono ?_
  rintro e w3 ⟨rfl, hb3⟩
  rw [HQ.out]
  simp only
  clear cHY0 cHY1 cHY2 cHT0 cHT1 cHT2
  replace HB := Hd.mk (below_step HB.out HBA.out)
  replace HE := Hd.mk (HE.out.below HBA.out)
  replace HY := Hd.mk (blk_below HY.out HBA.out)
  replace HL := Hd.mk (HL.out.below HBA.out)
  replace HT := Hd.mk (blk_below HT.out HBA.out)
  have cHY0 := blk_cell HY.out 0
  have cHY1 := blk_cell HY.out 1
  have cHY2 := blk_cell HY.out 2
  have cHT0 := blk_cell HT.out 0
  have cHT1 := blk_cell HT.out 1
  have cHT2 := blk_cell HT.out 2
  simp at cHY0 cHY1 cHY2 cHT0 cHT1 cHT2
  clear HBA hlt1 hlt2 hlt3
  have cHS0 := blk_cell HS.out 0
  have cHS1 := blk_cell HS.out 1
  have cHS2 := blk_cell HS.out 2
  have cHS3 := blk_cell HS.out 3
  have cHS4 := blk_cell HS.out 4
  have cHS5 := blk_cell HS.out 5
  simp at cHS0 cHS1 cHS2 cHS3 cHS4 cHS5
  clear cHY0 cHY1 cHY2 cHT0 cHT1 cHT2 cHS0 cHS1 cHS2 cHS3 cHS4 cHS5
  replace HB := Hd.mk (below_step HB.out hb3)
  replace HE := Hd.mk (HE.out.below hb3)
  replace HY := Hd.mk (blk_below HY.out hb3)
  replace HL := Hd.mk (HL.out.below hb3)
  replace HT := Hd.mk (blk_below HT.out hb3)
  replace HS := Hd.mk (blk_below HS.out hb3)
  have cHY0 := blk_cell HY.out 0
  have cHY1 := blk_cell HY.out 1
  have cHY2 := blk_cell HY.out 2
  have cHT0 := blk_cell HT.out 0
  have cHT1 := blk_cell HT.out 1
  have cHT2 := blk_cell HT.out 2
  have cHS0 := blk_cell HS.out 0
  have cHS1 := blk_cell HS.out 1
  have cHS2 := blk_cell HS.out 2
  have cHS3 := blk_cell HS.out 3
  have cHS4 := blk_cell HS.out 4
  have cHS5 := blk_cell HS.out 5
  simp at cHY0 cHY1 cHY2 cHT0 cHT1 cHT2 cHS0 cHS1 cHS2 cHS3 cHS4 cHS5
  clear hb3 HQ HF HD
  have hlt2 := blk_lt HY.out
  have hlt3 := blk_lt HT.out
  have hlt4 := blk_lt HS.out
  have hbA : Below w3.heap.size w3 (w3.alloc (.cells #[.int .i64 q1, .int .i64 q2, .int .i64 q3, .int .i64 q4, .int .i64 q5, .int .i64 q6] 50)) := (Below.refl _ _).alloc (Nat.le_refl _) _
  have HBA := Hd.mk hbA
  clear hbA
  go_wp2_with fail
  refine (num_c q7 _).mono ?_
  rintro e w4 ⟨rfl, rfl⟩
  go_wp2_with fail
  refine (kept_c (HL.out.below HBA.out) (HE.out.below HBA.out)).mono ?_
  rintro e w4 ⟨rfl, hb4⟩
  have H4 := Hd.mk (below_step (below_step HB.out HBA.out) hb4)
  clear hb4 HBA HB
  go_wp2_with fail
  refine (awake_c _).mono ?_
  rintro e w5 ⟨rfl, hb5⟩
  have H5 := Hd.mk (below_step H4.out hb5)
  clear hb5 H4
  go_wp2
  go_ret
  exact ⟨by simp, H5.out⟩
end Go.Proofs.Ytemlbjpefomboaa
