/- edit: the walk of EditMakes. -/
import Derived.Test.YtemlbjpefomboaaLe
import Derived.Test.YtemlbjpefomboaaOw
import Derived.Test.YtemlbjpefomboaaFi
import Derived.Test.YtemlbjpefomboaaOe
import Derived.Test.YtemlbjpefomboaaMd
namespace Go.Proofs.Ytemlbjpefomboaa
open Go.RowKit Go.Shelf Go.Proofs.YtemlbjpefomboaaW.PrintWords Go.Proofs.YtemlbjpefomboaaW.PrintLast Go.Proofs.YtemlbjpefomboaaW.PrintMore Go.Proofs.Ytemlbjpefomboaa.Pr
set_option linter.unusedVariables false
set_option linter.unusedSimpArgs false
theorem dD_len (old next : List Int) : ∀ (t : Nat) (L : List S94), (dD old next t L).length ≤ L.length
  | _, [] => Nat.le_refl _
  | t, o :: L => by
    have := dD_len old next (t + 1) L
    simp only [dD]
    split <;> simp <;> omega
theorem xX_len (next : List Int) : ∀ (t : Nat) (L : List S94), (xX next t L).length ≤ L.length
  | _, [] => Nat.le_refl _
  | t, o :: L => by
    have := xX_len next (t + 1) L
    simp only [xX]
    split <;> simp <;> omega
theorem mkOf_len (old next : List Int) (st : List S80) (hf : st.length ≤ 1048576) : (mkOf old next st).1.length ≤ 16777217 ∧ (mkOf old next st).2.1.length ≤ 16777216 ∧ (mkOf old next st).2.2.1.length ≤ 16777216 := by
  unfold mkOf
  split
  · simp
  · rename_i h12
    split
    · rename_i hst
      split
      · rename_i he
        split
        · have h1 := sA_nn st hst
          have h2 := sC_nn st hst
          have hl := og_len st (nA (sA st)) (nA (sC st)) 0 hst (by simp [nA]; omega) (by simp [nA]; omega)
          have h3 := dD_len old next 0 (og st (nA (sA st)) (nA (sC st)) 0)
          have h4 := xX_len next 0 (og st (nA (sA st)) (nA (sC st)) 0)
          refine ⟨?_, ?_, ?_⟩ <;> simp only <;> omega
        · simp
      · simp
    · simp
theorem make_c {A0 : Option Addr} {c0 : Nat} {st : List S80} {A1 : Option Addr} {c1 : Nat} {d : List Int} {A2 : Option Addr} {c2 : Nat} {x : List Int} {w : World} (hE : EdC w A0 c0 st A1 c1 d A2 c2 x) (hf : st.length ≤ 1048576) :
    Calls Try.prog 37 #[.slice A1 d.length c1, .slice A2 x.length c2, .slice A0 st.length c0] w (NormR w (mkOf d x st)) := by
  obtain ⟨k, hk⟩ := make_f d x st hf
  obtain ⟨⟨n0, n1, n2, n3⟩, hq⟩ : ∃ q, mkOf d x st = q := ⟨_, rfl⟩
  rw [hq] at hk ⊢
  exact (edit_Make.calls k A1 c1 d A2 c2 x A0 c0 st n0 n1 n2 n3 w hE.di hE.hd hE.ex hE.hx hE.s hE.hs hk).mono (fun e w' h => h)
theorem rmake_c {A0 : Option Addr} {c0 : Nat} {st : List S80} {A1 : Option Addr} {c1 : Nat} {d : List Int} {A2 : Option Addr} {c2 : Nat} {x : List Int} {w : World} (hE : EdC w A0 c0 st A1 c1 d A2 c2 x) (hf : st.length ≤ 1048576) :
    Calls Try.prog 36 #[.slice A1 d.length c1, .slice A2 x.length c2, .slice A0 st.length c0] w (NormR w (mkOf d x st)) := by
  obtain ⟨k, hk⟩ := rmake_f d x st hf
  obtain ⟨⟨n0, n1, n2, n3⟩, hq⟩ : ∃ q, mkOf d x st = q := ⟨_, rfl⟩
  rw [hq] at hk ⊢
  exact (sapperref16_Make.calls k A1 c1 d A2 c2 x A0 c0 st n0 n1 n2 n3 w hE.di hE.hd hE.ex hE.hx hE.s hE.hs hk).mono (fun e w' h => h)
set_option maxRecDepth 100000 in
theorem open_makingU {H : Type} {enc : TypeId × Value → H} {W : World} {base : Nat} {v : Value} {d : DataW H} {p : List MemPlace} (hv : Value.okWide Try.prog W .any base 55 v)
    (h : DataW.Trod enc Try.prog W 0 (fun _ => true) true 55 v d p) (_ : ∀ n ∈ d.weights Try.prog 55, n ≤ reachBytes) (hbk : Rows.uptoBulk d ≤ 1048576) :
    ∃ (A0 : Option Addr) (c0 : Nat) (st : List S80) (A1 : Option Addr) (c1 : Nat) (di : List Int) (A2 : Option Addr) (c2 : Nat) (ex : List Int), v = .agg #[.slice A1 di.length c1, .slice A2 ex.length c2, .slice A0 st.length c0] ∧
      (EdI W A0 c0 st A1 c1 di A2 c2 ex ∧ st.length ≤ 1048576 ∧ di.length ≤ 1048576 ∧ ex.length ≤ 1048576) := by
  obtain ⟨v1, v2, v0, y1, y2, y0, n, rfl, rfl, rfl, t1, t2, t0⟩ := Go.Joins.open_agg3 Try.underlying55 (by kernel_rfl) (by kernel_rfl) hv h
  obtain ⟨A0, c0, st, rfl, h0, h1, h2, h3⟩ := steps_of_trod t0
  obtain ⟨A1, c1, di, rfl, k1, k2⟩ := bytes_of_trod t1
  obtain ⟨A2, c2, ex, rfl, l1, l2⟩ := bytes_of_trod t2
  simp only [Rows.uptoBulk, Rows.uptoBulkAll] at hbk
  exact ⟨A0, c0, st, A1, c1, di, A2, c2, ex, rfl, ⟨⟨h0, k1.r, l1.r, h1, k1.hc, l1.hc⟩, h2, k1.hr, l1.hr⟩, by omega, by omega, by omega⟩
set_option maxRecDepth 100000 in
set_option maxHeartbeats 8000000 in
theorem walk_editMakes (A0 : Option Addr) (c0 : Nat) (st : List S80) (A1 : Option Addr) (c1 : Nat) (d : List Int) (A2 : Option Addr) (c2 : Nat) (x : List Int) (w : World)
    (H : EdI w A0 c0 st A1 c1 d A2 c2 x ∧ st.length ≤ 1048576 ∧ d.length ≤ 1048576 ∧ x.length ≤ 1048576) :
    Calls Try.prog 9 #[.agg #[.slice A1 d.length c1, .slice A2 x.length c2, .slice A0 st.length c0]] w fun e w' => e = .returned (.bool true) ∧ Below w.heap.size w w' := by
  obtain ⟨⟨hE, _, _, _⟩, hf, hdl, hxl⟩ := H
  have hb0 : Below w.heap.size w (w.alloc (.cells #[.slice A1 d.length c1, .slice A2 x.length c2, .slice A0 st.length c0] 55)) := (Below.refl _ _).alloc (Nat.le_refl _) _
  have HE := Hd.mk (hE.below hb0)
  have HB := Hd.mk hb0
  have HY := Hd.mk (blk_new w (.cells #[.slice A1 d.length c1, .slice A2 x.length c2, .slice A0 st.length c0] 55))
  have HF := Hd.mk (And.intro hf (And.intro hdl hxl))
  have hrn := rmake_c HE.out hf
  have hln := mkOf_len d x st hf
  obtain ⟨⟨n0, n1, n2, n3⟩, hq⟩ : ∃ q, mkOf d x st = q := ⟨_, rfl⟩
  rw [hq] at hrn hln
  simp only at hln
  have HQ := Hd.mk hq
  have HRN := Hd.mk hrn
  have HLN := Hd.mk hln
  clear hb0 hE hf hdl hxl hrn hq hln
  go_enter Try.func9, Try.ntmps9
  go_wp2_with fail
  refine HRN.out.mono ?_
  intro e w1 hN
  obtain ⟨C0, g0, C1, g1, C2, g2, rfl, hC, hb1⟩ := hN.ed3
  simp only
  have HC := Hd.mk hC
  clear HRN hC hN
  have cHY0 := blk_cell HY.out 0
  have cHY1 := blk_cell HY.out 1
  have cHY2 := blk_cell HY.out 2
  simp at cHY0 cHY1 cHY2
  clear cHY0 cHY1 cHY2
  replace HB := Hd.mk (below_step HB.out hb1)
  replace HE := Hd.mk (HE.out.below hb1)
  replace HY := Hd.mk (blk_below HY.out hb1)
  have cHY0 := blk_cell HY.out 0
  have cHY1 := blk_cell HY.out 1
  have cHY2 := blk_cell HY.out 2
  simp at cHY0 cHY1 cHY2
  clear hb1
  have hbA : Below w1.heap.size w1 (w1.alloc (.cells #[.slice C0 n0.length g0, .slice C1 n1.length g1, .slice C2 n2.length g2] 28)) := (Below.refl _ _).alloc (Nat.le_refl _) _
  have HBA := Hd.mk hbA
  have HLEND := Hd.mk (lend_c A0 c0 st A1 c1 d A2 c2 x _ (HE.out.below hbA) (by have := HF.out; omega) (by have := HF.out; omega) (by have := HF.out; omega))
  clear hbA
  have hlt1 := blk_lt HY.out
  go_wp2_with fail
  refine HLEND.out.mono ?_
  rintro e w2 ⟨B0, e0, B1, e1, B2, e2, rfl, hL, hb2⟩
  unfold EdV
  have HL := Hd.mk hL
  clear cHY0 cHY1 cHY2
  replace HB := Hd.mk (below_step HB.out HBA.out)
  replace HE := Hd.mk (HE.out.below HBA.out)
  replace HY := Hd.mk (blk_below HY.out HBA.out)
  replace HC := Hd.mk (HC.out.below HBA.out)
  have cHY0 := blk_cell HY.out 0
  have cHY1 := blk_cell HY.out 1
  have cHY2 := blk_cell HY.out 2
  simp at cHY0 cHY1 cHY2
  have HW := Hd.mk (blk_new w1 (.cells #[.slice C0 n0.length g0, .slice C1 n1.length g1, .slice C2 n2.length g2] 28))
  clear HBA HLEND hL hlt1
  have cHW0 := blk_cell HW.out 0
  have cHW1 := blk_cell HW.out 1
  have cHW2 := blk_cell HW.out 2
  simp at cHW0 cHW1 cHW2
  clear cHY0 cHY1 cHY2 cHW0 cHW1 cHW2
  replace HB := Hd.mk (below_step HB.out hb2)
  replace HE := Hd.mk (HE.out.below hb2)
  replace HY := Hd.mk (blk_below HY.out hb2)
  replace HC := Hd.mk (HC.out.below hb2)
  replace HW := Hd.mk (blk_below HW.out hb2)
  have cHY0 := blk_cell HY.out 0
  have cHY1 := blk_cell HY.out 1
  have cHY2 := blk_cell HY.out 2
  have cHW0 := blk_cell HW.out 0
  have cHW1 := blk_cell HW.out 1
  have cHW2 := blk_cell HW.out 2
  simp at cHY0 cHY1 cHY2 cHW0 cHW1 cHW2
  clear hb2
  have hbA : Below w2.heap.size w2 (w2.alloc (.cells #[.slice B0 st.length e0, .slice B1 d.length e1, .slice B2 x.length e2] 28)) := (Below.refl _ _).alloc (Nat.le_refl _) _
  have hlt1 := blk_lt HY.out
  have hlt2 := blk_lt HW.out
  clear cHY0 cHY1 cHY2 cHW0 cHW1 cHW2
  replace HB := Hd.mk (below_step HB.out hbA)
  replace HE := Hd.mk (HE.out.below hbA)
  replace HY := Hd.mk (blk_below HY.out hbA)
  replace HC := Hd.mk (HC.out.below hbA)
  replace HW := Hd.mk (blk_below HW.out hbA)
  replace HL := Hd.mk (HL.out.below hbA)
  have cHY0 := blk_cell HY.out 0
  have cHY1 := blk_cell HY.out 1
  have cHY2 := blk_cell HY.out 2
  have cHW0 := blk_cell HW.out 0
  have cHW1 := blk_cell HW.out 1
  have cHW2 := blk_cell HW.out 2
  simp at cHY0 cHY1 cHY2 cHW0 cHW1 cHW2
  have HT := Hd.mk (blk_new w2 (.cells #[.slice B0 st.length e0, .slice B1 d.length e1, .slice B2 x.length e2] 28))
  clear hbA
  clear cHY0 cHY1 cHY2 cHW0 cHW1 cHW2
  -- what there is ahead of the first answer
  obtain ⟨wa, hwa⟩ : ∃ w_, w2.alloc (.cells #[.slice B0 st.length e0, .slice B1 d.length e1, .slice B2 x.length e2] 28) = w_ := ⟨_, rfl⟩
  have HBa := HB
  have HEa := HE
  have HLa := HL
  have HYa := HY
  have HTa := HT
  have HCa : Hd (Ed3 wa w.heap.size (fun k => k < wa.heap.size) (.slice C0 n0.length g0) (.slice C1 n1.length g1) (.slice C2 n2.length g2) n0 n1 n2) := by
    rw [← hwa]
    exact ⟨(HC.out.lower (b' := w.heap.size) (by simp)).mono (fun k _ _ h => h)⟩
  rw [hwa] at HBa HEa HLa HYa HTa
  have hna := make_c HL.out.edc HF.out.1
  rw [HQ.out] at hna
  have HNA := Hd.mk hna
  clear hna
  rw [hwa] at HNA
  have HWA := Hd.mk hwa
  clear hwa
  have cHY0 := blk_cell HY.out 0
  have cHY1 := blk_cell HY.out 1
  have cHY2 := blk_cell HY.out 2
  have cHW0 := blk_cell HW.out 0
  have cHW1 := blk_cell HW.out 1
  have cHW2 := blk_cell HW.out 2
  have cHT0 := blk_cell HT.out 0
  have cHT1 := blk_cell HT.out 1
  have cHT2 := blk_cell HT.out 2
  simp at cHY0 cHY1 cHY2 cHW0 cHW1 cHW2 cHT0 cHT1 cHT2
  go_wp2_with fail
  rw [HWA.out]
  refine HNA.out.mono ?_
  intro e w3 hN
  obtain ⟨D0, f0, D1, f1, D2, f2, rfl, hD, hb3⟩ := hN.ed3
  simp only
  have HD := Hd.mk (hD.mono (q := fun k => k < w3.heap.size) (fun k _ _ h => h))
  have HBW := Hd.mk hb3
  clear cHY0 cHY1 cHY2 cHW0 cHW1 cHW2 cHT0 cHT1 cHT2
  rw [HWA.out] at HB HE HY HC HW HL HT
  replace HB := Hd.mk (below_step HB.out hb3)
  replace HE := Hd.mk (HE.out.below hb3)
  replace HY := Hd.mk (blk_below HY.out hb3)
  replace HC := Hd.mk (HC.out.below hb3)
  replace HW := Hd.mk (blk_below HW.out hb3)
  replace HL := Hd.mk (HL.out.below hb3)
  replace HT := Hd.mk (blk_below HT.out hb3)
  clear HNA hD hN hb3
  have cHY0 := blk_cell HY.out 0
  have cHY1 := blk_cell HY.out 1
  have cHY2 := blk_cell HY.out 2
  have cHW0 := blk_cell HW.out 0
  have cHW1 := blk_cell HW.out 1
  have cHW2 := blk_cell HW.out 2
  have cHT0 := blk_cell HT.out 0
  have cHT1 := blk_cell HT.out 1
  have cHT2 := blk_cell HT.out 2
  simp at cHY0 cHY1 cHY2 cHW0 cHW1 cHW2 cHT0 cHT1 cHT2
  have hbA : Below w3.heap.size w3 (w3.alloc (.cells #[.slice D0 n0.length f0, .slice D1 n1.length f1, .slice D2 n2.length f2] 28)) := (Below.refl _ _).alloc (Nat.le_refl _) _
  have HBA := Hd.mk hbA
  have hnb := make_c (HL.out.below hbA).edc HF.out.1
  rw [HQ.out] at hnb
  have HNB := Hd.mk hnb
  clear hnb hbA
  have hlt3 := blk_lt HT.out
  clear hlt1 hlt2
  have hlt1 := blk_lt HY.out
  have hlt2 := blk_lt HW.out
  go_wp2_with fail
  refine HNB.out.mono ?_
  intro e w4 hN
  obtain ⟨G0, h0, G1, h1, G2, h2, rfl, hG, hb4⟩ := hN.ed3
  simp only
  clear cHY0 cHY1 cHY2 cHW0 cHW1 cHW2 cHT0 cHT1 cHT2
  replace HB := Hd.mk (below_step HB.out HBA.out)
  replace HE := Hd.mk (HE.out.below HBA.out)
  replace HY := Hd.mk (blk_below HY.out HBA.out)
  replace HC := Hd.mk (HC.out.below HBA.out)
  replace HW := Hd.mk (blk_below HW.out HBA.out)
  replace HL := Hd.mk (HL.out.below HBA.out)
  replace HT := Hd.mk (blk_below HT.out HBA.out)
  replace HD := Hd.mk (HD.out.below HBA.out)
  replace HBW := Hd.mk (below_step HBW.out HBA.out)
  have cHY0 := blk_cell HY.out 0
  have cHY1 := blk_cell HY.out 1
  have cHY2 := blk_cell HY.out 2
  have cHW0 := blk_cell HW.out 0
  have cHW1 := blk_cell HW.out 1
  have cHW2 := blk_cell HW.out 2
  have cHT0 := blk_cell HT.out 0
  have cHT1 := blk_cell HT.out 1
  have cHT2 := blk_cell HT.out 2
  simp at cHY0 cHY1 cHY2 cHW0 cHW1 cHW2 cHT0 cHT1 cHT2
  have HA := Hd.mk (blk_new w3 (.cells #[.slice D0 n0.length f0, .slice D1 n1.length f1, .slice D2 n2.length f2] 28))
  clear HBA HNB hN
  have cHA0 := blk_cell HA.out 0
  have cHA1 := blk_cell HA.out 1
  have cHA2 := blk_cell HA.out 2
  simp at cHA0 cHA1 cHA2
  have HG := Hd.mk (hG.mono (q := fun k => w3.heap.size ≤ k) (fun k _ h _ => by simp at h; omega))
  clear cHY0 cHY1 cHY2 cHW0 cHW1 cHW2 cHT0 cHT1 cHT2 cHA0 cHA1 cHA2
  replace HB := Hd.mk (below_step HB.out hb4)
  replace HE := Hd.mk (HE.out.below hb4)
  replace HY := Hd.mk (blk_below HY.out hb4)
  replace HC := Hd.mk (HC.out.below hb4)
  replace HW := Hd.mk (blk_below HW.out hb4)
  replace HL := Hd.mk (HL.out.below hb4)
  replace HT := Hd.mk (blk_below HT.out hb4)
  replace HD := Hd.mk (HD.out.below hb4)
  replace HBW := Hd.mk (below_step HBW.out hb4)
  replace HA := Hd.mk (blk_below HA.out hb4)
  have cHY0 := blk_cell HY.out 0
  have cHY1 := blk_cell HY.out 1
  have cHY2 := blk_cell HY.out 2
  have cHW0 := blk_cell HW.out 0
  have cHW1 := blk_cell HW.out 1
  have cHW2 := blk_cell HW.out 2
  have cHT0 := blk_cell HT.out 0
  have cHT1 := blk_cell HT.out 1
  have cHT2 := blk_cell HT.out 2
  have cHA0 := blk_cell HA.out 0
  have cHA1 := blk_cell HA.out 1
  have cHA2 := blk_cell HA.out 2
  simp at cHY0 cHY1 cHY2 cHW0 cHW1 cHW2 cHT0 cHT1 cHT2 cHA0 cHA1 cHA2
  clear hG hb4
  have hbA : Below w4.heap.size w4 (w4.alloc (.cells #[.slice G0 n0.length h0, .slice G1 n1.length h1, .slice G2 n2.length h2] 28)) := (Below.refl _ _).alloc (Nat.le_refl _) _
  have HBA := Hd.mk hbA
  clear hbA
  clear hlt1 hlt2 hlt3
  have hlt1 := blk_lt HY.out
  have hlt2 := blk_lt HW.out
  have hlt3 := blk_lt HT.out
  have hlt4 := blk_lt HA.out
  go_wp2_with fail
  refine (num_c n3 _).mono ?_
  rintro e w5 ⟨rfl, rfl⟩
  go_wp2_with fail
  refine (num_c n3 _).mono ?_
  rintro e w5 ⟨rfl, rfl⟩
  clear cHY0 cHY1 cHY2 cHW0 cHW1 cHW2 cHT0 cHT1 cHT2 cHA0 cHA1 cHA2
  replace HB := Hd.mk (below_step HB.out HBA.out)
  replace HE := Hd.mk (HE.out.below HBA.out)
  replace HY := Hd.mk (blk_below HY.out HBA.out)
  replace HC := Hd.mk (HC.out.below HBA.out)
  replace HW := Hd.mk (blk_below HW.out HBA.out)
  replace HL := Hd.mk (HL.out.below HBA.out)
  replace HT := Hd.mk (blk_below HT.out HBA.out)
  replace HD := Hd.mk (HD.out.below HBA.out)
  replace HBW := Hd.mk (below_step HBW.out HBA.out)
  replace HA := Hd.mk (blk_below HA.out HBA.out)
  replace HG := Hd.mk (HG.out.below HBA.out)
  have cHY0 := blk_cell HY.out 0
  have cHY1 := blk_cell HY.out 1
  have cHY2 := blk_cell HY.out 2
  have cHW0 := blk_cell HW.out 0
  have cHW1 := blk_cell HW.out 1
  have cHW2 := blk_cell HW.out 2
  have cHT0 := blk_cell HT.out 0
  have cHT1 := blk_cell HT.out 1
  have cHT2 := blk_cell HT.out 2
  have cHA0 := blk_cell HA.out 0
  have cHA1 := blk_cell HA.out 1
  have cHA2 := blk_cell HA.out 2
  simp at cHY0 cHY1 cHY2 cHW0 cHW1 cHW2 cHT0 cHT1 cHT2 cHA0 cHA1 cHA2
  clear HBA
  have hl := HLN.out
  have HOWN := Hd.mk (own_c HBW.out HD.out HG.out (HCa.out.step (fun k hk _ => by
    exact HBW.out.block k hk)) (by omega) (by omega) (by omega))
  clear hl
  go_wp2_with fail
  refine HOWN.out.mono ?_
  rintro e w6 ⟨rfl, hb6⟩
  clear cHY0 cHY1 cHY2 cHW0 cHW1 cHW2 cHT0 cHT1 cHT2 cHA0 cHA1 cHA2
  clear HB HE HY HC HW HL HT HD HBW HA HG HOWN HCa hlt1 hlt2 hlt3 hlt4
  have HL := Hd.mk (HLa.out.below hb6)
  have HE := Hd.mk (HEa.out.below hb6)
  have HY := Hd.mk (blk_below HYa.out hb6)
  have HT := Hd.mk (blk_below HTa.out hb6)
  have HB := Hd.mk (below_step HBa.out hb6)
  clear HLa HEa HYa HTa HBa hb6
  have cHY0 := blk_cell HY.out 0
  have cHY1 := blk_cell HY.out 1
  have cHY2 := blk_cell HY.out 2
  have cHT0 := blk_cell HT.out 0
  have cHT1 := blk_cell HT.out 1
  have cHT2 := blk_cell HT.out 2
  simp at cHY0 cHY1 cHY2 cHT0 cHT1 cHT2
  go_wp2_with fail
  refine (kept_c HL.out HE.out).mono ?_
  rintro e w7 ⟨rfl, hb7⟩
  clear cHY0 cHY1 cHY2 cHT0 cHT1 cHT2
  replace HB := Hd.mk (below_step HB.out hb7)
  replace HE := Hd.mk (HE.out.below hb7)
  replace HL := Hd.mk (HL.out.below hb7)
  replace HY := Hd.mk (blk_below HY.out hb7)
  replace HT := Hd.mk (blk_below HT.out hb7)
  have cHY0 := blk_cell HY.out 0
  have cHY1 := blk_cell HY.out 1
  have cHY2 := blk_cell HY.out 2
  have cHT0 := blk_cell HT.out 0
  have cHT1 := blk_cell HT.out 1
  have cHT2 := blk_cell HT.out 2
  simp at cHY0 cHY1 cHY2 cHT0 cHT1 cHT2
  clear hb7
  go_wp2_with fail
  refine (awake_c _).mono ?_
  rintro e w8 ⟨rfl, hb8⟩
  have H8 := Hd.mk (below_step HB.out hb8)
  clear hb8
  go_wp2
  go_ret
  exact ⟨by simp, H8.out⟩
end Go.Proofs.Ytemlbjpefomboaa
