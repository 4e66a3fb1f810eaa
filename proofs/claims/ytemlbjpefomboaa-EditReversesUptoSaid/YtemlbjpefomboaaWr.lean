/- edit: the walk of EditReverses. -/
import Derived.Test.YtemlbjpefomboaaLt
import Derived.Test.YtemlbjpefomboaaLe
import Derived.Test.YtemlbjpefomboaaRz
import Derived.Test.YtemlbjpefomboaaOw
import Derived.Test.YtemlbjpefomboaaLs
import Derived.Test.YtemlbjpefomboaaFi
import Derived.Test.YtemlbjpefomboaaOe
import Derived.Test.YtemlbjpefomboaaEj
namespace Go.Proofs.Ytemlbjpefomboaa
open Go.RowKit Go.Shelf Go.Proofs.YtemlbjpefomboaaW.PrintWords Go.Proofs.YtemlbjpefomboaaW.PrintLast Go.Proofs.YtemlbjpefomboaaW.PrintMore Go.Proofs.Ytemlbjpefomboaa.Pr
set_option linter.unusedVariables false
set_option linter.unusedSimpArgs false
theorem same_f' (l : List Int) : sapperlaw16_same.f l l = some true := by simp [sapperlaw16_same.f]
theorem same_c' {A : Option Addr} {c : Nat} {B : Option Addr} {e : Nat} {l : List Int} {w : World} (h : Kd.C (Kd.int .u8) w A l.length l) (hc : l.length ≤ c) (k : Kd.C (Kd.int .u8) w B l.length l) (hk : l.length ≤ e) :
    Calls Try.prog 26 #[.slice A l.length c, .slice B l.length e] w fun e w' => e = .returned (.bool true) ∧ Below w.heap.size w w' :=
  (sapperlaw16_same.calls A c l B e l true w h hc k hk (same_f' l)).mono fun e w' h => ⟨h.1, h.2.below⟩
theorem reverseE_len (old : List Int) (st : List S80) (d x : List Int) (ho : old.length ≤ 16777216) : (reverseE old st d x).1.length ≤ 16777217 ∧ (reverseE old st d x).2.1.length ≤ 16777216 ∧ (reverseE old st d x).2.2.1.length ≤ 16777216 := by
  unfold reverseE
  split
  · simp
  have hl : (backN (og st d x 0) (back0 old) (og st d x 0).length).length ≤ 16777216 := by rw [backN_len]; simpa [back0] using ho
  generalize backN (og st d x 0) (back0 old) (og st d x 0).length = L at hl
  unfold normOf
  cases h : tks L ts0 with
  | none => simp [nrm]
  | some t =>
    have hv := vt_tks L L.length t (Nat.le_refl _) (by rw [List.take_length]; exact h)
    have hd := hv.d
    have hx := hv.x
    have h1 := hv.n
    have h2 : t.cu.toList.length ≤ 1 := by cases t.cu <;> simp
    refine ⟨?_, by simp only [nrm]; omega, by simp only [nrm]; omega⟩
    simp only [nrm, TS.st, List.length_append]
    omega
attribute [-go_sem] Builtin.append_
set_option maxRecDepth 100000 in
set_option maxHeartbeats 8000000 in
theorem walk_editReverses (Ao : Option Addr) (co : Nat) (old : List Int) (A0 : Option Addr) (c0 : Nat) (st : List S80) (A1 : Option Addr) (c1 : Nat) (d : List Int) (A2 : Option Addr) (c2 : Nat) (x : List Int) (w : World)
    (HO : Bys w Ao co old ∧ old.length ≤ 1048576) (H : EdI w A0 c0 st A1 c1 d A2 c2 x ∧ st.length ≤ 1048576 ∧ d.length ≤ 1048576 ∧ x.length ≤ 1048576) :
    Calls Try.prog 12 #[.slice Ao old.length co, .agg #[.slice A0 st.length c0, .slice A1 d.length c1, .slice A2 x.length c2]] w fun e w' => e = .returned (.bool true) ∧ Below w.heap.size w w' := by
  obtain ⟨⟨hE, _, _, _⟩, hf, hdl, hxl⟩ := H
  obtain ⟨⟨hO, hoc, _⟩, hol⟩ := HO
  have hb0 : Below w.heap.size w (w.alloc (.cells #[.slice A0 st.length c0, .slice A1 d.length c1, .slice A2 x.length c2] 28)) := (Below.refl _ _).alloc (Nat.le_refl _) _
  have HE := Hd.mk (hE.below hb0)
  have HO := Hd.mk (Kd.C_below hO hb0)
  have HOC := Hd.mk hoc
  have HB := Hd.mk hb0
  have HY := Hd.mk (blk_new w (.cells #[.slice A0 st.length c0, .slice A1 d.length c1, .slice A2 x.length c2] 28))
  have HF := Hd.mk (And.intro hf (And.intro hdl hxl))
  have HOL := Hd.mk hol
  have hrn := rreverse_c HO.out hoc HE.out (by omega) hf
  have hln := reverseE_len old st d x (by omega)
  obtain ⟨⟨n0, n1, n2, n3⟩, hq⟩ : ∃ q, reverseE old st d x = q := ⟨_, rfl⟩
  rw [hq] at hrn hln
  simp only at hln
  have HQ := Hd.mk hq
  have HRN := Hd.mk hrn
  have HLN := Hd.mk hln
  clear hb0 hE hf hdl hxl hO hoc hol hrn hq hln
  unfold EdV at HRN
  go_enter Try.func12, Try.ntmps12
  go_wp2_with fail
  refine HRN.out.mono ?_
  intro e w1 hN
  obtain ⟨C0, h0, C1, h1, C2, h2, rfl, hC, hb1⟩ := hN.ed3
  simp only
  have HC := Hd.mk hC
  clear HRN hC hN
  have cHY0 := blk_cell HY.out 0
  have cHY1 := blk_cell HY.out 1
  have cHY2 := blk_cell HY.out 2
  simp at cHY0 cHY1 cHY2
  clear cHY0 cHY1 cHY2
  replace HB := Hd.mk (below_step HB.out hb1)
  replace HE := Hd.mk (HE.out.below hb1)
  replace HO := Hd.mk (Kd.C_below HO.out hb1)
  replace HY := Hd.mk (blk_below HY.out hb1)
  have cHY0 := blk_cell HY.out 0
  have cHY1 := blk_cell HY.out 1
  have cHY2 := blk_cell HY.out 2
  simp at cHY0 cHY1 cHY2
  clear hb1
  have hbA : Below w1.heap.size w1 (w1.alloc (.cells #[.slice C0 n0.length h0, .slice C1 n1.length h1, .slice C2 n2.length h2] 28)) := (Below.refl _ _).alloc (Nat.le_refl _) _
  have HBA := Hd.mk hbA
  have HLEND := Hd.mk (lend_c A0 c0 st A1 c1 d A2 c2 x _ (HE.out.below hbA) (by have := HF.out; omega) (by have := HF.out; omega) (by have := HF.out; omega))
  clear hbA
  have hlt1 := blk_lt HY.out
  go_wp2_with fail
  refine HLEND.out.mono ?_
  rintro e w2 ⟨B0, e0, B1, e1, B2, e2, rfl, hL, hb2⟩
  unfold EdV
  have HL := Hd.mk hL
  clear cHY0 cHY1 cHY2
  replace HB := Hd.mk (below_step HB.out HBA.out)
  replace HE := Hd.mk (HE.out.below HBA.out)
  replace HO := Hd.mk (Kd.C_below HO.out HBA.out)
  replace HY := Hd.mk (blk_below HY.out HBA.out)
  replace HC := Hd.mk (HC.out.below HBA.out)
  have cHY0 := blk_cell HY.out 0
  have cHY1 := blk_cell HY.out 1
  have cHY2 := blk_cell HY.out 2
  simp at cHY0 cHY1 cHY2
  have HW := Hd.mk (blk_new w1 (.cells #[.slice C0 n0.length h0, .slice C1 n1.length h1, .slice C2 n2.length h2] 28))
  clear HBA HLEND hL hlt1
  have cHW0 := blk_cell HW.out 0
  have cHW1 := blk_cell HW.out 1
  have cHW2 := blk_cell HW.out 2
  simp at cHW0 cHW1 cHW2
  clear cHY0 cHY1 cHY2 cHW0 cHW1 cHW2
  replace HB := Hd.mk (below_step HB.out hb2)
  replace HE := Hd.mk (HE.out.below hb2)
  replace HO := Hd.mk (Kd.C_below HO.out hb2)
  replace HY := Hd.mk (blk_below HY.out hb2)
  replace HC := Hd.mk (HC.out.below hb2)
  replace HW := Hd.mk (blk_below HW.out hb2)
  have cHY0 := blk_cell HY.out 0
  have cHY1 := blk_cell HY.out 1
  have cHY2 := blk_cell HY.out 2
  have cHW0 := blk_cell HW.out 0
  have cHW1 := blk_cell HW.out 1
  have cHW2 := blk_cell HW.out 2
  simp at cHY0 cHY1 cHY2 cHW0 cHW1 cHW2
  clear hb2
  have hbA : Below w2.heap.size w2 (w2.alloc (.cells #[.slice B0 st.length e0, .slice B1 d.length e1, .slice B2 x.length e2] 28)) := (Below.refl _ _).alloc (Nat.le_refl _) _
  have hlt1 := blk_lt HY.out
  have hlt2 := blk_lt HW.out
  clear cHY0 cHY1 cHY2 cHW0 cHW1 cHW2
  replace HB := Hd.mk (below_step HB.out hbA)
  replace HE := Hd.mk (HE.out.below hbA)
  replace HO := Hd.mk (Kd.C_below HO.out hbA)
  replace HY := Hd.mk (blk_below HY.out hbA)
  replace HC := Hd.mk (HC.out.below hbA)
  replace HW := Hd.mk (blk_below HW.out hbA)
  replace HL := Hd.mk (HL.out.below hbA)
  have cHY0 := blk_cell HY.out 0
  have cHY1 := blk_cell HY.out 1
  have cHY2 := blk_cell HY.out 2
  have cHW0 := blk_cell HW.out 0
  have cHW1 := blk_cell HW.out 1
  have cHW2 := blk_cell HW.out 2
  simp at cHY0 cHY1 cHY2 cHW0 cHW1 cHW2
  have HT := Hd.mk (blk_new w2 (.cells #[.slice B0 st.length e0, .slice B1 d.length e1, .slice B2 x.length e2] 28))
  clear hbA
  obtain ⟨A6, c6, wq, A10, c10, w3, hr1, hr2, hroom, hcr, hb2, hb3⟩ := room_run (w2.alloc (.cells #[.slice B0 st.length e0, .slice B1 d.length e1, .slice B2 x.length e2] 28)) old [91, 92] (c := co) HO.out (by have := HOL.out; omega) (by decide)
  have HR := Hd.mk hroom
  have hr2' : (Builtin.append_ #[25, 25] 25 #[.slice A6 old.length c6, .slice (some ⟨wq.heap.size, 0, none⟩) 2 2]).run Try.prog (wq.alloc (.cells #[.int .u8 91, .int .u8 92] 5)) = .ok (.slice A10 (old.length + 2) c10) w3 := hr2
  simp only [List.length_cons, List.length_nil, Nat.zero_add] at hcr
  clear hr2 hroom
  have cHT0 := blk_cell HT.out 0
  have cHT1 := blk_cell HT.out 1
  have cHT2 := blk_cell HT.out 2
  simp at cHT0 cHT1 cHT2
  go_upto_region 4 with fail
  clear cHY0 cHY1 cHY2 cHW0 cHW1 cHW2 cHT0 cHT1 cHT2
  replace HB := Hd.mk (below_step HB.out hb3)
  replace HE := Hd.mk (HE.out.below hb3)
  replace HO := Hd.mk (Kd.C_below HO.out hb3)
  replace HY := Hd.mk (blk_below HY.out hb3)
  replace HC := Hd.mk (HC.out.below hb3)
  replace HW := Hd.mk (blk_below HW.out hb3)
  replace HL := Hd.mk (HL.out.below hb3)
  replace HT := Hd.mk (blk_below HT.out hb3)
  have cHY0 := blk_cell HY.out 0
  have cHY1 := blk_cell HY.out 1
  have cHY2 := blk_cell HY.out 2
  have cHW0 := blk_cell HW.out 0
  have cHW1 := blk_cell HW.out 1
  have cHW2 := blk_cell HW.out 2
  have cHT0 := blk_cell HT.out 0
  have cHT1 := blk_cell HT.out 1
  have cHT2 := blk_cell HT.out 2
  simp at cHY0 cHY1 cHY2 cHW0 cHW1 cHW2 cHT0 cHT1 cHT2
  clear hr1 hr2' hb2 hb3 hlt1 hlt2
  have hcr1 : old.length ≤ c10 := by omega
  have hCO : Kd.C (Kd.int .u8) w3 A10 old.length old := by
    have h0 := Kd.C_take HR.out (m := old.length) (by simp)
    rwa [List.take_left] at h0
  have HCO := Hd.mk hCO
  obtain ⟨bt, hbt⟩ : ∃ b, w2.heap.size = b := ⟨_, rfl⟩
  obtain ⟨bw, hbw⟩ : ∃ b, w1.heap.size = b := ⟨_, rfl⟩
  clear cHY0 cHY1 cHY2 cHW0 cHW1 cHW2 cHT0 cHT1 cHT2
  rw [hbt] at HT ⊢
  rw [hbw] at HW ⊢
  clear hbt hbw hCO
  have hrev : ∀ W, Below w3.heap.size w3 W → Calls Try.prog 42 #[.slice A10 old.length c10, .agg #[.slice B0 st.length e0, .slice B1 d.length e1, .slice B2 x.length e2]] W fun e w' => ∃ E0 f0 E1 f1 E2 f2, e = .returned (.tuple #[.agg #[.slice E0 n0.length f0, .slice E1 n1.length f1, .slice E2 n2.length f2], .int .i64 n3]) ∧
      Ed3 w' W.heap.size (fun _ => True) (.slice E0 n0.length f0) (.slice E1 n1.length f1) (.slice E2 n2.length f2) n0 n1 n2 ∧ Below W.heap.size W w' := by
    intro W hb
    have hst := HF.out.1
    have h := reverse_c (Kd.C_below HCO.out hb) hcr1 (HL.out.edc.below hb) (by omega)
    unfold EdV at h
    rw [HQ.out] at h
    exact h.mono fun e w' h => h.ed3
  have HREV := Hd.mk hrev
  clear hrev
  go_cut [9, 10] (fun v9 v10 W => ∃ b9 E0 f0 E1 f1 E2 f2, v9 = .pointer (some ⟨b9, 0, none⟩) ∧ v10 = .int .i64 n3 ∧ Hd (Ed3 W w3.heap.size (fun k => k ≠ b9) (.slice E0 n0.length f0) (.slice E1 n1.length f1) (.slice E2 n2.length f2) n0 n1 n2) ∧
    Hd (W.heap[b9]? = some (.cells #[.slice E0 n0.length f0, .slice E1 n1.length f1, .slice E2 n2.length f2] 28 (0, 0))) ∧ Hd (Below w3.heap.size w3 W) ∧ Hd (w3.heap.size ≤ b9))
  case first =>
    have HB0 : Hd (Below w3.drew.heap.size w3.drew w3.drew) := ⟨Below.refl _ _⟩
    have hT1 := blk_drew HT.out
    have c0_ : w3.drew.cell? ⟨bt, 0, none⟩ = some (.slice B0 st.length e0) := (blk_cell hT1 0).trans rfl
    have c1_ : w3.drew.cell? ⟨bt, 1, none⟩ = some (.slice B1 d.length e1) := (blk_cell hT1 1).trans rfl
    have c2_ : w3.drew.cell? ⟨bt, 2, none⟩ = some (.slice B2 x.length e2) := (blk_cell hT1 2).trans rfl
    have hS3 := And.intro c0_ (And.intro c1_ c2_)
    have HREVB : Hd (∀ W, Below w3.drew.heap.size w3.drew W → Calls Try.prog 42 #[.slice A10 old.length c10, .agg #[.slice B0 st.length e0, .slice B1 d.length e1, .slice B2 x.length e2]] W fun e w' => ∃ E0 f0 E1 f1 E2 f2, e = .returned (.tuple #[.agg #[.slice E0 n0.length f0, .slice E1 n1.length f1, .slice E2 n2.length f2], .int .i64 n3]) ∧
        Ed3 w' W.heap.size (fun _ => True) (.slice E0 n0.length f0) (.slice E1 n1.length f1) (.slice E2 n2.length f2) n0 n1 n2 ∧ Below W.heap.size W w') := ⟨fun W h => HREV.out W (below_step (Below.drew' w3) h)⟩
    clear c0_ c1_ c2_ hT1 HREV
    obtain ⟨wb, hwb⟩ : ∃ v, w3.drew = v := ⟨_, rfl⟩
    refine start_ (n := 12) (S := fun w' => w'.cell? ⟨bt, 0, none⟩ = some (.slice B0 st.length e0) ∧ w'.cell? ⟨bt, 1, none⟩ = some (.slice B1 d.length e1) ∧ w'.cell? ⟨bt, 2, none⟩ = some (.slice B2 x.length e2)) (ds := [10]) #[F,F,F,F,F,F,F,F,F,F,F,F] (by kernel_rfl) rfl rfl hS3 (fun hHeld => ?_)
    rw [hwb] at hS3 HB0 HREVB hHeld ⊢
    refine pure_ (i := 0) (N := some 26) (v := ?_) (a' := ?_) #[T,F,F,F,F,F,F,F,F,F,F,F] rfl rfl (by kernel_rfl) (fun _ _ _ h => h) (Or.inl ⟨by rfl, ?_⟩) ?_ ?_
    rotate_left
    · intro w'
      go_simp
      with_reducible rfl
    rotate_left
    · go_simp
      rfl
    refine pure_ (i := 1) (N := some 27) (v := ?_) (a' := ?_) #[T,T,F,F,F,F,F,F,F,F,F,F] rfl rfl (by kernel_rfl) (fun _ _ _ h => h) (Or.inl ⟨by rfl, ?_⟩) ?_ ?_
    rotate_left
    · intro w'
      go_simp
      with_reducible rfl
    rotate_left
    · go_simp
      rfl
    refine pure_ (i := 2) (N := some 28) (v := ?_) (a' := ?_) #[T,T,T,F,F,F,F,F,F,F,F,F] rfl rfl (by kernel_rfl) (fun _ _ _ h => h) (Or.inl ⟨by rfl, ?_⟩) ?_ ?_
    rotate_left
    · intro w'
      go_simp
      with_reducible rfl
    rotate_left
    · go_simp
      rfl
    refine pure_ (i := 3) (N := some 29) (v := ?_) (a' := ?_) #[T,T,T,T,F,F,F,F,F,F,F,F] rfl rfl (by kernel_rfl) (fun _ _ _ h => h) (Or.inl ⟨by rfl, ?_⟩) ?_ ?_
    rotate_left
    · intro w'
      go_simp
      with_reducible rfl
    rotate_left
    · go_simp
      rfl
    refine take_ (i := 4) (N := some 30) (v := ?_) (a' := ?_) #[T,T,T,T,T,F,F,F,F,F,F,F] rfl rfl (by kernel_rfl) (fun _ _ _ h => h) (Or.inl ⟨by rfl, ?_⟩) hHeld ?_ ?_
    rotate_left
    · rintro w' ⟨s0, s1, s2⟩
      go_simp
      with_reducible rfl
    rotate_left
    · go_simp
      rfl
    refine two_ (i := 5) (j := 9) (Ni := some 31) (Nj := some 9) #[T,T,T,T,T,T,F,F,F,F,F,F] #[T,T,T,T,T,F,F,F,F,T,F,F] rfl rfl rfl rfl (by kernel_rfl) (by decide) (by decide) (fun K hK => ?_) (fun K hK => ?_)
    · skip
      refine goes_ Try.func42 (by kernel_rfl) rfl #[.slice A10 old.length c10, .agg #[.slice B0 st.length e0, .slice B1 d.length e1, .slice B2 x.length e2]] (by rfl) rfl rfl (by simp only [List.map_toArray, List.map_cons, List.map_nil]; rfl) ?_
      refine (HREVB.out _ HB0.out).mono ?_
      rintro e wv1 ⟨G0, p0, G1, p1, G2, p2, rfl, hD, hbn⟩
      refine ⟨_, rfl, ?_⟩
      have HD9 := Hd.mk hD
      clear hD
      have HB1 := Hd.mk (below_step HB0.out hbn)
      clear hbn
      refine hK.out _ _ (far3 HB1.out hS3) (fun hHeld => ?_)
      clear hK K
      refine norm_ (a' := ?_) ?_ ?_
      rotate_left
      · show Act.put _ (some 31) _ = _
        go_simp
        rfl
      refine pure_ (i := 6) (N := some 25) (v := ?_) (a' := ?_) #[T,T,T,T,T,T,T,F,F,F,F,F] rfl rfl (by kernel_rfl) (fun _ _ _ h => h) (Or.inl ⟨by rfl, ?_⟩) ?_ ?_
      rotate_left
      · intro w'
        go_simp
        with_reducible rfl
      rotate_left
      · go_simp
        rfl
      refine pure_ (i := 7) (N := some 32) (v := ?_) (a' := ?_) #[T,T,T,T,T,T,T,T,F,F,F,F] rfl rfl (by kernel_rfl) (fun _ _ _ h => h) (Or.inl ⟨by rfl, ?_⟩) ?_ ?_
      rotate_left
      · intro w'
        go_simp
        with_reducible rfl
      rotate_left
      · go_simp
        rfl
      refine pure_ (i := 8) (N := some 33) (v := ?_) (a' := ?_) #[T,T,T,T,T,T,T,T,T,F,F,F] rfl rfl (by kernel_rfl) (fun _ _ _ h => h) (Or.inl ⟨by rfl, ?_⟩) ?_ ?_
      rotate_left
      · intro w'
        go_simp
        with_reducible rfl
      rotate_left
      · go_simp
        rfl
      refine one_ (i := 9) (N := some 9) #[T,T,T,T,T,T,T,T,T,T,F,F] rfl rfl (by kernel_rfl) (by decide) (fun K hK => ?_)
      refine value_ (w1 := ?_) (v := ?_) (by rfl) rfl ?_ ?_
      rotate_left 2
      · go_simp
        constructor
        · rfl
        · rfl
      have hsz := HB1.out.size
      obtain ⟨b9, wv2, hb9, hw2, hbn, hnw⟩ := newbox wv1
      have hs9 : wb.heap.size ≤ b9 := by omega
      rw [hw2, ← hb9]
      have HB2 := Hd.mk (below_step HB1.out hbn)
      have H9 := Hd.mk hnw
      replace HD9 := Hd.mk ((HD9.out.mono (q := fun k => k ≠ b9) (fun k _ _ h => by omega)).below hbn)
      clear hbn hnw hw2 hb9 hsz
      refine hK.out _ _ (far3 HB2.out hS3) (fun hHeld => ?_)
      clear hK K
      refine norm_ (a' := ?_) ?_ ?_
      rotate_left
      · show Act.put _ (some 9) _ = _
        go_simp
        rfl
      obtain ⟨q0, q1, q2, f0, f1, f2⟩ := none3 H9.out
      refine last_ (i := 10) (N := none) #[T,T,T,T,T,T,T,T,T,T,T,F] rfl rfl (by kernel_rfl) (by decide) (fun K hK => ?_)
      refine skip_ (w1 := ?_) (by rfl) rfl ?_ ?_
      rotate_left
      · go_simp
        rfl
      refine hK.out _ _ ?_
      clear hK K q0 q1 q2 f0 f1 f2
      refine pure_ (i := 11) (N := some 10) (v := ?_) (a' := ?_) #[T,T,T,T,T,T,T,T,T,T,T,T] rfl rfl (by kernel_rfl) (fun _ _ _ h => h) (Or.inl ⟨by rfl, ?_⟩) ?_ ?_
      rotate_left
      · intro w'
        go_simp
        with_reducible rfl
      rotate_left
      · go_simp
        rfl
      refine done_ (by kernel_rfl) ?_
      clear hHeld
      go_wp2_with fail
      go_meet
      case rel =>
        have hd : Ed3 wv2 wb.heap.size (fun k => k ≠ b9) (.slice G0 n0.length p0) (.slice G1 n1.length p1) (.slice G2 n2.length p2) n0 n1 n2 := by first | exact HD9.out | exact (HD9.out.mono (q := fun k => k ≠ b9) (fun k _ h _ => by omega)).lower HB1.out.size
        have hd2 := hd.step (fun k hk _ => (Below.heap_setCell _ ⟨b9, 2, none⟩ (.slice G2 n2.length p2) k hk).trans ((Below.heap_setCell _ ⟨b9, 1, none⟩ (.slice G1 n1.length p1) k hk).trans (Below.heap_setCell wv2 ⟨b9, 0, none⟩ (.slice G0 n0.length p0) k hk)))
        have hbb := ((HB2.out.setCell hs9 (.slice G0 n0.length p0) (p := ⟨b9, 0, none⟩)).setCell hs9 (.slice G1 n1.length p1) (p := ⟨b9, 1, none⟩)).setCell hs9 (.slice G2 n2.length p2) (p := ⟨b9, 2, none⟩)
        subst hwb
        exact ⟨b9, G0, p0, G1, p1, G2, p2, rfl, rfl, ⟨hd2⟩, ⟨blk3s H9.out _ _ _⟩, ⟨below_step (Below.drew' w3) hbb⟩, ⟨hs9⟩⟩
    · skip
      refine value_ (w1 := ?_) (v := ?_) (by rfl) rfl ?_ ?_
      rotate_left 2
      · go_simp
        constructor
        · rfl
        · rfl
      have hsz := HB0.out.size
      obtain ⟨b9, wv1, hb9, hw1, hbn, hnw⟩ := newbox wb
      have hs9 : wb.heap.size ≤ b9 := by omega
      rw [hw1, ← hb9]
      have HB1 := Hd.mk (below_step HB0.out hbn)
      have H9 := Hd.mk hnw
      have hlt9 := blk_lt H9.out
      clear hbn hnw hw1 hb9 hsz
      refine hK.out _ _ (far3 HB1.out hS3) (fun hHeld => ?_)
      clear hK K
      refine norm_ (a' := ?_) ?_ ?_
      rotate_left
      · show Act.put _ (some 9) _ = _
        go_simp
        rfl
      refine one_ (i := 5) (N := some 31) #[T,T,T,T,T,T,F,F,F,T,F,F] rfl rfl (by kernel_rfl) (by decide) (fun K hK => ?_)
      refine goes_ Try.func42 (by kernel_rfl) rfl #[.slice A10 old.length c10, .agg #[.slice B0 st.length e0, .slice B1 d.length e1, .slice B2 x.length e2]] (by rfl) rfl rfl (by simp only [List.map_toArray, List.map_cons, List.map_nil]; rfl) ?_
      refine (HREVB.out _ HB1.out).mono ?_
      rintro e wv2 ⟨G0, p0, G1, p1, G2, p2, rfl, hD, hbn⟩
      refine ⟨_, rfl, ?_⟩
      have HD9 := Hd.mk hD
      clear hD
      have HB2 := Hd.mk (below_step HB1.out hbn)
      replace H9 := Hd.mk (blk_below H9.out hbn)
      clear hbn
      refine hK.out _ _ (far3 HB2.out hS3) (fun hHeld => ?_)
      clear hK K
      refine norm_ (a' := ?_) ?_ ?_
      rotate_left
      · show Act.put _ (some 31) _ = _
        go_simp
        rfl
      refine pure_ (i := 6) (N := some 25) (v := ?_) (a' := ?_) #[T,T,T,T,T,T,T,F,F,T,F,F] rfl rfl (by kernel_rfl) (fun _ _ _ h => h) (Or.inl ⟨by rfl, ?_⟩) ?_ ?_
      rotate_left
      · intro w'
        go_simp
        with_reducible rfl
      rotate_left
      · go_simp
        rfl
      refine pure_ (i := 7) (N := some 32) (v := ?_) (a' := ?_) #[T,T,T,T,T,T,T,T,F,T,F,F] rfl rfl (by kernel_rfl) (fun _ _ _ h => h) (Or.inl ⟨by rfl, ?_⟩) ?_ ?_
      rotate_left
      · intro w'
        go_simp
        with_reducible rfl
      rotate_left
      · go_simp
        rfl
      refine pure_ (i := 8) (N := some 33) (v := ?_) (a' := ?_) #[T,T,T,T,T,T,T,T,T,T,F,F] rfl rfl (by kernel_rfl) (fun _ _ _ h => h) (Or.inl ⟨by rfl, ?_⟩) ?_ ?_
      rotate_left
      · intro w'
        go_simp
        with_reducible rfl
      rotate_left
      · go_simp
        rfl
      obtain ⟨q0, q1, q2, f0, f1, f2⟩ := none3 H9.out
      refine last_ (i := 10) (N := none) #[T,T,T,T,T,T,T,T,T,T,T,F] rfl rfl (by kernel_rfl) (by decide) (fun K hK => ?_)
      refine skip_ (w1 := ?_) (by rfl) rfl ?_ ?_
      rotate_left
      · go_simp
        rfl
      refine hK.out _ _ ?_
      clear hK K q0 q1 q2 f0 f1 f2
      refine pure_ (i := 11) (N := some 10) (v := ?_) (a' := ?_) #[T,T,T,T,T,T,T,T,T,T,T,T] rfl rfl (by kernel_rfl) (fun _ _ _ h => h) (Or.inl ⟨by rfl, ?_⟩) ?_ ?_
      rotate_left
      · intro w'
        go_simp
        with_reducible rfl
      rotate_left
      · go_simp
        rfl
      refine done_ (by kernel_rfl) ?_
      clear hHeld
      go_wp2_with fail
      go_meet
      case rel =>
        have hd : Ed3 wv2 wb.heap.size (fun k => k ≠ b9) (.slice G0 n0.length p0) (.slice G1 n1.length p1) (.slice G2 n2.length p2) n0 n1 n2 := by first | exact HD9.out | exact (HD9.out.mono (q := fun k => k ≠ b9) (fun k _ h _ => by omega)).lower HB1.out.size
        have hd2 := hd.step (fun k hk _ => (Below.heap_setCell _ ⟨b9, 2, none⟩ (.slice G2 n2.length p2) k hk).trans ((Below.heap_setCell _ ⟨b9, 1, none⟩ (.slice G1 n1.length p1) k hk).trans (Below.heap_setCell wv2 ⟨b9, 0, none⟩ (.slice G0 n0.length p0) k hk)))
        have hbb := ((HB2.out.setCell hs9 (.slice G0 n0.length p0) (p := ⟨b9, 0, none⟩)).setCell hs9 (.slice G1 n1.length p1) (p := ⟨b9, 1, none⟩)).setCell hs9 (.slice G2 n2.length p2) (p := ⟨b9, 2, none⟩)
        subst hwb
        exact ⟨b9, G0, p0, G1, p1, G2, p2, rfl, rfl, ⟨hd2⟩, ⟨blk3s H9.out _ _ _⟩, ⟨below_step (Below.drew' w3) hbb⟩, ⟨hs9⟩⟩
  case rest =>
    obtain ⟨ba, E0, f0, E1, f1, E2, f2, rfl, rfl, HD, HA, HBW, HBA9⟩ := hcut
    obtain ⟨wd, hwd⟩ : ∃ v, v = wc := ⟨_, rfl⟩
    subst hwd
    have HBa := HB
    have HEa := HE
    have HLa := HL
    have HOa := HO
    have HRa := HR
    have HCOa := HCO
    have HYa := HY
    have HTa := HT
    have HCa : Hd (Ed3 w3 w.heap.size (fun k => k < w3.heap.size) (.slice C0 n0.length h0) (.slice C1 n1.length h1) (.slice C2 n2.length h2) n0 n1 n2) :=
      ⟨(HC.out.lower (b' := w.heap.size) (by simp)).mono (fun k _ _ h => h)⟩
    replace HB := Hd.mk (below_step HB.out HBW.out)
    replace HE := Hd.mk (HE.out.below HBW.out)
    replace HO := Hd.mk (Kd.C_below HO.out HBW.out)
    replace HY := Hd.mk (blk_below HY.out HBW.out)
    replace HC := Hd.mk (HC.out.below HBW.out)
    replace HL := Hd.mk (HL.out.below HBW.out)
    replace HR := Hd.mk (Kd.C_below HR.out HBW.out)
    replace HCO := Hd.mk (Kd.C_below HCO.out HBW.out)
    replace HW := Hd.mk (blk_below HW.out HBW.out)
    replace HT := Hd.mk (blk_below HT.out HBW.out)
    go_upto_region 5 with fail
    go_cut [11, 12] (fun v9 v10 W => ∃ b9 E0 f0 E1 f1 E2 f2, v9 = .pointer (some ⟨b9, 0, none⟩) ∧ v10 = .int .i64 n3 ∧ Hd (Ed3 W wd.heap.size (fun k => k ≠ b9) (.slice E0 n0.length f0) (.slice E1 n1.length f1) (.slice E2 n2.length f2) n0 n1 n2) ∧
      Hd (W.heap[b9]? = some (.cells #[.slice E0 n0.length f0, .slice E1 n1.length f1, .slice E2 n2.length f2] 28 (0, 0))) ∧ Hd (Below wd.heap.size wd W) ∧ Hd (wd.heap.size ≤ b9))
    case first =>
      have HB0 : Hd (Below wd.drew.heap.size wd.drew wd.drew) := ⟨Below.refl _ _⟩
      have hT1 := blk_drew HT.out
      have c0_ : wd.drew.cell? ⟨bt, 0, none⟩ = some (.slice B0 st.length e0) := (blk_cell hT1 0).trans rfl
      have c1_ : wd.drew.cell? ⟨bt, 1, none⟩ = some (.slice B1 d.length e1) := (blk_cell hT1 1).trans rfl
      have c2_ : wd.drew.cell? ⟨bt, 2, none⟩ = some (.slice B2 x.length e2) := (blk_cell hT1 2).trans rfl
      have hS3 := And.intro c0_ (And.intro c1_ c2_)
      have HREVB : Hd (∀ W, Below wd.drew.heap.size wd.drew W → Calls Try.prog 42 #[.slice A10 old.length c10, .agg #[.slice B0 st.length e0, .slice B1 d.length e1, .slice B2 x.length e2]] W fun e w' => ∃ E0 f0 E1 f1 E2 f2, e = .returned (.tuple #[.agg #[.slice E0 n0.length f0, .slice E1 n1.length f1, .slice E2 n2.length f2], .int .i64 n3]) ∧
          Ed3 w' W.heap.size (fun _ => True) (.slice E0 n0.length f0) (.slice E1 n1.length f1) (.slice E2 n2.length f2) n0 n1 n2 ∧ Below W.heap.size W w') := ⟨fun W h => HREV.out W (below_step (below_step HBW.out (Below.drew' wd)) h)⟩
      clear c0_ c1_ c2_ hT1 HREV
      obtain ⟨wb, hwb⟩ : ∃ v, wd.drew = v := ⟨_, rfl⟩
      refine start_ (n := 12) (S := fun w' => w'.cell? ⟨bt, 0, none⟩ = some (.slice B0 st.length e0) ∧ w'.cell? ⟨bt, 1, none⟩ = some (.slice B1 d.length e1) ∧ w'.cell? ⟨bt, 2, none⟩ = some (.slice B2 x.length e2)) (ds := [10]) #[F,F,F,F,F,F,F,F,F,F,F,F] (by kernel_rfl) rfl rfl hS3 (fun hHeld => ?_)
      rw [hwb] at hS3 HB0 HREVB hHeld ⊢
      refine pure_ (i := 0) (N := some 35) (v := ?_) (a' := ?_) #[T,F,F,F,F,F,F,F,F,F,F,F] rfl rfl (by kernel_rfl) (fun _ _ _ h => h) (Or.inl ⟨by rfl, ?_⟩) ?_ ?_
      rotate_left
      · intro w'
        go_simp
        with_reducible rfl
      rotate_left
      · go_simp
        rfl
      refine pure_ (i := 1) (N := some 36) (v := ?_) (a' := ?_) #[T,T,F,F,F,F,F,F,F,F,F,F] rfl rfl (by kernel_rfl) (fun _ _ _ h => h) (Or.inl ⟨by rfl, ?_⟩) ?_ ?_
      rotate_left
      · intro w'
        go_simp
        with_reducible rfl
      rotate_left
      · go_simp
        rfl
      refine pure_ (i := 2) (N := some 37) (v := ?_) (a' := ?_) #[T,T,T,F,F,F,F,F,F,F,F,F] rfl rfl (by kernel_rfl) (fun _ _ _ h => h) (Or.inl ⟨by rfl, ?_⟩) ?_ ?_
      rotate_left
      · intro w'
        go_simp
        with_reducible rfl
      rotate_left
      · go_simp
        rfl
      refine pure_ (i := 3) (N := some 38) (v := ?_) (a' := ?_) #[T,T,T,T,F,F,F,F,F,F,F,F] rfl rfl (by kernel_rfl) (fun _ _ _ h => h) (Or.inl ⟨by rfl, ?_⟩) ?_ ?_
      rotate_left
      · intro w'
        go_simp
        with_reducible rfl
      rotate_left
      · go_simp
        rfl
      refine take_ (i := 4) (N := some 39) (v := ?_) (a' := ?_) #[T,T,T,T,T,F,F,F,F,F,F,F] rfl rfl (by kernel_rfl) (fun _ _ _ h => h) (Or.inl ⟨by rfl, ?_⟩) hHeld ?_ ?_
      rotate_left
      · rintro w' ⟨s0, s1, s2⟩
        go_simp
        with_reducible rfl
      rotate_left
      · go_simp
        rfl
      refine two_ (i := 5) (j := 9) (Ni := some 40) (Nj := some 11) #[T,T,T,T,T,T,F,F,F,F,F,F] #[T,T,T,T,T,F,F,F,F,T,F,F] rfl rfl rfl rfl (by kernel_rfl) (by decide) (by decide) (fun K hK => ?_) (fun K hK => ?_)
      · skip
        refine goes_ Try.func42 (by kernel_rfl) rfl #[.slice A10 old.length c10, .agg #[.slice B0 st.length e0, .slice B1 d.length e1, .slice B2 x.length e2]] (by rfl) rfl rfl (by simp only [List.map_toArray, List.map_cons, List.map_nil]; rfl) ?_
        refine (HREVB.out _ HB0.out).mono ?_
        rintro e wv1 ⟨G0, p0, G1, p1, G2, p2, rfl, hD, hbn⟩
        refine ⟨_, rfl, ?_⟩
        have HD9 := Hd.mk hD
        clear hD
        have HB1 := Hd.mk (below_step HB0.out hbn)
        clear hbn
        refine hK.out _ _ (far3 HB1.out hS3) (fun hHeld => ?_)
        clear hK K
        refine norm_ (a' := ?_) ?_ ?_
        rotate_left
        · show Act.put _ (some 40) _ = _
          go_simp
          rfl
        refine pure_ (i := 6) (N := some 34) (v := ?_) (a' := ?_) #[T,T,T,T,T,T,T,F,F,F,F,F] rfl rfl (by kernel_rfl) (fun _ _ _ h => h) (Or.inl ⟨by rfl, ?_⟩) ?_ ?_
        rotate_left
        · intro w'
          go_simp
          with_reducible rfl
        rotate_left
        · go_simp
          rfl
        refine pure_ (i := 7) (N := some 41) (v := ?_) (a' := ?_) #[T,T,T,T,T,T,T,T,F,F,F,F] rfl rfl (by kernel_rfl) (fun _ _ _ h => h) (Or.inl ⟨by rfl, ?_⟩) ?_ ?_
        rotate_left
        · intro w'
          go_simp
          with_reducible rfl
        rotate_left
        · go_simp
          rfl
        refine pure_ (i := 8) (N := some 42) (v := ?_) (a' := ?_) #[T,T,T,T,T,T,T,T,T,F,F,F] rfl rfl (by kernel_rfl) (fun _ _ _ h => h) (Or.inl ⟨by rfl, ?_⟩) ?_ ?_
        rotate_left
        · intro w'
          go_simp
          with_reducible rfl
        rotate_left
        · go_simp
          rfl
        refine one_ (i := 9) (N := some 11) #[T,T,T,T,T,T,T,T,T,T,F,F] rfl rfl (by kernel_rfl) (by decide) (fun K hK => ?_)
        refine value_ (w1 := ?_) (v := ?_) (by rfl) rfl ?_ ?_
        rotate_left 2
        · go_simp
          constructor
          · rfl
          · rfl
        have hsz := HB1.out.size
        obtain ⟨b9, wv2, hb9, hw2, hbn, hnw⟩ := newbox wv1
        have hs9 : wb.heap.size ≤ b9 := by omega
        rw [hw2, ← hb9]
        have HB2 := Hd.mk (below_step HB1.out hbn)
        have H9 := Hd.mk hnw
        replace HD9 := Hd.mk ((HD9.out.mono (q := fun k => k ≠ b9) (fun k _ _ h => by omega)).below hbn)
        clear hbn hnw hw2 hb9 hsz
        refine hK.out _ _ (far3 HB2.out hS3) (fun hHeld => ?_)
        clear hK K
        refine norm_ (a' := ?_) ?_ ?_
        rotate_left
        · show Act.put _ (some 11) _ = _
          go_simp
          rfl
        obtain ⟨q0, q1, q2, f0, f1, f2⟩ := none3 H9.out
        refine last_ (i := 10) (N := none) #[T,T,T,T,T,T,T,T,T,T,T,F] rfl rfl (by kernel_rfl) (by decide) (fun K hK => ?_)
        refine skip_ (w1 := ?_) (by rfl) rfl ?_ ?_
        rotate_left
        · go_simp
          rfl
        refine hK.out _ _ ?_
        clear hK K q0 q1 q2 f0 f1 f2
        refine pure_ (i := 11) (N := some 12) (v := ?_) (a' := ?_) #[T,T,T,T,T,T,T,T,T,T,T,T] rfl rfl (by kernel_rfl) (fun _ _ _ h => h) (Or.inl ⟨by rfl, ?_⟩) ?_ ?_
        rotate_left
        · intro w'
          go_simp
          with_reducible rfl
        rotate_left
        · go_simp
          rfl
        refine done_ (by kernel_rfl) ?_
        clear hHeld
        go_wp2_with fail
        go_meet
        case rel =>
          have hd : Ed3 wv2 wb.heap.size (fun k => k ≠ b9) (.slice G0 n0.length p0) (.slice G1 n1.length p1) (.slice G2 n2.length p2) n0 n1 n2 := by first | exact HD9.out | exact (HD9.out.mono (q := fun k => k ≠ b9) (fun k _ h _ => by omega)).lower HB1.out.size
          have hd2 := hd.step (fun k hk _ => (Below.heap_setCell _ ⟨b9, 2, none⟩ (.slice G2 n2.length p2) k hk).trans ((Below.heap_setCell _ ⟨b9, 1, none⟩ (.slice G1 n1.length p1) k hk).trans (Below.heap_setCell wv2 ⟨b9, 0, none⟩ (.slice G0 n0.length p0) k hk)))
          have hbb := ((HB2.out.setCell hs9 (.slice G0 n0.length p0) (p := ⟨b9, 0, none⟩)).setCell hs9 (.slice G1 n1.length p1) (p := ⟨b9, 1, none⟩)).setCell hs9 (.slice G2 n2.length p2) (p := ⟨b9, 2, none⟩)
          subst hwb
          exact ⟨b9, G0, p0, G1, p1, G2, p2, rfl, rfl, ⟨hd2⟩, ⟨blk3s H9.out _ _ _⟩, ⟨below_step (Below.drew' wd) hbb⟩, ⟨hs9⟩⟩
      · skip
        refine value_ (w1 := ?_) (v := ?_) (by rfl) rfl ?_ ?_
        rotate_left 2
        · go_simp
          constructor
          · rfl
          · rfl
        have hsz := HB0.out.size
        obtain ⟨b9, wv1, hb9, hw1, hbn, hnw⟩ := newbox wb
        have hs9 : wb.heap.size ≤ b9 := by omega
        rw [hw1, ← hb9]
        have HB1 := Hd.mk (below_step HB0.out hbn)
        have H9 := Hd.mk hnw
        have hlt9 := blk_lt H9.out
        clear hbn hnw hw1 hb9 hsz
        refine hK.out _ _ (far3 HB1.out hS3) (fun hHeld => ?_)
        clear hK K
        refine norm_ (a' := ?_) ?_ ?_
        rotate_left
        · show Act.put _ (some 11) _ = _
          go_simp
          rfl
        refine one_ (i := 5) (N := some 40) #[T,T,T,T,T,T,F,F,F,T,F,F] rfl rfl (by kernel_rfl) (by decide) (fun K hK => ?_)
        refine goes_ Try.func42 (by kernel_rfl) rfl #[.slice A10 old.length c10, .agg #[.slice B0 st.length e0, .slice B1 d.length e1, .slice B2 x.length e2]] (by rfl) rfl rfl (by simp only [List.map_toArray, List.map_cons, List.map_nil]; rfl) ?_
        refine (HREVB.out _ HB1.out).mono ?_
        rintro e wv2 ⟨G0, p0, G1, p1, G2, p2, rfl, hD, hbn⟩
        refine ⟨_, rfl, ?_⟩
        have HD9 := Hd.mk hD
        clear hD
        have HB2 := Hd.mk (below_step HB1.out hbn)
        replace H9 := Hd.mk (blk_below H9.out hbn)
        clear hbn
        refine hK.out _ _ (far3 HB2.out hS3) (fun hHeld => ?_)
        clear hK K
        refine norm_ (a' := ?_) ?_ ?_
        rotate_left
        · show Act.put _ (some 40) _ = _
          go_simp
          rfl
        refine pure_ (i := 6) (N := some 34) (v := ?_) (a' := ?_) #[T,T,T,T,T,T,T,F,F,T,F,F] rfl rfl (by kernel_rfl) (fun _ _ _ h => h) (Or.inl ⟨by rfl, ?_⟩) ?_ ?_
        rotate_left
        · intro w'
          go_simp
          with_reducible rfl
        rotate_left
        · go_simp
          rfl
        refine pure_ (i := 7) (N := some 41) (v := ?_) (a' := ?_) #[T,T,T,T,T,T,T,T,F,T,F,F] rfl rfl (by kernel_rfl) (fun _ _ _ h => h) (Or.inl ⟨by rfl, ?_⟩) ?_ ?_
        rotate_left
        · intro w'
          go_simp
          with_reducible rfl
        rotate_left
        · go_simp
          rfl
        refine pure_ (i := 8) (N := some 42) (v := ?_) (a' := ?_) #[T,T,T,T,T,T,T,T,T,T,F,F] rfl rfl (by kernel_rfl) (fun _ _ _ h => h) (Or.inl ⟨by rfl, ?_⟩) ?_ ?_
        rotate_left
        · intro w'
          go_simp
          with_reducible rfl
        rotate_left
        · go_simp
          rfl
        obtain ⟨q0, q1, q2, f0, f1, f2⟩ := none3 H9.out
        refine last_ (i := 10) (N := none) #[T,T,T,T,T,T,T,T,T,T,T,F] rfl rfl (by kernel_rfl) (by decide) (fun K hK => ?_)
        refine skip_ (w1 := ?_) (by rfl) rfl ?_ ?_
        rotate_left
        · go_simp
          rfl
        refine hK.out _ _ ?_
        clear hK K q0 q1 q2 f0 f1 f2
        refine pure_ (i := 11) (N := some 12) (v := ?_) (a' := ?_) #[T,T,T,T,T,T,T,T,T,T,T,T] rfl rfl (by kernel_rfl) (fun _ _ _ h => h) (Or.inl ⟨by rfl, ?_⟩) ?_ ?_
        rotate_left
        · intro w'
          go_simp
          with_reducible rfl
        rotate_left
        · go_simp
          rfl
        refine done_ (by kernel_rfl) ?_
        clear hHeld
        go_wp2_with fail
        go_meet
        case rel =>
          have hd : Ed3 wv2 wb.heap.size (fun k => k ≠ b9) (.slice G0 n0.length p0) (.slice G1 n1.length p1) (.slice G2 n2.length p2) n0 n1 n2 := by first | exact HD9.out | exact (HD9.out.mono (q := fun k => k ≠ b9) (fun k _ h _ => by omega)).lower HB1.out.size
          have hd2 := hd.step (fun k hk _ => (Below.heap_setCell _ ⟨b9, 2, none⟩ (.slice G2 n2.length p2) k hk).trans ((Below.heap_setCell _ ⟨b9, 1, none⟩ (.slice G1 n1.length p1) k hk).trans (Below.heap_setCell wv2 ⟨b9, 0, none⟩ (.slice G0 n0.length p0) k hk)))
          have hbb := ((HB2.out.setCell hs9 (.slice G0 n0.length p0) (p := ⟨b9, 0, none⟩)).setCell hs9 (.slice G1 n1.length p1) (p := ⟨b9, 1, none⟩)).setCell hs9 (.slice G2 n2.length p2) (p := ⟨b9, 2, none⟩)
          subst hwb
          exact ⟨b9, G0, p0, G1, p1, G2, p2, rfl, rfl, ⟨hd2⟩, ⟨blk3s H9.out _ _ _⟩, ⟨below_step (Below.drew' wd) hbb⟩, ⟨hs9⟩⟩
    case rest =>
      obtain ⟨bb, G0, p0, G1, p1, G2, p2, rfl, rfl, HG, HU, HBX, HBB9⟩ := hcut
      obtain ⟨we, hwe⟩ : ∃ v, v = wc := ⟨_, rfl⟩
      subst hwe
      replace HB := Hd.mk (below_step HB.out HBX.out)
      replace HE := Hd.mk (HE.out.below HBX.out)
      replace HO := Hd.mk (Kd.C_below HO.out HBX.out)
      replace HY := Hd.mk (blk_below HY.out HBX.out)
      replace HC := Hd.mk (HC.out.below HBX.out)
      replace HL := Hd.mk (HL.out.below HBX.out)
      replace HR := Hd.mk (Kd.C_below HR.out HBX.out)
      replace HCO := Hd.mk (Kd.C_below HCO.out HBX.out)
      replace HW := Hd.mk (blk_below HW.out HBX.out)
      replace HT := Hd.mk (blk_below HT.out HBX.out)
      replace HA := Hd.mk (blk_below HA.out HBX.out)
      have cHY0 := blk_cell HY.out 0
      have cHY1 := blk_cell HY.out 1
      have cHY2 := blk_cell HY.out 2
      have cHW0 := blk_cell HW.out 0
      have cHW1 := blk_cell HW.out 1
      have cHW2 := blk_cell HW.out 2
      have cHT0 := blk_cell HT.out 0
      have cHT1 := blk_cell HT.out 1
      have cHT2 := blk_cell HT.out 2
      have cHA0 := blk_cell HA.out 0
      have cHA1 := blk_cell HA.out 1
      have cHA2 := blk_cell HA.out 2
      have cHU0 := blk_cell HU.out 0
      have cHU1 := blk_cell HU.out 1
      have cHU2 := blk_cell HU.out 2
      simp at cHY0 cHY1 cHY2 cHW0 cHW1 cHW2 cHT0 cHT1 cHT2 cHA0 cHA1 cHA2 cHU0 cHU1 cHU2
      have HG2 : Hd (Ed3 we wd.heap.size (fun k => wd.heap.size ≤ k) (.slice G0 n0.length p0) (.slice G1 n1.length p1) (.slice G2 n2.length p2) n0 n1 n2) := ⟨HG.out.mono (fun k _ h _ => h)⟩
      have HD2 : Hd (Ed3 we w3.heap.size (fun k => k < wd.heap.size) (.slice E0 n0.length f0) (.slice E1 n1.length f1) (.slice E2 n2.length f2) n0 n1 n2) := ⟨(HD.out.mono (q := fun k => k < wd.heap.size) (fun k _ _ h => h)).below HBX.out⟩
      have HC2 := Hd.mk (HCa.out.step (w' := we) (fun k hk _ => ((HBX.out.block k (by have := HBW.out.size; omega)).trans (HBW.out.block k hk))))
      have HBY := Hd.mk (below_step HBW.out HBX.out)
      go_wp2_with fail
      refine (num_c n3 _).mono ?_
      rintro e w5 ⟨rfl, rfl⟩
      go_wp2_with fail
      refine (num_c n3 _).mono ?_
      rintro e w5 ⟨rfl, rfl⟩
      have hl := HLN.out
      have HOWN := Hd.mk (own_c HBY.out HD2.out HG2.out HC2.out (by omega) (by omega) (by omega))
      clear hl
      go_wp2_with fail
      refine HOWN.out.mono ?_
      rintro e w6 ⟨rfl, hb6⟩
      clear cHY0 cHY1 cHY2 cHW0 cHW1 cHW2 cHT0 cHT1 cHT2 cHA0 cHA1 cHA2 cHU0 cHU1 cHU2
      clear HB HE HO HY HC HW HL HT HR HCO HA HU HD HG HD2 HG2 HC2 HCa HOWN HBW HBX HBY HREV
      have HL := Hd.mk (HLa.out.below hb6)
      have HE := Hd.mk (HEa.out.below hb6)
      have HO := Hd.mk (Kd.C_below HOa.out hb6)
      have HR := Hd.mk (Kd.C_below HRa.out hb6)
      have HCO := Hd.mk (Kd.C_below HCOa.out hb6)
      have HY := Hd.mk (blk_below HYa.out hb6)
      have HT := Hd.mk (blk_below HTa.out hb6)
      have HB := Hd.mk (below_step HBa.out hb6)
      clear HLa HEa HOa HRa HCOa HYa HTa HBa hb6
      have cHY0 := blk_cell HY.out 0
      have cHY1 := blk_cell HY.out 1
      have cHY2 := blk_cell HY.out 2
      have cHT0 := blk_cell HT.out 0
      have cHT1 := blk_cell HT.out 1
      have cHT2 := blk_cell HT.out 2
      simp at cHY0 cHY1 cHY2 cHT0 cHT1 cHT2
      go_wp2_with fail
      refine (kept_c HL.out HE.out).mono ?_
      rintro e w7 ⟨rfl, hb7⟩
      clear cHY0 cHY1 cHY2 cHT0 cHT1 cHT2
      replace HB := Hd.mk (below_step HB.out hb7)
      replace HE := Hd.mk (HE.out.below hb7)
      replace HL := Hd.mk (HL.out.below hb7)
      replace HO := Hd.mk (Kd.C_below HO.out hb7)
      replace HR := Hd.mk (Kd.C_below HR.out hb7)
      replace HCO := Hd.mk (Kd.C_below HCO.out hb7)
      replace HY := Hd.mk (blk_below HY.out hb7)
      replace HT := Hd.mk (blk_below HT.out hb7)
      have cHY0 := blk_cell HY.out 0
      have cHY1 := blk_cell HY.out 1
      have cHY2 := blk_cell HY.out 2
      have cHT0 := blk_cell HT.out 0
      have cHT1 := blk_cell HT.out 1
      have cHT2 := blk_cell HT.out 2
      simp at cHY0 cHY1 cHY2 cHT0 cHT1 cHT2
      clear hb7
      go_wp2_with fail
      refine (same_c' HCO.out hcr1 HO.out HOC.out).mono ?_
      rintro e w8 ⟨rfl, hb8⟩
      clear cHY0 cHY1 cHY2 cHT0 cHT1 cHT2
      replace HB := Hd.mk (below_step HB.out hb8)
      replace HE := Hd.mk (HE.out.below hb8)
      replace HL := Hd.mk (HL.out.below hb8)
      replace HO := Hd.mk (Kd.C_below HO.out hb8)
      replace HR := Hd.mk (Kd.C_below HR.out hb8)
      replace HCO := Hd.mk (Kd.C_below HCO.out hb8)
      replace HY := Hd.mk (blk_below HY.out hb8)
      replace HT := Hd.mk (blk_below HT.out hb8)
      have cHY0 := blk_cell HY.out 0
      have cHY1 := blk_cell HY.out 1
      have cHY2 := blk_cell HY.out 2
      have cHT0 := blk_cell HT.out 0
      have cHT1 := blk_cell HT.out 1
      have cHT2 := blk_cell HT.out 2
      simp at cHY0 cHY1 cHY2 cHT0 cHT1 cHT2
      clear hb8
      obtain ⟨ad, e10, g0⟩ := Kd.at_int HR.out (old.length : Int) (by omega) (by simp <;> omega)
      subst e10
      rw [Int.toNat_natCast] at g0
      have hr0 : rd (old ++ [91, 92]) (old.length : Int) = 91 := by simp [rd]
      rw [hr0] at g0
      go_wp2_with fail
      refine (awake_c _).mono ?_
      rintro e w9 ⟨rfl, hb9⟩
      have H9 := Hd.mk (below_step HB.out hb9)
      clear hb9
      go_wp2
      go_ret
      exact ⟨by simp, H9.out⟩
end Go.Proofs.Ytemlbjpefomboaa
