/- edit: the walk of EditComposes. -/
import Derived.Test.YtemlbjpefomboaaLe
import Derived.Test.YtemlbjpefomboaaRq
import Derived.Test.YtemlbjpefomboaaLs
import Derived.Test.YtemlbjpefomboaaFi
import Derived.Test.YtemlbjpefomboaaOe
namespace Go.Proofs.Ytemlbjpefomboaa
open Go.RowKit Go.Shelf Go.Proofs.YtemlbjpefomboaaW.PrintWords Go.Proofs.YtemlbjpefomboaaW.PrintLast Go.Proofs.YtemlbjpefomboaaW.PrintMore Go.Proofs.Ytemlbjpefomboaa.Pr
set_option linter.unusedVariables false
set_option linter.unusedSimpArgs false
theorem composeE_len (st : List S80) (d x : List Int) (sb : List S80) (db xb : List Int) : (composeE st d x sb db xb).1.length ≤ 16777217 ∧ (composeE st d x sb db xb).2.1.length ≤ 16777216 ∧ (composeE st d x sb db xb).2.2.1.length ≤ 16777216 := by
  unfold composeE
  split
  · simp
  split
  · simp
  rename_i h1 h2
  split
  · simp
  have h2 := og_fit (st := sb) (d := db) (x := xb) (by omega)
  generalize hL : (og sb db xb 0).map (cmp1 (og st d x 0)) = L
  have hl : L.length ≤ 16777216 := by rw [← hL, List.length_map]; exact h2
  unfold normOf
  cases h : tks L ts0 with
  | none => simp [nrm]
  | some t =>
    have hv := vt_tks L L.length t (Nat.le_refl _) (by rw [List.take_length]; exact h)
    have hd := hv.d
    have hx := hv.x
    have h1 := hv.n
    have h2 : t.cu.toList.length ≤ 1 := by cases t.cu <;> simp
    refine ⟨?_, by simp only [nrm]; omega, by simp only [nrm]; omega⟩
    simp only [nrm, TS.st, List.length_append]
    omega
set_option maxRecDepth 100000 in
set_option maxHeartbeats 8000000 in
theorem walk_editComposes (A0 : Option Addr) (c0 : Nat) (st : List S80) (A1 : Option Addr) (c1 : Nat) (d : List Int) (A2 : Option Addr) (c2 : Nat) (x : List Int)
    (D0 : Option Addr) (g0 : Nat) (sb : List S80) (D1 : Option Addr) (g1 : Nat) (db : List Int) (D2 : Option Addr) (g2 : Nat) (xb : List Int) (w : World)
    (H : EdI w A0 c0 st A1 c1 d A2 c2 x ∧ st.length ≤ 1048576 ∧ d.length ≤ 1048576 ∧ x.length ≤ 1048576)
    (H2 : EdI w D0 g0 sb D1 g1 db D2 g2 xb ∧ sb.length ≤ 1048576 ∧ db.length ≤ 1048576 ∧ xb.length ≤ 1048576) :
    Calls Try.prog 14 #[.agg #[.slice A0 st.length c0, .slice A1 d.length c1, .slice A2 x.length c2], .agg #[.slice D0 sb.length g0, .slice D1 db.length g1, .slice D2 xb.length g2]] w fun e w' => e = .returned (.bool true) ∧ Below w.heap.size w w' := by
  obtain ⟨⟨hE, _, _, _⟩, hf, hdl, hxl⟩ := H
  obtain ⟨⟨hG, _, _, _⟩, hfb, hdb, hxb⟩ := H2
  have hb0 : Below w.heap.size w ((w.alloc (.cells #[.slice A0 st.length c0, .slice A1 d.length c1, .slice A2 x.length c2] 28)).alloc (.cells #[.slice D0 sb.length g0, .slice D1 db.length g1, .slice D2 xb.length g2] 28)) :=
    ((Below.refl _ _).alloc (Nat.le_refl _) _).alloc (by simp) _
  have hV : ((w.alloc (.cells #[.slice A0 st.length c0, .slice A1 d.length c1, .slice A2 x.length c2] 28)).alloc (.cells #[.slice D0 sb.length g0, .slice D1 db.length g1, .slice D2 xb.length g2] 28)).heap[w.heap.size + 1]? = some (.cells #[.slice D0 sb.length g0, .slice D1 db.length g1, .slice D2 xb.length g2] 28 (0, 0)) := by
    have := blk_new (w.alloc (.cells #[.slice A0 st.length c0, .slice A1 d.length c1, .slice A2 x.length c2] 28)) (.cells #[.slice D0 sb.length g0, .slice D1 db.length g1, .slice D2 xb.length g2] 28)
    rw [World.size_alloc] at this
    exact this
  have HE := Hd.mk (hE.below hb0)
  have HG := Hd.mk (hG.below hb0)
  have HB := Hd.mk hb0
  have HY := Hd.mk (blk_alloc (blk_new w (.cells #[.slice A0 st.length c0, .slice A1 d.length c1, .slice A2 x.length c2] 28)) (.cells #[.slice D0 sb.length g0, .slice D1 db.length g1, .slice D2 xb.length g2] 28))
  have HV := Hd.mk hV
  have HF := Hd.mk (And.intro (And.intro hf (And.intro hdl hxl)) (And.intro hfb (And.intro hdb hxb)))
  have hrn := rcompose_c HE.out HG.out hf hfb
  have hln := composeE_len st d x sb db xb
  obtain ⟨⟨n0, n1, n2, n3⟩, hq⟩ : ∃ q, composeE st d x sb db xb = q := ⟨_, rfl⟩
  rw [hq] at hrn hln
  simp only at hln
  have HQ := Hd.mk hq
  have HRN := Hd.mk hrn
  have HLN := Hd.mk hln
  clear hb0 hE hG hV hf hdl hxl hfb hdb hxb hrn hq hln
  unfold EdV at HRN
  go_enter Try.func14, Try.ntmps14
  go_wp2_with fail
  refine HRN.out.mono ?_
  intro e w1 hN
  obtain ⟨C0, h0, C1, h1, C2, h2, rfl, hC, hb1⟩ := hN.ed3
  simp only
  have HC := Hd.mk hC
  clear HRN hC hN
  replace HB := Hd.mk (below_step HB.out hb1)
  replace HE := Hd.mk (HE.out.below hb1)
  replace HG := Hd.mk (HG.out.below hb1)
  replace HY := Hd.mk (blk_below HY.out hb1)
  replace HV := Hd.mk (blk_below HV.out hb1)
  clear hb1
  go_upto_region 2 with fail
  have hbA : Below w1.heap.size w1 (w1.alloc (.cells #[.slice C0 n0.length h0, .slice C1 n1.length h1, .slice C2 n2.length h2] 28)) := (Below.refl _ _).alloc (Nat.le_refl _) _
  have hlt1 := blk_lt HV.out
  replace HB := Hd.mk (below_step HB.out hbA)
  replace HE := Hd.mk (HE.out.below hbA)
  replace HG := Hd.mk (HG.out.below hbA)
  replace HY := Hd.mk (blk_below HY.out hbA)
  replace HV := Hd.mk (blk_below HV.out hbA)
  replace HC := Hd.mk (HC.out.below hbA)
  have HW := Hd.mk (blk_new w1 (.cells #[.slice C0 n0.length h0, .slice C1 n1.length h1, .slice C2 n2.length h2] 28))
  clear hbA hlt1
  obtain ⟨wa, hwa⟩ : ∃ w_, w1.alloc (.cells #[.slice C0 n0.length h0, .slice C1 n1.length h1, .slice C2 n2.length h2] 28) = w_ := ⟨_, rfl⟩
  rw [hwa] at HB HE HG HY HV HW HC ⊢
  obtain ⟨bw, hbw⟩ : ∃ b, w1.heap.size = b := ⟨_, rfl⟩
  rw [hbw] at HW ⊢
  clear hwa hbw
  go_cut [7, 8] (fun v7 v8 W => ∃ b7 b8 K0 k0 K1 k1 K2 k2 M0 m0 M1 m1 M2 m2, v7 = .pointer (some ⟨b7, 0, none⟩) ∧ v8 = .pointer (some ⟨b8, 0, none⟩) ∧ Hd (Lent W K0 k0 st K1 k1 d K2 k2 x) ∧ Hd (Lent W M0 m0 sb M1 m1 db M2 m2 xb) ∧
    Hd (W.heap[b7]? = some (.cells #[.slice K0 st.length k0, .slice K1 d.length k1, .slice K2 x.length k2] 28 (0, 0))) ∧ Hd (W.heap[b8]? = some (.cells #[.slice M0 sb.length m0, .slice M1 db.length m1, .slice M2 xb.length m2] 28 (0, 0))) ∧ Hd (Below wa.heap.size wa W))
  case first =>
    have HB0 : Hd (Below wa.drew.heap.size wa.drew wa.drew) := ⟨Below.refl _ _⟩
    replace HB := Hd.mk (below_step HB.out (Below.drew' wa))
    replace HE := Hd.mk (HE.out.below (Below.drew' wa))
    replace HG := Hd.mk (HG.out.below (Below.drew' wa))
    replace HY := Hd.mk (blk_below HY.out (Below.drew' wa))
    replace HV := Hd.mk (blk_below HV.out (Below.drew' wa))
    replace HC := Hd.mk (HC.out.below (Below.drew' wa))
    replace HW := Hd.mk (blk_below HW.out (Below.drew' wa))
    have ca0 : wa.drew.cell? ⟨w.heap.size, 0, none⟩ = some (.slice A0 st.length c0) := (blk_cell HY.out 0).trans rfl
    have ca1 : wa.drew.cell? ⟨w.heap.size, 1, none⟩ = some (.slice A1 d.length c1) := (blk_cell HY.out 1).trans rfl
    have ca2 : wa.drew.cell? ⟨w.heap.size, 2, none⟩ = some (.slice A2 x.length c2) := (blk_cell HY.out 2).trans rfl
    have cb0 : wa.drew.cell? ⟨w.heap.size + 1, 0, none⟩ = some (.slice D0 sb.length g0) := (blk_cell HV.out 0).trans rfl
    have cb1 : wa.drew.cell? ⟨w.heap.size + 1, 1, none⟩ = some (.slice D1 db.length g1) := (blk_cell HV.out 1).trans rfl
    have cb2 : wa.drew.cell? ⟨w.heap.size + 1, 2, none⟩ = some (.slice D2 xb.length g2) := (blk_cell HV.out 2).trans rfl
    have hS6 := And.intro ca0 (And.intro ca1 (And.intro ca2 (And.intro cb0 (And.intro cb1 cb2))))
    clear ca0 ca1 ca2 cb0 cb1 cb2
    obtain ⟨⟨hf, hdl, hxl⟩, hfb, hdb, hxb⟩ := HF.out
    obtain ⟨wb, hwb⟩ : ∃ v, wa.drew = v := ⟨_, rfl⟩
    clear HY HV HW HC HB HLN HQ HF
    refine start_ (n := 8) (S := fun w' => w'.cell? ⟨w.heap.size, 0, none⟩ = some (.slice A0 st.length c0) ∧ w'.cell? ⟨w.heap.size, 1, none⟩ = some (.slice A1 d.length c1) ∧ w'.cell? ⟨w.heap.size, 2, none⟩ = some (.slice A2 x.length c2) ∧ w'.cell? ⟨(w.heap.size + 1), 0, none⟩ = some (.slice D0 sb.length g0) ∧ w'.cell? ⟨(w.heap.size + 1), 1, none⟩ = some (.slice D1 db.length g1) ∧ w'.cell? ⟨(w.heap.size + 1), 2, none⟩ = some (.slice D2 xb.length g2)) (ds := [6, 7]) #[false, false, false, false, false, false, false, false] (by kernel_rfl) rfl rfl hS6 (fun hHeld => ?_)
    rw [hwb] at HE HG HB0 hS6 hHeld ⊢
    refine take_ (i := 0) (N := some 19) (v := ?_) (a' := ?_) #[true, false, false, false, false, false, false, false] rfl rfl (by kernel_rfl) (fun _ _ _ h => h) (Or.inl ⟨by rfl, ?_⟩) hHeld ?_ ?_
    rotate_left
    · rintro w' ⟨s0, s1, s2, s3, s4, s5⟩
      go_simp
      with_reducible rfl
    rotate_left
    · simp only [Act.put, List.setIfInBounds_toArray, List.set_cons_zero, List.set_cons_succ, i64_w, i32_w]
      rfl
    refine take_ (i := 2) (N := some 21) (v := ?_) (a' := ?_) #[true, false, true, false, false, false, false, false] rfl rfl (by kernel_rfl) (fun _ _ _ h => h) (Or.inl ⟨by rfl, ?_⟩) hHeld ?_ ?_
    rotate_left
    · rintro w' ⟨s0, s1, s2, s3, s4, s5⟩
      go_simp
      with_reducible rfl
    rotate_left
    · simp only [Act.put, List.setIfInBounds_toArray, List.set_cons_zero, List.set_cons_succ, i64_w, i32_w]
      rfl
    refine three_ (i := 1) (j := 4) (k := 5) (Ni := some 20) (Nj := some 7) (Nk := some 8) #[true, true, true, false, false, false, false, false] #[true, false, true, false, true, false, false, false] #[true, false, true, false, false, true, false, false] rfl rfl rfl rfl rfl rfl (by kernel_rfl) (by decide) (by decide) (by decide) (fun K hK => ?_) (fun K hK => ?_) (fun K hK => ?_)
    · skip
      refine goes_ Try.func23 (by kernel_rfl) rfl #[.agg #[.slice A0 st.length c0, .slice A1 d.length c1, .slice A2 x.length c2]] (by rfl) rfl rfl (by simp only [List.map_toArray, List.map_cons, List.map_nil]; rfl) ?_
      refine (lend_c A0 c0 st A1 c1 d A2 c2 x _ (HE.out.below HB0.out) (by omega) (by omega) (by omega)).mono ?_
      rintro e wv1 ⟨K0, k0, K1, k1, K2, k2, rfl, hL, hbn⟩
      refine ⟨_, rfl, ?_⟩
      unfold EdV
      have HB1 := Hd.mk (below_step HB0.out hbn)
      have HL1 := Hd.mk hL
      clear hL hbn
      refine hK.out _ _ (far6 HB1.out hS6) (fun hHeld => ?_)
      clear hK K
      refine norm_ (a' := ?_) ?_ ?_
      rotate_left
      · show Act.put _ (some 20) _ = _
        simp only [Act.put, List.setIfInBounds_toArray, List.set_cons_zero, List.set_cons_succ, i64_w, i32_w]
        rfl
      refine three_ (i := 3) (j := 4) (k := 5) (Ni := some 22) (Nj := some 7) (Nk := some 8) #[true, true, true, true, false, false, false, false] #[true, true, true, false, true, false, false, false] #[true, true, true, false, false, true, false, false] rfl rfl rfl rfl rfl rfl (by kernel_rfl) (by decide) (by decide) (by decide) (fun K hK => ?_) (fun K hK => ?_) (fun K hK => ?_)
      · skip
        refine goes_ Try.func23 (by kernel_rfl) rfl #[.agg #[.slice D0 sb.length g0, .slice D1 db.length g1, .slice D2 xb.length g2]] (by rfl) rfl rfl (by simp only [List.map_toArray, List.map_cons, List.map_nil]; rfl) ?_
        refine (lend_c D0 g0 sb D1 g1 db D2 g2 xb _ (HG.out.below HB1.out) (by omega) (by omega) (by omega)).mono ?_
        rintro e wv2 ⟨M0, m0, M1, m1, M2, m2, rfl, hL, hbn⟩
        refine ⟨_, rfl, ?_⟩
        unfold EdV
        have HB2 := Hd.mk (below_step HB1.out hbn)
        replace HL1 := Hd.mk (HL1.out.below hbn)
        have HL3 := Hd.mk hL
        clear hL hbn
        refine hK.out _ _ (far6 HB2.out hS6) (fun hHeld => ?_)
        clear hK K
        refine norm_ (a' := ?_) ?_ ?_
        rotate_left
        · show Act.put _ (some 22) _ = _
          simp only [Act.put, List.setIfInBounds_toArray, List.set_cons_zero, List.set_cons_succ, i64_w, i32_w]
          rfl
        refine two_ (i := 4) (j := 5) (Ni := some 7) (Nj := some 8) #[true, true, true, true, true, false, false, false] #[true, true, true, true, false, true, false, false] rfl rfl rfl rfl (by kernel_rfl) (by decide) (by decide) (fun K hK => ?_) (fun K hK => ?_)
        · skip
          refine value_ (w1 := ?_) (v := ?_) (by rfl) rfl ?_ ?_
          rotate_left 2
          · go_simp
            constructor
            · rfl
            · rfl
          have hsz := HB2.out.size
          obtain ⟨b7, wv3, hb7, hw3, hbn, hnw⟩ := newbox wv2
          have hsb : wb.heap.size ≤ b7 := by omega
          rw [hw3, ← hb7]
          have HB3 := Hd.mk (below_step HB2.out hbn)
          replace HL1 := Hd.mk (HL1.out.below hbn)
          replace HL3 := Hd.mk (HL3.out.below hbn)
          have H7 := Hd.mk hnw
          clear hbn hnw hw3 hb7 hsz
          refine hK.out _ _ (far6 HB3.out hS6) (fun hHeld => ?_)
          clear hK K
          refine norm_ (a' := ?_) ?_ ?_
          rotate_left
          · show Act.put _ (some 7) _ = _
            simp only [Act.put, List.setIfInBounds_toArray, List.set_cons_zero, List.set_cons_succ, i64_w, i32_w]
            rfl
          refine one_ (i := 5) (N := some 8) #[true, true, true, true, true, true, false, false] rfl rfl (by kernel_rfl) (by decide) (fun K hK => ?_)
          refine value_ (w1 := ?_) (v := ?_) (by rfl) rfl ?_ ?_
          rotate_left 2
          · go_simp
            constructor
            · rfl
            · rfl
          have hsz := HB3.out.size
          have hlt := blk_lt H7.out
          obtain ⟨b8, wv4, hb8, hw4, hbn, hnw⟩ := newbox wv3
          have hsd : wb.heap.size ≤ b8 := by omega
          have hne : b7 ≠ b8 := by omega
          rw [hw4, ← hb8]
          have HB4 := Hd.mk (below_step HB3.out hbn)
          replace HL1 := Hd.mk (HL1.out.below hbn)
          replace HL3 := Hd.mk (HL3.out.below hbn)
          replace H7 := Hd.mk (blk_below H7.out hbn)
          have H8 := Hd.mk hnw
          clear hbn hnw hw4 hb8 hsz hlt
          refine hK.out _ _ (far6 HB4.out hS6) (fun hHeld => ?_)
          clear hK K
          refine norm_ (a' := ?_) ?_ ?_
          rotate_left
          · show Act.put _ (some 8) _ = _
            simp only [Act.put, List.setIfInBounds_toArray, List.set_cons_zero, List.set_cons_succ, i64_w, i32_w]
            rfl
          obtain ⟨q0, q1, q2, f0, f1, f2⟩ := none3 H7.out
          obtain ⟨r0, r1, r2, e0, e1, e2⟩ := none3 H8.out
          refine last_ (i := 6) (N := none) #[true, true, true, true, true, true, true, false] rfl rfl (by kernel_rfl) (by decide) (fun K hK => ?_)
          refine skip_ (w1 := ?_) (by rfl) rfl ?_ ?_
          rotate_left
          · go_simp
            rfl
          refine hK.out _ _ ?_
          clear hK K
          refine last_ (i := 7) (N := none) #[true, true, true, true, true, true, true, true] rfl rfl (by kernel_rfl) (by decide) (fun K hK => ?_)
          refine skip_ (w1 := ?_) (by rfl) rfl ?_ ?_
          rotate_left
          · go_simp
            rfl
          refine hK.out _ _ ?_
          clear hK K
          refine done_ (by kernel_rfl) ?_
          clear hHeld hS6 q0 q1 q2 f0 f1 f2 r0 r1 r2 e0 e1 e2
          go_wp2_with fail
          go_meet
          case rel =>
            obtain ⟨W', hW', g1, g2, g3, g4, g5⟩ := two_stored H7.out H8.out hne HL1.out HL3.out HB4.out hsb hsd
            rw [hW']
            subst hwb
            exact ⟨b7, b8, _, _, _, _, _, _, _, _, _, _, _, _, rfl, rfl, ⟨g1⟩, ⟨g2⟩, ⟨g3⟩, ⟨g4⟩, ⟨(Below.drew' wa).trans g5⟩⟩
        · skip
          refine value_ (w1 := ?_) (v := ?_) (by rfl) rfl ?_ ?_
          rotate_left 2
          · go_simp
            constructor
            · rfl
            · rfl
          have hsz := HB2.out.size
          obtain ⟨b8, wv3, hb8, hw3, hbn, hnw⟩ := newbox wv2
          have hsd : wb.heap.size ≤ b8 := by omega
          rw [hw3, ← hb8]
          have HB3 := Hd.mk (below_step HB2.out hbn)
          replace HL1 := Hd.mk (HL1.out.below hbn)
          replace HL3 := Hd.mk (HL3.out.below hbn)
          have H8 := Hd.mk hnw
          clear hbn hnw hw3 hb8 hsz
          refine hK.out _ _ (far6 HB3.out hS6) (fun hHeld => ?_)
          clear hK K
          refine norm_ (a' := ?_) ?_ ?_
          rotate_left
          · show Act.put _ (some 8) _ = _
            simp only [Act.put, List.setIfInBounds_toArray, List.set_cons_zero, List.set_cons_succ, i64_w, i32_w]
            rfl
          refine one_ (i := 4) (N := some 7) #[true, true, true, true, true, true, false, false] rfl rfl (by kernel_rfl) (by decide) (fun K hK => ?_)
          refine value_ (w1 := ?_) (v := ?_) (by rfl) rfl ?_ ?_
          rotate_left 2
          · go_simp
            constructor
            · rfl
            · rfl
          have hsz := HB3.out.size
          have hlt := blk_lt H8.out
          obtain ⟨b7, wv4, hb7, hw4, hbn, hnw⟩ := newbox wv3
          have hsb : wb.heap.size ≤ b7 := by omega
          have hne : b7 ≠ b8 := by omega
          rw [hw4, ← hb7]
          have HB4 := Hd.mk (below_step HB3.out hbn)
          replace HL1 := Hd.mk (HL1.out.below hbn)
          replace HL3 := Hd.mk (HL3.out.below hbn)
          replace H8 := Hd.mk (blk_below H8.out hbn)
          have H7 := Hd.mk hnw
          clear hbn hnw hw4 hb7 hsz hlt
          refine hK.out _ _ (far6 HB4.out hS6) (fun hHeld => ?_)
          clear hK K
          refine norm_ (a' := ?_) ?_ ?_
          rotate_left
          · show Act.put _ (some 7) _ = _
            simp only [Act.put, List.setIfInBounds_toArray, List.set_cons_zero, List.set_cons_succ, i64_w, i32_w]
            rfl
          obtain ⟨q0, q1, q2, f0, f1, f2⟩ := none3 H7.out
          obtain ⟨r0, r1, r2, e0, e1, e2⟩ := none3 H8.out
          refine last_ (i := 6) (N := none) #[true, true, true, true, true, true, true, false] rfl rfl (by kernel_rfl) (by decide) (fun K hK => ?_)
          refine skip_ (w1 := ?_) (by rfl) rfl ?_ ?_
          rotate_left
          · go_simp
            rfl
          refine hK.out _ _ ?_
          clear hK K
          refine last_ (i := 7) (N := none) #[true, true, true, true, true, true, true, true] rfl rfl (by kernel_rfl) (by decide) (fun K hK => ?_)
          refine skip_ (w1 := ?_) (by rfl) rfl ?_ ?_
          rotate_left
          · go_simp
            rfl
          refine hK.out _ _ ?_
          clear hK K
          refine done_ (by kernel_rfl) ?_
          clear hHeld hS6 q0 q1 q2 f0 f1 f2 r0 r1 r2 e0 e1 e2
          go_wp2_with fail
          go_meet
          case rel =>
            obtain ⟨W', hW', g1, g2, g3, g4, g5⟩ := two_stored H7.out H8.out hne HL1.out HL3.out HB4.out hsb hsd
            rw [hW']
            subst hwb
            exact ⟨b7, b8, _, _, _, _, _, _, _, _, _, _, _, _, rfl, rfl, ⟨g1⟩, ⟨g2⟩, ⟨g3⟩, ⟨g4⟩, ⟨(Below.drew' wa).trans g5⟩⟩
      · skip
        refine value_ (w1 := ?_) (v := ?_) (by rfl) rfl ?_ ?_
        rotate_left 2
        · go_simp
          constructor
          · rfl
          · rfl
        have hsz := HB1.out.size
        obtain ⟨b7, wv2, hb7, hw2, hbn, hnw⟩ := newbox wv1
        have hsb : wb.heap.size ≤ b7 := by omega
        rw [hw2, ← hb7]
        have HB2 := Hd.mk (below_step HB1.out hbn)
        replace HL1 := Hd.mk (HL1.out.below hbn)
        have H7 := Hd.mk hnw
        clear hbn hnw hw2 hb7 hsz
        refine hK.out _ _ (far6 HB2.out hS6) (fun hHeld => ?_)
        clear hK K
        refine norm_ (a' := ?_) ?_ ?_
        rotate_left
        · show Act.put _ (some 7) _ = _
          simp only [Act.put, List.setIfInBounds_toArray, List.set_cons_zero, List.set_cons_succ, i64_w, i32_w]
          rfl
        refine two_ (i := 3) (j := 5) (Ni := some 22) (Nj := some 8) #[true, true, true, true, true, false, false, false] #[true, true, true, false, true, true, false, false] rfl rfl rfl rfl (by kernel_rfl) (by decide) (by decide) (fun K hK => ?_) (fun K hK => ?_)
        · skip
          refine goes_ Try.func23 (by kernel_rfl) rfl #[.agg #[.slice D0 sb.length g0, .slice D1 db.length g1, .slice D2 xb.length g2]] (by rfl) rfl rfl (by simp only [List.map_toArray, List.map_cons, List.map_nil]; rfl) ?_
          refine (lend_c D0 g0 sb D1 g1 db D2 g2 xb _ (HG.out.below HB2.out) (by omega) (by omega) (by omega)).mono ?_
          rintro e wv3 ⟨M0, m0, M1, m1, M2, m2, rfl, hL, hbn⟩
          refine ⟨_, rfl, ?_⟩
          unfold EdV
          have HB3 := Hd.mk (below_step HB2.out hbn)
          replace HL1 := Hd.mk (HL1.out.below hbn)
          replace H7 := Hd.mk (blk_below H7.out hbn)
          have HL3 := Hd.mk hL
          clear hL hbn
          refine hK.out _ _ (far6 HB3.out hS6) (fun hHeld => ?_)
          clear hK K
          refine norm_ (a' := ?_) ?_ ?_
          rotate_left
          · show Act.put _ (some 22) _ = _
            simp only [Act.put, List.setIfInBounds_toArray, List.set_cons_zero, List.set_cons_succ, i64_w, i32_w]
            rfl
          refine one_ (i := 5) (N := some 8) #[true, true, true, true, true, true, false, false] rfl rfl (by kernel_rfl) (by decide) (fun K hK => ?_)
          refine value_ (w1 := ?_) (v := ?_) (by rfl) rfl ?_ ?_
          rotate_left 2
          · go_simp
            constructor
            · rfl
            · rfl
          have hsz := HB3.out.size
          have hlt := blk_lt H7.out
          obtain ⟨b8, wv4, hb8, hw4, hbn, hnw⟩ := newbox wv3
          have hsd : wb.heap.size ≤ b8 := by omega
          have hne : b7 ≠ b8 := by omega
          rw [hw4, ← hb8]
          have HB4 := Hd.mk (below_step HB3.out hbn)
          replace HL1 := Hd.mk (HL1.out.below hbn)
          replace H7 := Hd.mk (blk_below H7.out hbn)
          replace HL3 := Hd.mk (HL3.out.below hbn)
          have H8 := Hd.mk hnw
          clear hbn hnw hw4 hb8 hsz hlt
          refine hK.out _ _ (far6 HB4.out hS6) (fun hHeld => ?_)
          clear hK K
          refine norm_ (a' := ?_) ?_ ?_
          rotate_left
          · show Act.put _ (some 8) _ = _
            simp only [Act.put, List.setIfInBounds_toArray, List.set_cons_zero, List.set_cons_succ, i64_w, i32_w]
            rfl
          obtain ⟨q0, q1, q2, f0, f1, f2⟩ := none3 H7.out
          obtain ⟨r0, r1, r2, e0, e1, e2⟩ := none3 H8.out
          refine last_ (i := 6) (N := none) #[true, true, true, true, true, true, true, false] rfl rfl (by kernel_rfl) (by decide) (fun K hK => ?_)
          refine skip_ (w1 := ?_) (by rfl) rfl ?_ ?_
          rotate_left
          · go_simp
            rfl
          refine hK.out _ _ ?_
          clear hK K
          refine last_ (i := 7) (N := none) #[true, true, true, true, true, true, true, true] rfl rfl (by kernel_rfl) (by decide) (fun K hK => ?_)
          refine skip_ (w1 := ?_) (by rfl) rfl ?_ ?_
          rotate_left
          · go_simp
            rfl
          refine hK.out _ _ ?_
          clear hK K
          refine done_ (by kernel_rfl) ?_
          clear hHeld hS6 q0 q1 q2 f0 f1 f2 r0 r1 r2 e0 e1 e2
          go_wp2_with fail
          go_meet
          case rel =>
            obtain ⟨W', hW', g1, g2, g3, g4, g5⟩ := two_stored H7.out H8.out hne HL1.out HL3.out HB4.out hsb hsd
            rw [hW']
            subst hwb
            exact ⟨b7, b8, _, _, _, _, _, _, _, _, _, _, _, _, rfl, rfl, ⟨g1⟩, ⟨g2⟩, ⟨g3⟩, ⟨g4⟩, ⟨(Below.drew' wa).trans g5⟩⟩
        · skip
          refine value_ (w1 := ?_) (v := ?_) (by rfl) rfl ?_ ?_
          rotate_left 2
          · go_simp
            constructor
            · rfl
            · rfl
          have hsz := HB2.out.size
          have hlt := blk_lt H7.out
          obtain ⟨b8, wv3, hb8, hw3, hbn, hnw⟩ := newbox wv2
          have hsd : wb.heap.size ≤ b8 := by omega
          have hne : b7 ≠ b8 := by omega
          rw [hw3, ← hb8]
          have HB3 := Hd.mk (below_step HB2.out hbn)
          replace HL1 := Hd.mk (HL1.out.below hbn)
          replace H7 := Hd.mk (blk_below H7.out hbn)
          have H8 := Hd.mk hnw
          clear hbn hnw hw3 hb8 hsz hlt
          refine hK.out _ _ (far6 HB3.out hS6) (fun hHeld => ?_)
          clear hK K
          refine norm_ (a' := ?_) ?_ ?_
          rotate_left
          · show Act.put _ (some 8) _ = _
            simp only [Act.put, List.setIfInBounds_toArray, List.set_cons_zero, List.set_cons_succ, i64_w, i32_w]
            rfl
          refine one_ (i := 3) (N := some 22) #[true, true, true, true, true, true, false, false] rfl rfl (by kernel_rfl) (by decide) (fun K hK => ?_)
          refine goes_ Try.func23 (by kernel_rfl) rfl #[.agg #[.slice D0 sb.length g0, .slice D1 db.length g1, .slice D2 xb.length g2]] (by rfl) rfl rfl (by simp only [List.map_toArray, List.map_cons, List.map_nil]; rfl) ?_
          refine (lend_c D0 g0 sb D1 g1 db D2 g2 xb _ (HG.out.below HB3.out) (by omega) (by omega) (by omega)).mono ?_
          rintro e wv4 ⟨M0, m0, M1, m1, M2, m2, rfl, hL, hbn⟩
          refine ⟨_, rfl, ?_⟩
          unfold EdV
          have HB4 := Hd.mk (below_step HB3.out hbn)
          replace HL1 := Hd.mk (HL1.out.below hbn)
          replace H7 := Hd.mk (blk_below H7.out hbn)
          replace H8 := Hd.mk (blk_below H8.out hbn)
          have HL3 := Hd.mk hL
          clear hL hbn
          refine hK.out _ _ (far6 HB4.out hS6) (fun hHeld => ?_)
          clear hK K
          refine norm_ (a' := ?_) ?_ ?_
          rotate_left
          · show Act.put _ (some 22) _ = _
            simp only [Act.put, List.setIfInBounds_toArray, List.set_cons_zero, List.set_cons_succ, i64_w, i32_w]
            rfl
          obtain ⟨q0, q1, q2, f0, f1, f2⟩ := none3 H7.out
          obtain ⟨r0, r1, r2, e0, e1, e2⟩ := none3 H8.out
          refine last_ (i := 6) (N := none) #[true, true, true, true, true, true, true, false] rfl rfl (by kernel_rfl) (by decide) (fun K hK => ?_)
          refine skip_ (w1 := ?_) (by rfl) rfl ?_ ?_
          rotate_left
          · go_simp
            rfl
          refine hK.out _ _ ?_
          clear hK K
          refine last_ (i := 7) (N := none) #[true, true, true, true, true, true, true, true] rfl rfl (by kernel_rfl) (by decide) (fun K hK => ?_)
          refine skip_ (w1 := ?_) (by rfl) rfl ?_ ?_
          rotate_left
          · go_simp
            rfl
          refine hK.out _ _ ?_
          clear hK K
          refine done_ (by kernel_rfl) ?_
          clear hHeld hS6 q0 q1 q2 f0 f1 f2 r0 r1 r2 e0 e1 e2
          go_wp2_with fail
          go_meet
          case rel =>
            obtain ⟨W', hW', g1, g2, g3, g4, g5⟩ := two_stored H7.out H8.out hne HL1.out HL3.out HB4.out hsb hsd
            rw [hW']
            subst hwb
            exact ⟨b7, b8, _, _, _, _, _, _, _, _, _, _, _, _, rfl, rfl, ⟨g1⟩, ⟨g2⟩, ⟨g3⟩, ⟨g4⟩, ⟨(Below.drew' wa).trans g5⟩⟩
      · skip
        refine value_ (w1 := ?_) (v := ?_) (by rfl) rfl ?_ ?_
        rotate_left 2
        · go_simp
          constructor
          · rfl
          · rfl
        have hsz := HB1.out.size
        obtain ⟨b8, wv2, hb8, hw2, hbn, hnw⟩ := newbox wv1
        have hsd : wb.heap.size ≤ b8 := by omega
        rw [hw2, ← hb8]
        have HB2 := Hd.mk (below_step HB1.out hbn)
        replace HL1 := Hd.mk (HL1.out.below hbn)
        have H8 := Hd.mk hnw
        clear hbn hnw hw2 hb8 hsz
        refine hK.out _ _ (far6 HB2.out hS6) (fun hHeld => ?_)
        clear hK K
        refine norm_ (a' := ?_) ?_ ?_
        rotate_left
        · show Act.put _ (some 8) _ = _
          simp only [Act.put, List.setIfInBounds_toArray, List.set_cons_zero, List.set_cons_succ, i64_w, i32_w]
          rfl
        refine two_ (i := 3) (j := 4) (Ni := some 22) (Nj := some 7) #[true, true, true, true, false, true, false, false] #[true, true, true, false, true, true, false, false] rfl rfl rfl rfl (by kernel_rfl) (by decide) (by decide) (fun K hK => ?_) (fun K hK => ?_)
        · skip
          refine goes_ Try.func23 (by kernel_rfl) rfl #[.agg #[.slice D0 sb.length g0, .slice D1 db.length g1, .slice D2 xb.length g2]] (by rfl) rfl rfl (by simp only [List.map_toArray, List.map_cons, List.map_nil]; rfl) ?_
          refine (lend_c D0 g0 sb D1 g1 db D2 g2 xb _ (HG.out.below HB2.out) (by omega) (by omega) (by omega)).mono ?_
          rintro e wv3 ⟨M0, m0, M1, m1, M2, m2, rfl, hL, hbn⟩
          refine ⟨_, rfl, ?_⟩
          unfold EdV
          have HB3 := Hd.mk (below_step HB2.out hbn)
          replace HL1 := Hd.mk (HL1.out.below hbn)
          replace H8 := Hd.mk (blk_below H8.out hbn)
          have HL3 := Hd.mk hL
          clear hL hbn
          refine hK.out _ _ (far6 HB3.out hS6) (fun hHeld => ?_)
          clear hK K
          refine norm_ (a' := ?_) ?_ ?_
          rotate_left
          · show Act.put _ (some 22) _ = _
            simp only [Act.put, List.setIfInBounds_toArray, List.set_cons_zero, List.set_cons_succ, i64_w, i32_w]
            rfl
          refine one_ (i := 4) (N := some 7) #[true, true, true, true, true, true, false, false] rfl rfl (by kernel_rfl) (by decide) (fun K hK => ?_)
          refine value_ (w1 := ?_) (v := ?_) (by rfl) rfl ?_ ?_
          rotate_left 2
          · go_simp
            constructor
            · rfl
            · rfl
          have hsz := HB3.out.size
          have hlt := blk_lt H8.out
          obtain ⟨b7, wv4, hb7, hw4, hbn, hnw⟩ := newbox wv3
          have hsb : wb.heap.size ≤ b7 := by omega
          have hne : b7 ≠ b8 := by omega
          rw [hw4, ← hb7]
          have HB4 := Hd.mk (below_step HB3.out hbn)
          replace HL1 := Hd.mk (HL1.out.below hbn)
          replace H8 := Hd.mk (blk_below H8.out hbn)
          replace HL3 := Hd.mk (HL3.out.below hbn)
          have H7 := Hd.mk hnw
          clear hbn hnw hw4 hb7 hsz hlt
          refine hK.out _ _ (far6 HB4.out hS6) (fun hHeld => ?_)
          clear hK K
          refine norm_ (a' := ?_) ?_ ?_
          rotate_left
          · show Act.put _ (some 7) _ = _
            simp only [Act.put, List.setIfInBounds_toArray, List.set_cons_zero, List.set_cons_succ, i64_w, i32_w]
            rfl
          obtain ⟨q0, q1, q2, f0, f1, f2⟩ := none3 H7.out
          obtain ⟨r0, r1, r2, e0, e1, e2⟩ := none3 H8.out
          refine last_ (i := 6) (N := none) #[true, true, true, true, true, true, true, false] rfl rfl (by kernel_rfl) (by decide) (fun K hK => ?_)
          refine skip_ (w1 := ?_) (by rfl) rfl ?_ ?_
          rotate_left
          · go_simp
            rfl
          refine hK.out _ _ ?_
          clear hK K
          refine last_ (i := 7) (N := none) #[true, true, true, true, true, true, true, true] rfl rfl (by kernel_rfl) (by decide) (fun K hK => ?_)
          refine skip_ (w1 := ?_) (by rfl) rfl ?_ ?_
          rotate_left
          · go_simp
            rfl
          refine hK.out _ _ ?_
          clear hK K
          refine done_ (by kernel_rfl) ?_
          clear hHeld hS6 q0 q1 q2 f0 f1 f2 r0 r1 r2 e0 e1 e2
          go_wp2_with fail
          go_meet
          case rel =>
            obtain ⟨W', hW', g1, g2, g3, g4, g5⟩ := two_stored H7.out H8.out hne HL1.out HL3.out HB4.out hsb hsd
            rw [hW']
            subst hwb
            exact ⟨b7, b8, _, _, _, _, _, _, _, _, _, _, _, _, rfl, rfl, ⟨g1⟩, ⟨g2⟩, ⟨g3⟩, ⟨g4⟩, ⟨(Below.drew' wa).trans g5⟩⟩
        · skip
          refine value_ (w1 := ?_) (v := ?_) (by rfl) rfl ?_ ?_
          rotate_left 2
          · go_simp
            constructor
            · rfl
            · rfl
          have hsz := HB2.out.size
          have hlt := blk_lt H8.out
          obtain ⟨b7, wv3, hb7, hw3, hbn, hnw⟩ := newbox wv2
          have hsb : wb.heap.size ≤ b7 := by omega
          have hne : b7 ≠ b8 := by omega
          rw [hw3, ← hb7]
          have HB3 := Hd.mk (below_step HB2.out hbn)
          replace HL1 := Hd.mk (HL1.out.below hbn)
          replace H8 := Hd.mk (blk_below H8.out hbn)
          have H7 := Hd.mk hnw
          clear hbn hnw hw3 hb7 hsz hlt
          refine hK.out _ _ (far6 HB3.out hS6) (fun hHeld => ?_)
          clear hK K
          refine norm_ (a' := ?_) ?_ ?_
          rotate_left
          · show Act.put _ (some 7) _ = _
            simp only [Act.put, List.setIfInBounds_toArray, List.set_cons_zero, List.set_cons_succ, i64_w, i32_w]
            rfl
          refine one_ (i := 3) (N := some 22) #[true, true, true, true, true, true, false, false] rfl rfl (by kernel_rfl) (by decide) (fun K hK => ?_)
          refine goes_ Try.func23 (by kernel_rfl) rfl #[.agg #[.slice D0 sb.length g0, .slice D1 db.length g1, .slice D2 xb.length g2]] (by rfl) rfl rfl (by simp only [List.map_toArray, List.map_cons, List.map_nil]; rfl) ?_
          refine (lend_c D0 g0 sb D1 g1 db D2 g2 xb _ (HG.out.below HB3.out) (by omega) (by omega) (by omega)).mono ?_
          rintro e wv4 ⟨M0, m0, M1, m1, M2, m2, rfl, hL, hbn⟩
          refine ⟨_, rfl, ?_⟩
          unfold EdV
          have HB4 := Hd.mk (below_step HB3.out hbn)
          replace HL1 := Hd.mk (HL1.out.below hbn)
          replace H8 := Hd.mk (blk_below H8.out hbn)
          replace H7 := Hd.mk (blk_below H7.out hbn)
          have HL3 := Hd.mk hL
          clear hL hbn
          refine hK.out _ _ (far6 HB4.out hS6) (fun hHeld => ?_)
          clear hK K
          refine norm_ (a' := ?_) ?_ ?_
          rotate_left
          · show Act.put _ (some 22) _ = _
            simp only [Act.put, List.setIfInBounds_toArray, List.set_cons_zero, List.set_cons_succ, i64_w, i32_w]
            rfl
          obtain ⟨q0, q1, q2, f0, f1, f2⟩ := none3 H7.out
          obtain ⟨r0, r1, r2, e0, e1, e2⟩ := none3 H8.out
          refine last_ (i := 6) (N := none) #[true, true, true, true, true, true, true, false] rfl rfl (by kernel_rfl) (by decide) (fun K hK => ?_)
          refine skip_ (w1 := ?_) (by rfl) rfl ?_ ?_
          rotate_left
          · go_simp
            rfl
          refine hK.out _ _ ?_
          clear hK K
          refine last_ (i := 7) (N := none) #[true, true, true, true, true, true, true, true] rfl rfl (by kernel_rfl) (by decide) (fun K hK => ?_)
          refine skip_ (w1 := ?_) (by rfl) rfl ?_ ?_
          rotate_left
          · go_simp
            rfl
          refine hK.out _ _ ?_
          clear hK K
          refine done_ (by kernel_rfl) ?_
          clear hHeld hS6 q0 q1 q2 f0 f1 f2 r0 r1 r2 e0 e1 e2
          go_wp2_with fail
          go_meet
          case rel =>
            obtain ⟨W', hW', g1, g2, g3, g4, g5⟩ := two_stored H7.out H8.out hne HL1.out HL3.out HB4.out hsb hsd
            rw [hW']
            subst hwb
            exact ⟨b7, b8, _, _, _, _, _, _, _, _, _, _, _, _, rfl, rfl, ⟨g1⟩, ⟨g2⟩, ⟨g3⟩, ⟨g4⟩, ⟨(Below.drew' wa).trans g5⟩⟩
    · skip
      refine value_ (w1 := ?_) (v := ?_) (by rfl) rfl ?_ ?_
      rotate_left 2
      · go_simp
        constructor
        · rfl
        · rfl
      have hsz := HB0.out.size
      obtain ⟨b7, wv1, hb7, hw1, hbn, hnw⟩ := newbox wb
      have hsb : wb.heap.size ≤ b7 := by omega
      rw [hw1, ← hb7]
      have HB1 := Hd.mk (below_step HB0.out hbn)
      have H7 := Hd.mk hnw
      clear hbn hnw hw1 hb7 hsz
      refine hK.out _ _ (far6 HB1.out hS6) (fun hHeld => ?_)
      clear hK K
      refine norm_ (a' := ?_) ?_ ?_
      rotate_left
      · show Act.put _ (some 7) _ = _
        simp only [Act.put, List.setIfInBounds_toArray, List.set_cons_zero, List.set_cons_succ, i64_w, i32_w]
        rfl
      refine two_ (i := 1) (j := 5) (Ni := some 20) (Nj := some 8) #[true, true, true, false, true, false, false, false] #[true, false, true, false, true, true, false, false] rfl rfl rfl rfl (by kernel_rfl) (by decide) (by decide) (fun K hK => ?_) (fun K hK => ?_)
      · skip
        refine goes_ Try.func23 (by kernel_rfl) rfl #[.agg #[.slice A0 st.length c0, .slice A1 d.length c1, .slice A2 x.length c2]] (by rfl) rfl rfl (by simp only [List.map_toArray, List.map_cons, List.map_nil]; rfl) ?_
        refine (lend_c A0 c0 st A1 c1 d A2 c2 x _ (HE.out.below HB1.out) (by omega) (by omega) (by omega)).mono ?_
        rintro e wv2 ⟨K0, k0, K1, k1, K2, k2, rfl, hL, hbn⟩
        refine ⟨_, rfl, ?_⟩
        unfold EdV
        have HB2 := Hd.mk (below_step HB1.out hbn)
        replace H7 := Hd.mk (blk_below H7.out hbn)
        have HL1 := Hd.mk hL
        clear hL hbn
        refine hK.out _ _ (far6 HB2.out hS6) (fun hHeld => ?_)
        clear hK K
        refine norm_ (a' := ?_) ?_ ?_
        rotate_left
        · show Act.put _ (some 20) _ = _
          simp only [Act.put, List.setIfInBounds_toArray, List.set_cons_zero, List.set_cons_succ, i64_w, i32_w]
          rfl
        refine two_ (i := 3) (j := 5) (Ni := some 22) (Nj := some 8) #[true, true, true, true, true, false, false, false] #[true, true, true, false, true, true, false, false] rfl rfl rfl rfl (by kernel_rfl) (by decide) (by decide) (fun K hK => ?_) (fun K hK => ?_)
        · skip
          refine goes_ Try.func23 (by kernel_rfl) rfl #[.agg #[.slice D0 sb.length g0, .slice D1 db.length g1, .slice D2 xb.length g2]] (by rfl) rfl rfl (by simp only [List.map_toArray, List.map_cons, List.map_nil]; rfl) ?_
          refine (lend_c D0 g0 sb D1 g1 db D2 g2 xb _ (HG.out.below HB2.out) (by omega) (by omega) (by omega)).mono ?_
          rintro e wv3 ⟨M0, m0, M1, m1, M2, m2, rfl, hL, hbn⟩
          refine ⟨_, rfl, ?_⟩
          unfold EdV
          have HB3 := Hd.mk (below_step HB2.out hbn)
          replace H7 := Hd.mk (blk_below H7.out hbn)
          replace HL1 := Hd.mk (HL1.out.below hbn)
          have HL3 := Hd.mk hL
          clear hL hbn
          refine hK.out _ _ (far6 HB3.out hS6) (fun hHeld => ?_)
          clear hK K
          refine norm_ (a' := ?_) ?_ ?_
          rotate_left
          · show Act.put _ (some 22) _ = _
            simp only [Act.put, List.setIfInBounds_toArray, List.set_cons_zero, List.set_cons_succ, i64_w, i32_w]
            rfl
          refine one_ (i := 5) (N := some 8) #[true, true, true, true, true, true, false, false] rfl rfl (by kernel_rfl) (by decide) (fun K hK => ?_)
          refine value_ (w1 := ?_) (v := ?_) (by rfl) rfl ?_ ?_
          rotate_left 2
          · go_simp
            constructor
            · rfl
            · rfl
          have hsz := HB3.out.size
          have hlt := blk_lt H7.out
          obtain ⟨b8, wv4, hb8, hw4, hbn, hnw⟩ := newbox wv3
          have hsd : wb.heap.size ≤ b8 := by omega
          have hne : b7 ≠ b8 := by omega
          rw [hw4, ← hb8]
          have HB4 := Hd.mk (below_step HB3.out hbn)
          replace H7 := Hd.mk (blk_below H7.out hbn)
          replace HL1 := Hd.mk (HL1.out.below hbn)
          replace HL3 := Hd.mk (HL3.out.below hbn)
          have H8 := Hd.mk hnw
          clear hbn hnw hw4 hb8 hsz hlt
          refine hK.out _ _ (far6 HB4.out hS6) (fun hHeld => ?_)
          clear hK K
          refine norm_ (a' := ?_) ?_ ?_
          rotate_left
          · show Act.put _ (some 8) _ = _
            simp only [Act.put, List.setIfInBounds_toArray, List.set_cons_zero, List.set_cons_succ, i64_w, i32_w]
            rfl
          obtain ⟨q0, q1, q2, f0, f1, f2⟩ := none3 H7.out
          obtain ⟨r0, r1, r2, e0, e1, e2⟩ := none3 H8.out
          refine last_ (i := 6) (N := none) #[true, true, true, true, true, true, true, false] rfl rfl (by kernel_rfl) (by decide) (fun K hK => ?_)
          refine skip_ (w1 := ?_) (by rfl) rfl ?_ ?_
          rotate_left
          · go_simp
            rfl
          refine hK.out _ _ ?_
          clear hK K
          refine last_ (i := 7) (N := none) #[true, true, true, true, true, true, true, true] rfl rfl (by kernel_rfl) (by decide) (fun K hK => ?_)
          refine skip_ (w1 := ?_) (by rfl) rfl ?_ ?_
          rotate_left
          · go_simp
            rfl
          refine hK.out _ _ ?_
          clear hK K
          refine done_ (by kernel_rfl) ?_
          clear hHeld hS6 q0 q1 q2 f0 f1 f2 r0 r1 r2 e0 e1 e2
          go_wp2_with fail
          go_meet
          case rel =>
            obtain ⟨W', hW', g1, g2, g3, g4, g5⟩ := two_stored H7.out H8.out hne HL1.out HL3.out HB4.out hsb hsd
            rw [hW']
            subst hwb
            exact ⟨b7, b8, _, _, _, _, _, _, _, _, _, _, _, _, rfl, rfl, ⟨g1⟩, ⟨g2⟩, ⟨g3⟩, ⟨g4⟩, ⟨(Below.drew' wa).trans g5⟩⟩
        · skip
          refine value_ (w1 := ?_) (v := ?_) (by rfl) rfl ?_ ?_
          rotate_left 2
          · go_simp
            constructor
            · rfl
            · rfl
          have hsz := HB2.out.size
          have hlt := blk_lt H7.out
          obtain ⟨b8, wv3, hb8, hw3, hbn, hnw⟩ := newbox wv2
          have hsd : wb.heap.size ≤ b8 := by omega
          have hne : b7 ≠ b8 := by omega
          rw [hw3, ← hb8]
          have HB3 := Hd.mk (below_step HB2.out hbn)
          replace H7 := Hd.mk (blk_below H7.out hbn)
          replace HL1 := Hd.mk (HL1.out.below hbn)
          have H8 := Hd.mk hnw
          clear hbn hnw hw3 hb8 hsz hlt
          refine hK.out _ _ (far6 HB3.out hS6) (fun hHeld => ?_)
          clear hK K
          refine norm_ (a' := ?_) ?_ ?_
          rotate_left
          · show Act.put _ (some 8) _ = _
            simp only [Act.put, List.setIfInBounds_toArray, List.set_cons_zero, List.set_cons_succ, i64_w, i32_w]
            rfl
          refine one_ (i := 3) (N := some 22) #[true, true, true, true, true, true, false, false] rfl rfl (by kernel_rfl) (by decide) (fun K hK => ?_)
          refine goes_ Try.func23 (by kernel_rfl) rfl #[.agg #[.slice D0 sb.length g0, .slice D1 db.length g1, .slice D2 xb.length g2]] (by rfl) rfl rfl (by simp only [List.map_toArray, List.map_cons, List.map_nil]; rfl) ?_
          refine (lend_c D0 g0 sb D1 g1 db D2 g2 xb _ (HG.out.below HB3.out) (by omega) (by omega) (by omega)).mono ?_
          rintro e wv4 ⟨M0, m0, M1, m1, M2, m2, rfl, hL, hbn⟩
          refine ⟨_, rfl, ?_⟩
          unfold EdV
          have HB4 := Hd.mk (below_step HB3.out hbn)
          replace H7 := Hd.mk (blk_below H7.out hbn)
          replace HL1 := Hd.mk (HL1.out.below hbn)
          replace H8 := Hd.mk (blk_below H8.out hbn)
          have HL3 := Hd.mk hL
          clear hL hbn
          refine hK.out _ _ (far6 HB4.out hS6) (fun hHeld => ?_)
          clear hK K
          refine norm_ (a' := ?_) ?_ ?_
          rotate_left
          · show Act.put _ (some 22) _ = _
            simp only [Act.put, List.setIfInBounds_toArray, List.set_cons_zero, List.set_cons_succ, i64_w, i32_w]
            rfl
          obtain ⟨q0, q1, q2, f0, f1, f2⟩ := none3 H7.out
          obtain ⟨r0, r1, r2, e0, e1, e2⟩ := none3 H8.out
          refine last_ (i := 6) (N := none) #[true, true, true, true, true, true, true, false] rfl rfl (by kernel_rfl) (by decide) (fun K hK => ?_)
          refine skip_ (w1 := ?_) (by rfl) rfl ?_ ?_
          rotate_left
          · go_simp
            rfl
          refine hK.out _ _ ?_
          clear hK K
          refine last_ (i := 7) (N := none) #[true, true, true, true, true, true, true, true] rfl rfl (by kernel_rfl) (by decide) (fun K hK => ?_)
          refine skip_ (w1 := ?_) (by rfl) rfl ?_ ?_
          rotate_left
          · go_simp
            rfl
          refine hK.out _ _ ?_
          clear hK K
          refine done_ (by kernel_rfl) ?_
          clear hHeld hS6 q0 q1 q2 f0 f1 f2 r0 r1 r2 e0 e1 e2
          go_wp2_with fail
          go_meet
          case rel =>
            obtain ⟨W', hW', g1, g2, g3, g4, g5⟩ := two_stored H7.out H8.out hne HL1.out HL3.out HB4.out hsb hsd
            rw [hW']
            subst hwb
            exact ⟨b7, b8, _, _, _, _, _, _, _, _, _, _, _, _, rfl, rfl, ⟨g1⟩, ⟨g2⟩, ⟨g3⟩, ⟨g4⟩, ⟨(Below.drew' wa).trans g5⟩⟩
      · skip
        refine value_ (w1 := ?_) (v := ?_) (by rfl) rfl ?_ ?_
        rotate_left 2
        · go_simp
          constructor
          · rfl
          · rfl
        have hsz := HB1.out.size
        have hlt := blk_lt H7.out
        obtain ⟨b8, wv2, hb8, hw2, hbn, hnw⟩ := newbox wv1
        have hsd : wb.heap.size ≤ b8 := by omega
        have hne : b7 ≠ b8 := by omega
        rw [hw2, ← hb8]
        have HB2 := Hd.mk (below_step HB1.out hbn)
        replace H7 := Hd.mk (blk_below H7.out hbn)
        have H8 := Hd.mk hnw
        clear hbn hnw hw2 hb8 hsz hlt
        refine hK.out _ _ (far6 HB2.out hS6) (fun hHeld => ?_)
        clear hK K
        refine norm_ (a' := ?_) ?_ ?_
        rotate_left
        · show Act.put _ (some 8) _ = _
          simp only [Act.put, List.setIfInBounds_toArray, List.set_cons_zero, List.set_cons_succ, i64_w, i32_w]
          rfl
        refine one_ (i := 1) (N := some 20) #[true, true, true, false, true, true, false, false] rfl rfl (by kernel_rfl) (by decide) (fun K hK => ?_)
        refine goes_ Try.func23 (by kernel_rfl) rfl #[.agg #[.slice A0 st.length c0, .slice A1 d.length c1, .slice A2 x.length c2]] (by rfl) rfl rfl (by simp only [List.map_toArray, List.map_cons, List.map_nil]; rfl) ?_
        refine (lend_c A0 c0 st A1 c1 d A2 c2 x _ (HE.out.below HB2.out) (by omega) (by omega) (by omega)).mono ?_
        rintro e wv3 ⟨K0, k0, K1, k1, K2, k2, rfl, hL, hbn⟩
        refine ⟨_, rfl, ?_⟩
        unfold EdV
        have HB3 := Hd.mk (below_step HB2.out hbn)
        replace H7 := Hd.mk (blk_below H7.out hbn)
        replace H8 := Hd.mk (blk_below H8.out hbn)
        have HL1 := Hd.mk hL
        clear hL hbn
        refine hK.out _ _ (far6 HB3.out hS6) (fun hHeld => ?_)
        clear hK K
        refine norm_ (a' := ?_) ?_ ?_
        rotate_left
        · show Act.put _ (some 20) _ = _
          simp only [Act.put, List.setIfInBounds_toArray, List.set_cons_zero, List.set_cons_succ, i64_w, i32_w]
          rfl
        refine one_ (i := 3) (N := some 22) #[true, true, true, true, true, true, false, false] rfl rfl (by kernel_rfl) (by decide) (fun K hK => ?_)
        refine goes_ Try.func23 (by kernel_rfl) rfl #[.agg #[.slice D0 sb.length g0, .slice D1 db.length g1, .slice D2 xb.length g2]] (by rfl) rfl rfl (by simp only [List.map_toArray, List.map_cons, List.map_nil]; rfl) ?_
        refine (lend_c D0 g0 sb D1 g1 db D2 g2 xb _ (HG.out.below HB3.out) (by omega) (by omega) (by omega)).mono ?_
        rintro e wv4 ⟨M0, m0, M1, m1, M2, m2, rfl, hL, hbn⟩
        refine ⟨_, rfl, ?_⟩
        unfold EdV
        have HB4 := Hd.mk (below_step HB3.out hbn)
        replace H7 := Hd.mk (blk_below H7.out hbn)
        replace H8 := Hd.mk (blk_below H8.out hbn)
        replace HL1 := Hd.mk (HL1.out.below hbn)
        have HL3 := Hd.mk hL
        clear hL hbn
        refine hK.out _ _ (far6 HB4.out hS6) (fun hHeld => ?_)
        clear hK K
        refine norm_ (a' := ?_) ?_ ?_
        rotate_left
        · show Act.put _ (some 22) _ = _
          simp only [Act.put, List.setIfInBounds_toArray, List.set_cons_zero, List.set_cons_succ, i64_w, i32_w]
          rfl
        obtain ⟨q0, q1, q2, f0, f1, f2⟩ := none3 H7.out
        obtain ⟨r0, r1, r2, e0, e1, e2⟩ := none3 H8.out
        refine last_ (i := 6) (N := none) #[true, true, true, true, true, true, true, false] rfl rfl (by kernel_rfl) (by decide) (fun K hK => ?_)
        refine skip_ (w1 := ?_) (by rfl) rfl ?_ ?_
        rotate_left
        · go_simp
          rfl
        refine hK.out _ _ ?_
        clear hK K
        refine last_ (i := 7) (N := none) #[true, true, true, true, true, true, true, true] rfl rfl (by kernel_rfl) (by decide) (fun K hK => ?_)
        refine skip_ (w1 := ?_) (by rfl) rfl ?_ ?_
        rotate_left
        · go_simp
          rfl
        refine hK.out _ _ ?_
        clear hK K
        refine done_ (by kernel_rfl) ?_
        clear hHeld hS6 q0 q1 q2 f0 f1 f2 r0 r1 r2 e0 e1 e2
        go_wp2_with fail
        go_meet
        case rel =>
          obtain ⟨W', hW', g1, g2, g3, g4, g5⟩ := two_stored H7.out H8.out hne HL1.out HL3.out HB4.out hsb hsd
          rw [hW']
          subst hwb
          exact ⟨b7, b8, _, _, _, _, _, _, _, _, _, _, _, _, rfl, rfl, ⟨g1⟩, ⟨g2⟩, ⟨g3⟩, ⟨g4⟩, ⟨(Below.drew' wa).trans g5⟩⟩
    · skip
      refine value_ (w1 := ?_) (v := ?_) (by rfl) rfl ?_ ?_
      rotate_left 2
      · go_simp
        constructor
        · rfl
        · rfl
      have hsz := HB0.out.size
      obtain ⟨b8, wv1, hb8, hw1, hbn, hnw⟩ := newbox wb
      have hsd : wb.heap.size ≤ b8 := by omega
      rw [hw1, ← hb8]
      have HB1 := Hd.mk (below_step HB0.out hbn)
      have H8 := Hd.mk hnw
      clear hbn hnw hw1 hb8 hsz
      refine hK.out _ _ (far6 HB1.out hS6) (fun hHeld => ?_)
      clear hK K
      refine norm_ (a' := ?_) ?_ ?_
      rotate_left
      · show Act.put _ (some 8) _ = _
        simp only [Act.put, List.setIfInBounds_toArray, List.set_cons_zero, List.set_cons_succ, i64_w, i32_w]
        rfl
      refine two_ (i := 1) (j := 4) (Ni := some 20) (Nj := some 7) #[true, true, true, false, false, true, false, false] #[true, false, true, false, true, true, false, false] rfl rfl rfl rfl (by kernel_rfl) (by decide) (by decide) (fun K hK => ?_) (fun K hK => ?_)
      · skip
        refine goes_ Try.func23 (by kernel_rfl) rfl #[.agg #[.slice A0 st.length c0, .slice A1 d.length c1, .slice A2 x.length c2]] (by rfl) rfl rfl (by simp only [List.map_toArray, List.map_cons, List.map_nil]; rfl) ?_
        refine (lend_c A0 c0 st A1 c1 d A2 c2 x _ (HE.out.below HB1.out) (by omega) (by omega) (by omega)).mono ?_
        rintro e wv2 ⟨K0, k0, K1, k1, K2, k2, rfl, hL, hbn⟩
        refine ⟨_, rfl, ?_⟩
        unfold EdV
        have HB2 := Hd.mk (below_step HB1.out hbn)
        replace H8 := Hd.mk (blk_below H8.out hbn)
        have HL1 := Hd.mk hL
        clear hL hbn
        refine hK.out _ _ (far6 HB2.out hS6) (fun hHeld => ?_)
        clear hK K
        refine norm_ (a' := ?_) ?_ ?_
        rotate_left
        · show Act.put _ (some 20) _ = _
          simp only [Act.put, List.setIfInBounds_toArray, List.set_cons_zero, List.set_cons_succ, i64_w, i32_w]
          rfl
        refine two_ (i := 3) (j := 4) (Ni := some 22) (Nj := some 7) #[true, true, true, true, false, true, false, false] #[true, true, true, false, true, true, false, false] rfl rfl rfl rfl (by kernel_rfl) (by decide) (by decide) (fun K hK => ?_) (fun K hK => ?_)
        · skip
          refine goes_ Try.func23 (by kernel_rfl) rfl #[.agg #[.slice D0 sb.length g0, .slice D1 db.length g1, .slice D2 xb.length g2]] (by rfl) rfl rfl (by simp only [List.map_toArray, List.map_cons, List.map_nil]; rfl) ?_
          refine (lend_c D0 g0 sb D1 g1 db D2 g2 xb _ (HG.out.below HB2.out) (by omega) (by omega) (by omega)).mono ?_
          rintro e wv3 ⟨M0, m0, M1, m1, M2, m2, rfl, hL, hbn⟩
          refine ⟨_, rfl, ?_⟩
          unfold EdV
          have HB3 := Hd.mk (below_step HB2.out hbn)
          replace H8 := Hd.mk (blk_below H8.out hbn)
          replace HL1 := Hd.mk (HL1.out.below hbn)
          have HL3 := Hd.mk hL
          clear hL hbn
          refine hK.out _ _ (far6 HB3.out hS6) (fun hHeld => ?_)
          clear hK K
          refine norm_ (a' := ?_) ?_ ?_
          rotate_left
          · show Act.put _ (some 22) _ = _
            simp only [Act.put, List.setIfInBounds_toArray, List.set_cons_zero, List.set_cons_succ, i64_w, i32_w]
            rfl
          refine one_ (i := 4) (N := some 7) #[true, true, true, true, true, true, false, false] rfl rfl (by kernel_rfl) (by decide) (fun K hK => ?_)
          refine value_ (w1 := ?_) (v := ?_) (by rfl) rfl ?_ ?_
          rotate_left 2
          · go_simp
            constructor
            · rfl
            · rfl
          have hsz := HB3.out.size
          have hlt := blk_lt H8.out
          obtain ⟨b7, wv4, hb7, hw4, hbn, hnw⟩ := newbox wv3
          have hsb : wb.heap.size ≤ b7 := by omega
          have hne : b7 ≠ b8 := by omega
          rw [hw4, ← hb7]
          have HB4 := Hd.mk (below_step HB3.out hbn)
          replace H8 := Hd.mk (blk_below H8.out hbn)
          replace HL1 := Hd.mk (HL1.out.below hbn)
          replace HL3 := Hd.mk (HL3.out.below hbn)
          have H7 := Hd.mk hnw
          clear hbn hnw hw4 hb7 hsz hlt
          refine hK.out _ _ (far6 HB4.out hS6) (fun hHeld => ?_)
          clear hK K
          refine norm_ (a' := ?_) ?_ ?_
          rotate_left
          · show Act.put _ (some 7) _ = _
            simp only [Act.put, List.setIfInBounds_toArray, List.set_cons_zero, List.set_cons_succ, i64_w, i32_w]
            rfl
          obtain ⟨q0, q1, q2, f0, f1, f2⟩ := none3 H7.out
          obtain ⟨r0, r1, r2, e0, e1, e2⟩ := none3 H8.out
          refine last_ (i := 6) (N := none) #[true, true, true, true, true, true, true, false] rfl rfl (by kernel_rfl) (by decide) (fun K hK => ?_)
          refine skip_ (w1 := ?_) (by rfl) rfl ?_ ?_
          rotate_left
          · go_simp
            rfl
          refine hK.out _ _ ?_
          clear hK K
          refine last_ (i := 7) (N := none) #[true, true, true, true, true, true, true, true] rfl rfl (by kernel_rfl) (by decide) (fun K hK => ?_)
          refine skip_ (w1 := ?_) (by rfl) rfl ?_ ?_
          rotate_left
          · go_simp
            rfl
          refine hK.out _ _ ?_
          clear hK K
          refine done_ (by kernel_rfl) ?_
          clear hHeld hS6 q0 q1 q2 f0 f1 f2 r0 r1 r2 e0 e1 e2
          go_wp2_with fail
          go_meet
          case rel =>
            obtain ⟨W', hW', g1, g2, g3, g4, g5⟩ := two_stored H7.out H8.out hne HL1.out HL3.out HB4.out hsb hsd
            rw [hW']
            subst hwb
            exact ⟨b7, b8, _, _, _, _, _, _, _, _, _, _, _, _, rfl, rfl, ⟨g1⟩, ⟨g2⟩, ⟨g3⟩, ⟨g4⟩, ⟨(Below.drew' wa).trans g5⟩⟩
        · skip
          refine value_ (w1 := ?_) (v := ?_) (by rfl) rfl ?_ ?_
          rotate_left 2
          · go_simp
            constructor
            · rfl
            · rfl
          have hsz := HB2.out.size
          have hlt := blk_lt H8.out
          obtain ⟨b7, wv3, hb7, hw3, hbn, hnw⟩ := newbox wv2
          have hsb : wb.heap.size ≤ b7 := by omega
          have hne : b7 ≠ b8 := by omega
          rw [hw3, ← hb7]
          have HB3 := Hd.mk (below_step HB2.out hbn)
          replace H8 := Hd.mk (blk_below H8.out hbn)
          replace HL1 := Hd.mk (HL1.out.below hbn)
          have H7 := Hd.mk hnw
          clear hbn hnw hw3 hb7 hsz hlt
          refine hK.out _ _ (far6 HB3.out hS6) (fun hHeld => ?_)
          clear hK K
          refine norm_ (a' := ?_) ?_ ?_
          rotate_left
          · show Act.put _ (some 7) _ = _
            simp only [Act.put, List.setIfInBounds_toArray, List.set_cons_zero, List.set_cons_succ, i64_w, i32_w]
            rfl
          refine one_ (i := 3) (N := some 22) #[true, true, true, true, true, true, false, false] rfl rfl (by kernel_rfl) (by decide) (fun K hK => ?_)
          refine goes_ Try.func23 (by kernel_rfl) rfl #[.agg #[.slice D0 sb.length g0, .slice D1 db.length g1, .slice D2 xb.length g2]] (by rfl) rfl rfl (by simp only [List.map_toArray, List.map_cons, List.map_nil]; rfl) ?_
          refine (lend_c D0 g0 sb D1 g1 db D2 g2 xb _ (HG.out.below HB3.out) (by omega) (by omega) (by omega)).mono ?_
          rintro e wv4 ⟨M0, m0, M1, m1, M2, m2, rfl, hL, hbn⟩
          refine ⟨_, rfl, ?_⟩
          unfold EdV
          have HB4 := Hd.mk (below_step HB3.out hbn)
          replace H8 := Hd.mk (blk_below H8.out hbn)
          replace HL1 := Hd.mk (HL1.out.below hbn)
          replace H7 := Hd.mk (blk_below H7.out hbn)
          have HL3 := Hd.mk hL
          clear hL hbn
          refine hK.out _ _ (far6 HB4.out hS6) (fun hHeld => ?_)
          clear hK K
          refine norm_ (a' := ?_) ?_ ?_
          rotate_left
          · show Act.put _ (some 22) _ = _
            simp only [Act.put, List.setIfInBounds_toArray, List.set_cons_zero, List.set_cons_succ, i64_w, i32_w]
            rfl
          obtain ⟨q0, q1, q2, f0, f1, f2⟩ := none3 H7.out
          obtain ⟨r0, r1, r2, e0, e1, e2⟩ := none3 H8.out
          refine last_ (i := 6) (N := none) #[true, true, true, true, true, true, true, false] rfl rfl (by kernel_rfl) (by decide) (fun K hK => ?_)
          refine skip_ (w1 := ?_) (by rfl) rfl ?_ ?_
          rotate_left
          · go_simp
            rfl
          refine hK.out _ _ ?_
          clear hK K
          refine last_ (i := 7) (N := none) #[true, true, true, true, true, true, true, true] rfl rfl (by kernel_rfl) (by decide) (fun K hK => ?_)
          refine skip_ (w1 := ?_) (by rfl) rfl ?_ ?_
          rotate_left
          · go_simp
            rfl
          refine hK.out _ _ ?_
          clear hK K
          refine done_ (by kernel_rfl) ?_
          clear hHeld hS6 q0 q1 q2 f0 f1 f2 r0 r1 r2 e0 e1 e2
          go_wp2_with fail
          go_meet
          case rel =>
            obtain ⟨W', hW', g1, g2, g3, g4, g5⟩ := two_stored H7.out H8.out hne HL1.out HL3.out HB4.out hsb hsd
            rw [hW']
            subst hwb
            exact ⟨b7, b8, _, _, _, _, _, _, _, _, _, _, _, _, rfl, rfl, ⟨g1⟩, ⟨g2⟩, ⟨g3⟩, ⟨g4⟩, ⟨(Below.drew' wa).trans g5⟩⟩
      · skip
        refine value_ (w1 := ?_) (v := ?_) (by rfl) rfl ?_ ?_
        rotate_left 2
        · go_simp
          constructor
          · rfl
          · rfl
        have hsz := HB1.out.size
        have hlt := blk_lt H8.out
        obtain ⟨b7, wv2, hb7, hw2, hbn, hnw⟩ := newbox wv1
        have hsb : wb.heap.size ≤ b7 := by omega
        have hne : b7 ≠ b8 := by omega
        rw [hw2, ← hb7]
        have HB2 := Hd.mk (below_step HB1.out hbn)
        replace H8 := Hd.mk (blk_below H8.out hbn)
        have H7 := Hd.mk hnw
        clear hbn hnw hw2 hb7 hsz hlt
        refine hK.out _ _ (far6 HB2.out hS6) (fun hHeld => ?_)
        clear hK K
        refine norm_ (a' := ?_) ?_ ?_
        rotate_left
        · show Act.put _ (some 7) _ = _
          simp only [Act.put, List.setIfInBounds_toArray, List.set_cons_zero, List.set_cons_succ, i64_w, i32_w]
          rfl
        refine one_ (i := 1) (N := some 20) #[true, true, true, false, true, true, false, false] rfl rfl (by kernel_rfl) (by decide) (fun K hK => ?_)
        refine goes_ Try.func23 (by kernel_rfl) rfl #[.agg #[.slice A0 st.length c0, .slice A1 d.length c1, .slice A2 x.length c2]] (by rfl) rfl rfl (by simp only [List.map_toArray, List.map_cons, List.map_nil]; rfl) ?_
        refine (lend_c A0 c0 st A1 c1 d A2 c2 x _ (HE.out.below HB2.out) (by omega) (by omega) (by omega)).mono ?_
        rintro e wv3 ⟨K0, k0, K1, k1, K2, k2, rfl, hL, hbn⟩
        refine ⟨_, rfl, ?_⟩
        unfold EdV
        have HB3 := Hd.mk (below_step HB2.out hbn)
        replace H8 := Hd.mk (blk_below H8.out hbn)
        replace H7 := Hd.mk (blk_below H7.out hbn)
        have HL1 := Hd.mk hL
        clear hL hbn
        refine hK.out _ _ (far6 HB3.out hS6) (fun hHeld => ?_)
        clear hK K
        refine norm_ (a' := ?_) ?_ ?_
        rotate_left
        · show Act.put _ (some 20) _ = _
          simp only [Act.put, List.setIfInBounds_toArray, List.set_cons_zero, List.set_cons_succ, i64_w, i32_w]
          rfl
        refine one_ (i := 3) (N := some 22) #[true, true, true, true, true, true, false, false] rfl rfl (by kernel_rfl) (by decide) (fun K hK => ?_)
        refine goes_ Try.func23 (by kernel_rfl) rfl #[.agg #[.slice D0 sb.length g0, .slice D1 db.length g1, .slice D2 xb.length g2]] (by rfl) rfl rfl (by simp only [List.map_toArray, List.map_cons, List.map_nil]; rfl) ?_
        refine (lend_c D0 g0 sb D1 g1 db D2 g2 xb _ (HG.out.below HB3.out) (by omega) (by omega) (by omega)).mono ?_
        rintro e wv4 ⟨M0, m0, M1, m1, M2, m2, rfl, hL, hbn⟩
        refine ⟨_, rfl, ?_⟩
        unfold EdV
        have HB4 := Hd.mk (below_step HB3.out hbn)
        replace H8 := Hd.mk (blk_below H8.out hbn)
        replace H7 := Hd.mk (blk_below H7.out hbn)
        replace HL1 := Hd.mk (HL1.out.below hbn)
        have HL3 := Hd.mk hL
        clear hL hbn
        refine hK.out _ _ (far6 HB4.out hS6) (fun hHeld => ?_)
        clear hK K
        refine norm_ (a' := ?_) ?_ ?_
        rotate_left
        · show Act.put _ (some 22) _ = _
          simp only [Act.put, List.setIfInBounds_toArray, List.set_cons_zero, List.set_cons_succ, i64_w, i32_w]
          rfl
        obtain ⟨q0, q1, q2, f0, f1, f2⟩ := none3 H7.out
        obtain ⟨r0, r1, r2, e0, e1, e2⟩ := none3 H8.out
        refine last_ (i := 6) (N := none) #[true, true, true, true, true, true, true, false] rfl rfl (by kernel_rfl) (by decide) (fun K hK => ?_)
        refine skip_ (w1 := ?_) (by rfl) rfl ?_ ?_
        rotate_left
        · go_simp
          rfl
        refine hK.out _ _ ?_
        clear hK K
        refine last_ (i := 7) (N := none) #[true, true, true, true, true, true, true, true] rfl rfl (by kernel_rfl) (by decide) (fun K hK => ?_)
        refine skip_ (w1 := ?_) (by rfl) rfl ?_ ?_
        rotate_left
        · go_simp
          rfl
        refine hK.out _ _ ?_
        clear hK K
        refine done_ (by kernel_rfl) ?_
        clear hHeld hS6 q0 q1 q2 f0 f1 f2 r0 r1 r2 e0 e1 e2
        go_wp2_with fail
        go_meet
        case rel =>
          obtain ⟨W', hW', g1, g2, g3, g4, g5⟩ := two_stored H7.out H8.out hne HL1.out HL3.out HB4.out hsb hsd
          rw [hW']
          subst hwb
          exact ⟨b7, b8, _, _, _, _, _, _, _, _, _, _, _, _, rfl, rfl, ⟨g1⟩, ⟨g2⟩, ⟨g3⟩, ⟨g4⟩, ⟨(Below.drew' wa).trans g5⟩⟩
  case rest =>
    obtain ⟨b7, b8, K0, k0, K1, k1, K2, k2, M0, m0, M1, m1, M2, m2, rfl, rfl, HL, HM, HT, HU, HBC⟩ := hcut
    replace HB := Hd.mk (below_step HB.out HBC.out)
    replace HE := Hd.mk (HE.out.below HBC.out)
    replace HG := Hd.mk (HG.out.below HBC.out)
    replace HY := Hd.mk (blk_below HY.out HBC.out)
    replace HV := Hd.mk (blk_below HV.out HBC.out)
    replace HC := Hd.mk (HC.out.below HBC.out)
    replace HW := Hd.mk (blk_below HW.out HBC.out)
    clear HBC
    have HBa := HB
    have HEa := HE
    have HGa := HG
    have HLa := HL
    have HMa := HM
    have HYa := HY
    have HVa := HV
    have HTa := HT
    have HUa := HU
    have HCa : Hd (Ed3 wc w.heap.size (fun k => k < wc.heap.size) (.slice C0 n0.length h0) (.slice C1 n1.length h1) (.slice C2 n2.length h2) n0 n1 n2) :=
      ⟨(HC.out.lower (b' := w.heap.size) (by simp; omega)).mono (fun k _ _ h => h)⟩
    have hfb := HF.out.2.1
    have hna := compose_c HL.out.edc HM.out.edc hfb
    unfold EdV at hna
    rw [HQ.out] at hna
    have HNA := Hd.mk hna
    clear hna
    have cHY0 := blk_cell HY.out 0
    have cHY1 := blk_cell HY.out 1
    have cHY2 := blk_cell HY.out 2
    have cHV0 := blk_cell HV.out 0
    have cHV1 := blk_cell HV.out 1
    have cHV2 := blk_cell HV.out 2
    have cHW0 := blk_cell HW.out 0
    have cHW1 := blk_cell HW.out 1
    have cHW2 := blk_cell HW.out 2
    have cHT0 := blk_cell HT.out 0
    have cHT1 := blk_cell HT.out 1
    have cHT2 := blk_cell HT.out 2
    have cHU0 := blk_cell HU.out 0
    have cHU1 := blk_cell HU.out 1
    have cHU2 := blk_cell HU.out 2
    simp at cHY0 cHY1 cHY2 cHV0 cHV1 cHV2 cHW0 cHW1 cHW2 cHT0 cHT1 cHT2 cHU0 cHU1 cHU2
    go_wp2_with fail
    refine HNA.out.mono ?_
    intro e w3 hN
    obtain ⟨E0, f0, E1, f1, E2, f2, rfl, hD, hb3⟩ := hN.ed3
    simp only
    have HD := Hd.mk (hD.mono (q := fun k => k < w3.heap.size) (fun k _ _ h => h))
    have HBW := Hd.mk hb3
    clear cHY0 cHY1 cHY2 cHV0 cHV1 cHV2 cHW0 cHW1 cHW2 cHT0 cHT1 cHT2 cHU0 cHU1 cHU2
    replace HB := Hd.mk (below_step HB.out hb3)
    replace HE := Hd.mk (HE.out.below hb3)
    replace HG := Hd.mk (HG.out.below hb3)
    replace HY := Hd.mk (blk_below HY.out hb3)
    replace HV := Hd.mk (blk_below HV.out hb3)
    replace HC := Hd.mk (HC.out.below hb3)
    replace HW := Hd.mk (blk_below HW.out hb3)
    replace HL := Hd.mk (HL.out.below hb3)
    replace HM := Hd.mk (HM.out.below hb3)
    replace HT := Hd.mk (blk_below HT.out hb3)
    replace HU := Hd.mk (blk_below HU.out hb3)
    have cHY0 := blk_cell HY.out 0
    have cHY1 := blk_cell HY.out 1
    have cHY2 := blk_cell HY.out 2
    have cHV0 := blk_cell HV.out 0
    have cHV1 := blk_cell HV.out 1
    have cHV2 := blk_cell HV.out 2
    have cHW0 := blk_cell HW.out 0
    have cHW1 := blk_cell HW.out 1
    have cHW2 := blk_cell HW.out 2
    have cHT0 := blk_cell HT.out 0
    have cHT1 := blk_cell HT.out 1
    have cHT2 := blk_cell HT.out 2
    have cHU0 := blk_cell HU.out 0
    have cHU1 := blk_cell HU.out 1
    have cHU2 := blk_cell HU.out 2
    simp at cHY0 cHY1 cHY2 cHV0 cHV1 cHV2 cHW0 cHW1 cHW2 cHT0 cHT1 cHT2 cHU0 cHU1 cHU2
    clear HNA hD hN hb3
    have hbA : Below w3.heap.size w3 (w3.alloc (.cells #[.slice E0 n0.length f0, .slice E1 n1.length f1, .slice E2 n2.length f2] 28)) := (Below.refl _ _).alloc (Nat.le_refl _) _
    have HBA := Hd.mk hbA
    have hnb := compose_c (HL.out.below hbA).edc (HM.out.below hbA).edc hfb
    unfold EdV at hnb
    rw [HQ.out] at hnb
    have HNB := Hd.mk hnb
    clear hnb hbA
    have hlt1 := blk_lt HY.out
    have hlt2 := blk_lt HV.out
    have hlt3 := blk_lt HW.out
    have hlt4 := blk_lt HT.out
    have hlt5 := blk_lt HU.out
    go_wp2_with fail
    refine HNB.out.mono ?_
    intro e w4 hN
    obtain ⟨G0, p0, G1, p1, G2, p2, rfl, hG, hb4⟩ := hN.ed3
    simp only
    clear hlt1 hlt2 hlt3 hlt4 hlt5
    clear cHY0 cHY1 cHY2 cHV0 cHV1 cHV2 cHW0 cHW1 cHW2 cHT0 cHT1 cHT2 cHU0 cHU1 cHU2
    replace HB := Hd.mk (below_step HB.out HBA.out)
    replace HE := Hd.mk (HE.out.below HBA.out)
    replace HG := Hd.mk (HG.out.below HBA.out)
    replace HY := Hd.mk (blk_below HY.out HBA.out)
    replace HV := Hd.mk (blk_below HV.out HBA.out)
    replace HC := Hd.mk (HC.out.below HBA.out)
    replace HW := Hd.mk (blk_below HW.out HBA.out)
    replace HL := Hd.mk (HL.out.below HBA.out)
    replace HM := Hd.mk (HM.out.below HBA.out)
    replace HT := Hd.mk (blk_below HT.out HBA.out)
    replace HU := Hd.mk (blk_below HU.out HBA.out)
    replace HD := Hd.mk (HD.out.below HBA.out)
    replace HBW := Hd.mk (below_step HBW.out HBA.out)
    have cHY0 := blk_cell HY.out 0
    have cHY1 := blk_cell HY.out 1
    have cHY2 := blk_cell HY.out 2
    have cHV0 := blk_cell HV.out 0
    have cHV1 := blk_cell HV.out 1
    have cHV2 := blk_cell HV.out 2
    have cHW0 := blk_cell HW.out 0
    have cHW1 := blk_cell HW.out 1
    have cHW2 := blk_cell HW.out 2
    have cHT0 := blk_cell HT.out 0
    have cHT1 := blk_cell HT.out 1
    have cHT2 := blk_cell HT.out 2
    have cHU0 := blk_cell HU.out 0
    have cHU1 := blk_cell HU.out 1
    have cHU2 := blk_cell HU.out 2
    simp at cHY0 cHY1 cHY2 cHV0 cHV1 cHV2 cHW0 cHW1 cHW2 cHT0 cHT1 cHT2 cHU0 cHU1 cHU2
    have HA := Hd.mk (blk_new w3 (.cells #[.slice E0 n0.length f0, .slice E1 n1.length f1, .slice E2 n2.length f2] 28))
    clear HBA HNB hN
    have cHA0 := blk_cell HA.out 0
    have cHA1 := blk_cell HA.out 1
    have cHA2 := blk_cell HA.out 2
    simp at cHA0 cHA1 cHA2
    have HG2 := Hd.mk (hG.mono (q := fun k => w3.heap.size ≤ k) (fun k _ h _ => by simp at h; omega))
    clear cHY0 cHY1 cHY2 cHV0 cHV1 cHV2 cHW0 cHW1 cHW2 cHT0 cHT1 cHT2 cHU0 cHU1 cHU2 cHA0 cHA1 cHA2
    replace HB := Hd.mk (below_step HB.out hb4)
    replace HE := Hd.mk (HE.out.below hb4)
    replace HG := Hd.mk (HG.out.below hb4)
    replace HY := Hd.mk (blk_below HY.out hb4)
    replace HV := Hd.mk (blk_below HV.out hb4)
    replace HC := Hd.mk (HC.out.below hb4)
    replace HW := Hd.mk (blk_below HW.out hb4)
    replace HL := Hd.mk (HL.out.below hb4)
    replace HM := Hd.mk (HM.out.below hb4)
    replace HT := Hd.mk (blk_below HT.out hb4)
    replace HU := Hd.mk (blk_below HU.out hb4)
    replace HD := Hd.mk (HD.out.below hb4)
    replace HBW := Hd.mk (below_step HBW.out hb4)
    replace HA := Hd.mk (blk_below HA.out hb4)
    have cHY0 := blk_cell HY.out 0
    have cHY1 := blk_cell HY.out 1
    have cHY2 := blk_cell HY.out 2
    have cHV0 := blk_cell HV.out 0
    have cHV1 := blk_cell HV.out 1
    have cHV2 := blk_cell HV.out 2
    have cHW0 := blk_cell HW.out 0
    have cHW1 := blk_cell HW.out 1
    have cHW2 := blk_cell HW.out 2
    have cHT0 := blk_cell HT.out 0
    have cHT1 := blk_cell HT.out 1
    have cHT2 := blk_cell HT.out 2
    have cHU0 := blk_cell HU.out 0
    have cHU1 := blk_cell HU.out 1
    have cHU2 := blk_cell HU.out 2
    have cHA0 := blk_cell HA.out 0
    have cHA1 := blk_cell HA.out 1
    have cHA2 := blk_cell HA.out 2
    simp at cHY0 cHY1 cHY2 cHV0 cHV1 cHV2 cHW0 cHW1 cHW2 cHT0 cHT1 cHT2 cHU0 cHU1 cHU2 cHA0 cHA1 cHA2
    clear hG hb4
    have hbA : Below w4.heap.size w4 (w4.alloc (.cells #[.slice G0 n0.length p0, .slice G1 n1.length p1, .slice G2 n2.length p2] 28)) := (Below.refl _ _).alloc (Nat.le_refl _) _
    have HBA := Hd.mk hbA
    clear hbA
    have hlt1 := blk_lt HY.out
    have hlt2 := blk_lt HV.out
    have hlt3 := blk_lt HW.out
    have hlt4 := blk_lt HT.out
    have hlt5 := blk_lt HU.out
    have hlt6 := blk_lt HA.out
    go_wp2_with fail
    refine (num_c n3 _).mono ?_
    rintro e w5 ⟨rfl, rfl⟩
    go_wp2_with fail
    refine (num_c n3 _).mono ?_
    rintro e w5 ⟨rfl, rfl⟩
    clear hlt1 hlt2 hlt3 hlt4 hlt5 hlt6
    clear cHY0 cHY1 cHY2 cHV0 cHV1 cHV2 cHW0 cHW1 cHW2 cHT0 cHT1 cHT2 cHU0 cHU1 cHU2 cHA0 cHA1 cHA2
    replace HB := Hd.mk (below_step HB.out HBA.out)
    replace HE := Hd.mk (HE.out.below HBA.out)
    replace HG := Hd.mk (HG.out.below HBA.out)
    replace HY := Hd.mk (blk_below HY.out HBA.out)
    replace HV := Hd.mk (blk_below HV.out HBA.out)
    replace HC := Hd.mk (HC.out.below HBA.out)
    replace HW := Hd.mk (blk_below HW.out HBA.out)
    replace HL := Hd.mk (HL.out.below HBA.out)
    replace HM := Hd.mk (HM.out.below HBA.out)
    replace HT := Hd.mk (blk_below HT.out HBA.out)
    replace HU := Hd.mk (blk_below HU.out HBA.out)
    replace HD := Hd.mk (HD.out.below HBA.out)
    replace HBW := Hd.mk (below_step HBW.out HBA.out)
    replace HA := Hd.mk (blk_below HA.out HBA.out)
    replace HG2 := Hd.mk (HG2.out.below HBA.out)
    have cHY0 := blk_cell HY.out 0
    have cHY1 := blk_cell HY.out 1
    have cHY2 := blk_cell HY.out 2
    have cHV0 := blk_cell HV.out 0
    have cHV1 := blk_cell HV.out 1
    have cHV2 := blk_cell HV.out 2
    have cHW0 := blk_cell HW.out 0
    have cHW1 := blk_cell HW.out 1
    have cHW2 := blk_cell HW.out 2
    have cHT0 := blk_cell HT.out 0
    have cHT1 := blk_cell HT.out 1
    have cHT2 := blk_cell HT.out 2
    have cHU0 := blk_cell HU.out 0
    have cHU1 := blk_cell HU.out 1
    have cHU2 := blk_cell HU.out 2
    have cHA0 := blk_cell HA.out 0
    have cHA1 := blk_cell HA.out 1
    have cHA2 := blk_cell HA.out 2
    simp at cHY0 cHY1 cHY2 cHV0 cHV1 cHV2 cHW0 cHW1 cHW2 cHT0 cHT1 cHT2 cHU0 cHU1 cHU2 cHA0 cHA1 cHA2
    clear HBA
    have hl := HLN.out
    have HOWN := Hd.mk (own_c HBW.out HD.out HG2.out (HCa.out.step (fun k hk _ => by
      exact HBW.out.block k hk)) (by omega) (by omega) (by omega))
    clear hl
    have hlt1 := blk_lt HY.out
    have hlt2 := blk_lt HV.out
    have hlt3 := blk_lt HW.out
    have hlt4 := blk_lt HT.out
    have hlt5 := blk_lt HU.out
    have hlt6 := blk_lt HA.out
    go_wp2_with fail
    refine HOWN.out.mono ?_
    rintro e w6 ⟨rfl, hb6⟩
    clear cHY0 cHY1 cHY2 cHV0 cHV1 cHV2 cHW0 cHW1 cHW2 cHT0 cHT1 cHT2 cHU0 cHU1 cHU2 cHA0 cHA1 cHA2
    clear HB HE HG HY HV HC HW HL HM HT HU HD HBW HA HG2 HOWN HCa hlt1 hlt2 hlt3 hlt4 hlt5 hlt6
    have HL := Hd.mk (HLa.out.below hb6)
    have HM := Hd.mk (HMa.out.below hb6)
    have HE := Hd.mk (HEa.out.below hb6)
    have HG := Hd.mk (HGa.out.below hb6)
    have HY := Hd.mk (blk_below HYa.out hb6)
    have HV := Hd.mk (blk_below HVa.out hb6)
    have HT := Hd.mk (blk_below HTa.out hb6)
    have HU := Hd.mk (blk_below HUa.out hb6)
    have HB := Hd.mk (below_step HBa.out hb6)
    clear HLa HMa HEa HGa HYa HVa HTa HUa HBa hb6
    have cHY0 := blk_cell HY.out 0
    have cHY1 := blk_cell HY.out 1
    have cHY2 := blk_cell HY.out 2
    have cHV0 := blk_cell HV.out 0
    have cHV1 := blk_cell HV.out 1
    have cHV2 := blk_cell HV.out 2
    have cHT0 := blk_cell HT.out 0
    have cHT1 := blk_cell HT.out 1
    have cHT2 := blk_cell HT.out 2
    have cHU0 := blk_cell HU.out 0
    have cHU1 := blk_cell HU.out 1
    have cHU2 := blk_cell HU.out 2
    simp at cHY0 cHY1 cHY2 cHV0 cHV1 cHV2 cHT0 cHT1 cHT2 cHU0 cHU1 cHU2
    go_wp2_with fail
    refine (kept_c HL.out HE.out).mono ?_
    rintro e w7 ⟨rfl, hb7⟩
    clear cHY0 cHY1 cHY2 cHV0 cHV1 cHV2 cHT0 cHT1 cHT2 cHU0 cHU1 cHU2
    replace HB := Hd.mk (below_step HB.out hb7)
    replace HE := Hd.mk (HE.out.below hb7)
    replace HG := Hd.mk (HG.out.below hb7)
    replace HL := Hd.mk (HL.out.below hb7)
    replace HM := Hd.mk (HM.out.below hb7)
    replace HY := Hd.mk (blk_below HY.out hb7)
    replace HV := Hd.mk (blk_below HV.out hb7)
    replace HT := Hd.mk (blk_below HT.out hb7)
    replace HU := Hd.mk (blk_below HU.out hb7)
    have cHY0 := blk_cell HY.out 0
    have cHY1 := blk_cell HY.out 1
    have cHY2 := blk_cell HY.out 2
    have cHV0 := blk_cell HV.out 0
    have cHV1 := blk_cell HV.out 1
    have cHV2 := blk_cell HV.out 2
    have cHT0 := blk_cell HT.out 0
    have cHT1 := blk_cell HT.out 1
    have cHT2 := blk_cell HT.out 2
    have cHU0 := blk_cell HU.out 0
    have cHU1 := blk_cell HU.out 1
    have cHU2 := blk_cell HU.out 2
    simp at cHY0 cHY1 cHY2 cHV0 cHV1 cHV2 cHT0 cHT1 cHT2 cHU0 cHU1 cHU2
    clear hb7
    go_wp2_with fail
    refine (kept_c HM.out HG.out).mono ?_
    rintro e w8 ⟨rfl, hb8⟩
    clear cHY0 cHY1 cHY2 cHV0 cHV1 cHV2 cHT0 cHT1 cHT2 cHU0 cHU1 cHU2
    replace HB := Hd.mk (below_step HB.out hb8)
    replace HE := Hd.mk (HE.out.below hb8)
    replace HG := Hd.mk (HG.out.below hb8)
    replace HL := Hd.mk (HL.out.below hb8)
    replace HM := Hd.mk (HM.out.below hb8)
    replace HY := Hd.mk (blk_below HY.out hb8)
    replace HV := Hd.mk (blk_below HV.out hb8)
    replace HT := Hd.mk (blk_below HT.out hb8)
    replace HU := Hd.mk (blk_below HU.out hb8)
    have cHY0 := blk_cell HY.out 0
    have cHY1 := blk_cell HY.out 1
    have cHY2 := blk_cell HY.out 2
    have cHV0 := blk_cell HV.out 0
    have cHV1 := blk_cell HV.out 1
    have cHV2 := blk_cell HV.out 2
    have cHT0 := blk_cell HT.out 0
    have cHT1 := blk_cell HT.out 1
    have cHT2 := blk_cell HT.out 2
    have cHU0 := blk_cell HU.out 0
    have cHU1 := blk_cell HU.out 1
    have cHU2 := blk_cell HU.out 2
    simp at cHY0 cHY1 cHY2 cHV0 cHV1 cHV2 cHT0 cHT1 cHT2 cHU0 cHU1 cHU2
    clear hb8
    go_wp2_with fail
    refine (awake_c _).mono ?_
    rintro e w9 ⟨rfl, hb9⟩
    have H9 := Hd.mk (below_step HB.out hb9)
    clear hb9
    go_wp2
    go_ret
    exact ⟨by simp, H9.out⟩
end Go.Proofs.Ytemlbjpefomboaa
