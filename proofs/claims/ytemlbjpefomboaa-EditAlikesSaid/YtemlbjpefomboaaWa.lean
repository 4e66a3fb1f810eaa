/- edit: the walk of EditAlikes. -/
import Derived.Test.YtemlbjpefomboaaLe
import Derived.Test.YtemlbjpefomboaaLs
import Derived.Test.YtemlbjpefomboaaAk
namespace Go.Proofs.Ytemlbjpefomboaa
open Go.RowKit Go.Shelf Go.Proofs.YtemlbjpefomboaaW.PrintWords Go.Proofs.YtemlbjpefomboaaW.PrintLast Go.Proofs.YtemlbjpefomboaaW.PrintMore Go.Proofs.Ytemlbjpefomboaa.Pr
set_option linter.unusedVariables false
set_option linter.unusedSimpArgs false
theorem lend_r {A0 : Option Addr} {c0 : Nat} {st : List S80} {A1 : Option Addr} {c1 : Nat} {d : List Int} {A2 : Option Addr} {c2 : Nat} {x : List Int} {w : World} (hE : EdC w A0 c0 st A1 c1 d A2 c2 x) (hsl : st.length * 24 ≤ 140737488351232) (hdl : d.length * 1 ≤ 140737488351232) (hxl : x.length * 1 ≤ 140737488351232) :
    Calls Try.prog 23 #[.agg #[.slice A0 st.length c0, .slice A1 d.length c1, .slice A2 x.length c2]] w fun e w' => ∃ B0 e0 B1 e1 B2 e2, e = .returned (.agg #[.slice B0 st.length e0, .slice B1 d.length e1, .slice B2 x.length e2]) ∧ Lent w' B0 e0 st B1 e1 d B2 e2 x ∧ Below w.heap.size w w' :=
  lend_c A0 c0 st A1 c1 d A2 c2 x w hE (by omega) (by omega) (by omega)
theorem kept_r {B0 : Option Addr} {e0 : Nat} {B1 : Option Addr} {e1 : Nat} {B2 : Option Addr} {e2 : Nat} {A0 : Option Addr} {c0 : Nat} {st : List S80} {A1 : Option Addr} {c1 : Nat} {d : List Int} {A2 : Option Addr} {c2 : Nat} {x : List Int} {w : World} (hL : Lent w B0 e0 st B1 e1 d B2 e2 x) (hE : EdC w A0 c0 st A1 c1 d A2 c2 x) :
    Calls Try.prog 27 #[.agg #[.slice B0 st.length e0, .slice B1 d.length e1, .slice B2 x.length e2], .agg #[.slice A0 st.length c0, .slice A1 d.length c1, .slice A2 x.length c2]] w fun e w' => e = .returned (.bool true) ∧ Below w.heap.size w w' :=
  kept_c hL hE
set_option maxRecDepth 100000 in
set_option maxHeartbeats 8000000 in
theorem walk_editAlikes (A0 : Option Addr) (c0 : Nat) (st : List S80) (A1 : Option Addr) (c1 : Nat) (d : List Int) (A2 : Option Addr) (c2 : Nat) (x : List Int)
    (D0 : Option Addr) (g0 : Nat) (sb : List S80) (D1 : Option Addr) (g1 : Nat) (db : List Int) (D2 : Option Addr) (g2 : Nat) (xb : List Int) (w : World)
    (H : EdI w A0 c0 st A1 c1 d A2 c2 x ∧ st.length * 24 ≤ 140737488351232 ∧ d.length * 1 ≤ 140737488351232 ∧ x.length * 1 ≤ 140737488351232)
    (H2 : EdI w D0 g0 sb D1 g1 db D2 g2 xb ∧ sb.length * 24 ≤ 140737488351232 ∧ db.length * 1 ≤ 140737488351232 ∧ xb.length * 1 ≤ 140737488351232) :
    Calls Try.prog 6 #[.agg #[.slice A0 st.length c0, .slice A1 d.length c1, .slice A2 x.length c2], .agg #[.slice D0 sb.length g0, .slice D1 db.length g1, .slice D2 xb.length g2]] w fun e w' => e = .returned (.bool true) ∧ Below w.heap.size w w' := by
  obtain ⟨⟨hE, _, hd8, hx8⟩, hf, hdl, hxl⟩ := H
  obtain ⟨⟨hG, _, hdb8, hxb8⟩, hfb, hdb, hxb⟩ := H2
  have hb0 : Below w.heap.size w ((w.alloc (.cells #[.slice A0 st.length c0, .slice A1 d.length c1, .slice A2 x.length c2] 28)).alloc (.cells #[.slice D0 sb.length g0, .slice D1 db.length g1, .slice D2 xb.length g2] 28)) :=
    ((Below.refl _ _).alloc (Nat.le_refl _) _).alloc (by simp) _
  have hV : ((w.alloc (.cells #[.slice A0 st.length c0, .slice A1 d.length c1, .slice A2 x.length c2] 28)).alloc (.cells #[.slice D0 sb.length g0, .slice D1 db.length g1, .slice D2 xb.length g2] 28)).heap[w.heap.size + 1]? = some (.cells #[.slice D0 sb.length g0, .slice D1 db.length g1, .slice D2 xb.length g2] 28 (0, 0)) := by
    have := blk_new (w.alloc (.cells #[.slice A0 st.length c0, .slice A1 d.length c1, .slice A2 x.length c2] 28)) (.cells #[.slice D0 sb.length g0, .slice D1 db.length g1, .slice D2 xb.length g2] 28)
    rw [World.size_alloc] at this
    exact this
  have HE := Hd.mk (hE.below hb0)
  have HG := Hd.mk (hG.below hb0)
  have HB := Hd.mk hb0
  have HY := Hd.mk (blk_alloc (blk_new w (.cells #[.slice A0 st.length c0, .slice A1 d.length c1, .slice A2 x.length c2] 28)) (.cells #[.slice D0 sb.length g0, .slice D1 db.length g1, .slice D2 xb.length g2] 28))
  have HV := Hd.mk hV
  have HF := Hd.mk (And.intro (And.intro hf (And.intro hdl hxl)) (And.intro hfb (And.intro hdb hxb)))
  have H8 := Hd.mk (And.intro hd8 (And.intro hdb8 (And.intro hx8 hxb8)))
  obtain ⟨r, hr⟩ : ∃ r, sameE st d x sb db xb = r := ⟨_, rfl⟩
  have HSM := Hd.mk hr
  clear hE hG hV hf hdl hxl hfb hdb hxb hr hd8 hx8 hdb8 hxb8
  go_enter Try.func6, Try.ntmps6
  go_upto_region 1 with fail
  obtain ⟨wa, hwa⟩ : ∃ w_, (w.alloc (.cells #[.slice A0 st.length c0, .slice A1 d.length c1, .slice A2 x.length c2] 28)).alloc (.cells #[.slice D0 sb.length g0, .slice D1 db.length g1, .slice D2 xb.length g2] 28) = w_ := ⟨_, rfl⟩
  rw [hwa] at HB HE HG HY HV ⊢
  clear hwa hb0
  go_cut [5, 6] (fun v7 v8 W => ∃ b7 b8 K0 k0 K1 k1 K2 k2 M0 m0 M1 m1 M2 m2, v7 = .pointer (some ⟨b7, 0, none⟩) ∧ v8 = .pointer (some ⟨b8, 0, none⟩) ∧ Hd (Lent W K0 k0 st K1 k1 d K2 k2 x) ∧ Hd (Lent W M0 m0 sb M1 m1 db M2 m2 xb) ∧
    Hd (W.heap[b7]? = some (.cells #[.slice K0 st.length k0, .slice K1 d.length k1, .slice K2 x.length k2] 28 (0, 0))) ∧ Hd (W.heap[b8]? = some (.cells #[.slice M0 sb.length m0, .slice M1 db.length m1, .slice M2 xb.length m2] 28 (0, 0))) ∧ Hd (Below wa.heap.size wa W))
  case first =>
    have HB0 : Hd (Below wa.drew.heap.size wa.drew wa.drew) := ⟨Below.refl _ _⟩
    replace HB := Hd.mk (below_step HB.out (Below.drew' wa))
    replace HE := Hd.mk (HE.out.below (Below.drew' wa))
    replace HG := Hd.mk (HG.out.below (Below.drew' wa))
    replace HY := Hd.mk (blk_below HY.out (Below.drew' wa))
    replace HV := Hd.mk (blk_below HV.out (Below.drew' wa))
    have ca0 : wa.drew.cell? ⟨w.heap.size, 0, none⟩ = some (.slice A0 st.length c0) := (blk_cell HY.out 0).trans rfl
    have ca1 : wa.drew.cell? ⟨w.heap.size, 1, none⟩ = some (.slice A1 d.length c1) := (blk_cell HY.out 1).trans rfl
    have ca2 : wa.drew.cell? ⟨w.heap.size, 2, none⟩ = some (.slice A2 x.length c2) := (blk_cell HY.out 2).trans rfl
    have cb0 : wa.drew.cell? ⟨w.heap.size + 1, 0, none⟩ = some (.slice D0 sb.length g0) := (blk_cell HV.out 0).trans rfl
    have cb1 : wa.drew.cell? ⟨w.heap.size + 1, 1, none⟩ = some (.slice D1 db.length g1) := (blk_cell HV.out 1).trans rfl
    have cb2 : wa.drew.cell? ⟨w.heap.size + 1, 2, none⟩ = some (.slice D2 xb.length g2) := (blk_cell HV.out 2).trans rfl
    have hS6 := And.intro ca0 (And.intro ca1 (And.intro ca2 (And.intro cb0 (And.intro cb1 cb2))))
    clear ca0 ca1 ca2 cb0 cb1 cb2
    obtain ⟨⟨hf, hdl, hxl⟩, hfb, hdb, hxb⟩ := HF.out
    obtain ⟨wb, hwb⟩ : ∃ v, wa.drew = v := ⟨_, rfl⟩
    clear HY HV HB HF HSM H8
    refine start_ (n := 8) (S := fun w' => w'.cell? ⟨w.heap.size, 0, none⟩ = some (.slice A0 st.length c0) ∧ w'.cell? ⟨w.heap.size, 1, none⟩ = some (.slice A1 d.length c1) ∧ w'.cell? ⟨w.heap.size, 2, none⟩ = some (.slice A2 x.length c2) ∧ w'.cell? ⟨(w.heap.size + 1), 0, none⟩ = some (.slice D0 sb.length g0) ∧ w'.cell? ⟨(w.heap.size + 1), 1, none⟩ = some (.slice D1 db.length g1) ∧ w'.cell? ⟨(w.heap.size + 1), 2, none⟩ = some (.slice D2 xb.length g2)) (ds := [6, 7]) #[F,F,F,F,F,F,F,F] (by kernel_rfl) rfl rfl hS6 (fun hHeld => ?_)
    rw [hwb] at HE HG HB0 hS6 hHeld ⊢
    refine take_ (i := 0) (N := some 7) (v := ?_) (a' := ?_) #[T,F,F,F,F,F,F,F] rfl rfl (by kernel_rfl) (fun _ _ _ h => h) (Or.inl ⟨by rfl, ?_⟩) hHeld ?_ ?_
    rotate_left
    · rintro w' ⟨s0, s1, s2, s3, s4, s5⟩
      go_simp
      with_reducible rfl
    rotate_left
    · simp only [Act.put, List.setIfInBounds_toArray, List.set_cons_zero, List.set_cons_succ, i64_w, i32_w]
      rfl
    refine take_ (i := 2) (N := some 9) (v := ?_) (a' := ?_) #[T,F,T,F,F,F,F,F] rfl rfl (by kernel_rfl) (fun _ _ _ h => h) (Or.inl ⟨by rfl, ?_⟩) hHeld ?_ ?_
    rotate_left
    · rintro w' ⟨s0, s1, s2, s3, s4, s5⟩
      go_simp
      with_reducible rfl
    rotate_left
    · simp only [Act.put, List.setIfInBounds_toArray, List.set_cons_zero, List.set_cons_succ, i64_w, i32_w]
      rfl
    refine three_ (i := 1) (j := 4) (k := 5) (Ni := some 8) (Nj := some 5) (Nk := some 6) #[T,T,T,F,F,F,F,F] #[T,F,T,F,T,F,F,F] #[T,F,T,F,F,T,F,F] rfl rfl rfl rfl rfl rfl (by kernel_rfl) (by decide) (by decide) (by decide) (fun K hK => ?_) (fun K hK => ?_) (fun K hK => ?_)
    · skip
      refine goes_ Try.func23 (by kernel_rfl) rfl #[.agg #[.slice A0 st.length c0, .slice A1 d.length c1, .slice A2 x.length c2]] (by rfl) rfl rfl (by simp only [List.map_toArray, List.map_cons, List.map_nil]; rfl) ?_
      refine (lend_c A0 c0 st A1 c1 d A2 c2 x _ (HE.out.below HB0.out) (by omega) (by omega) (by omega)).mono ?_
      rintro e wv1 ⟨K0, k0, K1, k1, K2, k2, rfl, hL, hbn⟩
      refine ⟨_, rfl, ?_⟩
      unfold EdV
      have HB1 := Hd.mk (below_step HB0.out hbn)
      have HL1 := Hd.mk hL
      clear hL hbn
      refine hK.out _ _ (far6 HB1.out hS6) (fun hHeld => ?_)
      clear hK K
      refine norm_ (a' := ?_) ?_ ?_
      rotate_left
      · show Act.put _ (some 8) _ = _
        simp only [Act.put, List.setIfInBounds_toArray, List.set_cons_zero, List.set_cons_succ, i64_w, i32_w]
        rfl
      refine three_ (i := 3) (j := 4) (k := 5) (Ni := some 10) (Nj := some 5) (Nk := some 6) #[T,T,T,T,F,F,F,F] #[T,T,T,F,T,F,F,F] #[T,T,T,F,F,T,F,F] rfl rfl rfl rfl rfl rfl (by kernel_rfl) (by decide) (by decide) (by decide) (fun K hK => ?_) (fun K hK => ?_) (fun K hK => ?_)
      · skip
        refine goes_ Try.func23 (by kernel_rfl) rfl #[.agg #[.slice D0 sb.length g0, .slice D1 db.length g1, .slice D2 xb.length g2]] (by rfl) rfl rfl (by simp only [List.map_toArray, List.map_cons, List.map_nil]; rfl) ?_
        refine (lend_c D0 g0 sb D1 g1 db D2 g2 xb _ (HG.out.below HB1.out) (by omega) (by omega) (by omega)).mono ?_
        rintro e wv2 ⟨M0, m0, M1, m1, M2, m2, rfl, hL, hbn⟩
        refine ⟨_, rfl, ?_⟩
        unfold EdV
        have HB2 := Hd.mk (below_step HB1.out hbn)
        replace HL1 := Hd.mk (HL1.out.below hbn)
        have HL3 := Hd.mk hL
        clear hL hbn
        refine hK.out _ _ (far6 HB2.out hS6) (fun hHeld => ?_)
        clear hK K
        refine norm_ (a' := ?_) ?_ ?_
        rotate_left
        · show Act.put _ (some 10) _ = _
          simp only [Act.put, List.setIfInBounds_toArray, List.set_cons_zero, List.set_cons_succ, i64_w, i32_w]
          rfl
        refine two_ (i := 4) (j := 5) (Ni := some 5) (Nj := some 6) #[T,T,T,T,T,F,F,F] #[T,T,T,T,F,T,F,F] rfl rfl rfl rfl (by kernel_rfl) (by decide) (by decide) (fun K hK => ?_) (fun K hK => ?_)
        · skip
          refine value_ (w1 := ?_) (v := ?_) (by rfl) rfl ?_ ?_
          rotate_left 2
          · go_simp
            constructor
            · rfl
            · rfl
          have hsz := HB2.out.size
          obtain ⟨b7, wv3, hb7, hw3, hbn, hnw⟩ := newbox wv2
          have hsb : wb.heap.size ≤ b7 := by omega
          rw [hw3, ← hb7]
          have HB3 := Hd.mk (below_step HB2.out hbn)
          replace HL1 := Hd.mk (HL1.out.below hbn)
          replace HL3 := Hd.mk (HL3.out.below hbn)
          have H7 := Hd.mk hnw
          clear hbn hnw hw3 hb7 hsz
          refine hK.out _ _ (far6 HB3.out hS6) (fun hHeld => ?_)
          clear hK K
          refine norm_ (a' := ?_) ?_ ?_
          rotate_left
          · show Act.put _ (some 5) _ = _
            simp only [Act.put, List.setIfInBounds_toArray, List.set_cons_zero, List.set_cons_succ, i64_w, i32_w]
            rfl
          refine one_ (i := 5) (N := some 6) #[T,T,T,T,T,T,F,F] rfl rfl (by kernel_rfl) (by decide) (fun K hK => ?_)
          refine value_ (w1 := ?_) (v := ?_) (by rfl) rfl ?_ ?_
          rotate_left 2
          · go_simp
            constructor
            · rfl
            · rfl
          have hsz := HB3.out.size
          have hlt := blk_lt H7.out
          obtain ⟨b8, wv4, hb8, hw4, hbn, hnw⟩ := newbox wv3
          have hsd : wb.heap.size ≤ b8 := by omega
          have hne : b7 ≠ b8 := by omega
          rw [hw4, ← hb8]
          have HB4 := Hd.mk (below_step HB3.out hbn)
          replace HL1 := Hd.mk (HL1.out.below hbn)
          replace HL3 := Hd.mk (HL3.out.below hbn)
          replace H7 := Hd.mk (blk_below H7.out hbn)
          have H8 := Hd.mk hnw
          clear hbn hnw hw4 hb8 hsz hlt
          refine hK.out _ _ (far6 HB4.out hS6) (fun hHeld => ?_)
          clear hK K
          refine norm_ (a' := ?_) ?_ ?_
          rotate_left
          · show Act.put _ (some 6) _ = _
            simp only [Act.put, List.setIfInBounds_toArray, List.set_cons_zero, List.set_cons_succ, i64_w, i32_w]
            rfl
          obtain ⟨q0, q1, q2, f0, f1, f2⟩ := none3 H7.out
          obtain ⟨r0, r1, r2, e0, e1, e2⟩ := none3 H8.out
          refine last_ (i := 6) (N := none) #[T,T,T,T,T,T,T,F] rfl rfl (by kernel_rfl) (by decide) (fun K hK => ?_)
          refine skip_ (w1 := ?_) (by rfl) rfl ?_ ?_
          rotate_left
          · go_simp
            rfl
          refine hK.out _ _ ?_
          clear hK K
          refine last_ (i := 7) (N := none) #[T,T,T,T,T,T,T,T] rfl rfl (by kernel_rfl) (by decide) (fun K hK => ?_)
          refine skip_ (w1 := ?_) (by rfl) rfl ?_ ?_
          rotate_left
          · go_simp
            rfl
          refine hK.out _ _ ?_
          clear hK K
          refine done_ (by kernel_rfl) ?_
          clear hHeld hS6 q0 q1 q2 f0 f1 f2 r0 r1 r2 e0 e1 e2
          go_wp2_with fail
          go_meet
          case rel =>
            obtain ⟨W', hW', g1, g2, g3, g4, g5⟩ := two_stored H7.out H8.out hne HL1.out HL3.out HB4.out hsb hsd
            rw [hW']
            subst hwb
            exact ⟨b7, b8, _, _, _, _, _, _, _, _, _, _, _, _, rfl, rfl, ⟨g1⟩, ⟨g2⟩, ⟨g3⟩, ⟨g4⟩, ⟨(Below.drew' wa).trans g5⟩⟩
        · skip
          refine value_ (w1 := ?_) (v := ?_) (by rfl) rfl ?_ ?_
          rotate_left 2
          · go_simp
            constructor
            · rfl
            · rfl
          have hsz := HB2.out.size
          obtain ⟨b8, wv3, hb8, hw3, hbn, hnw⟩ := newbox wv2
          have hsd : wb.heap.size ≤ b8 := by omega
          rw [hw3, ← hb8]
          have HB3 := Hd.mk (below_step HB2.out hbn)
          replace HL1 := Hd.mk (HL1.out.below hbn)
          replace HL3 := Hd.mk (HL3.out.below hbn)
          have H8 := Hd.mk hnw
          clear hbn hnw hw3 hb8 hsz
          refine hK.out _ _ (far6 HB3.out hS6) (fun hHeld => ?_)
          clear hK K
          refine norm_ (a' := ?_) ?_ ?_
          rotate_left
          · show Act.put _ (some 6) _ = _
            simp only [Act.put, List.setIfInBounds_toArray, List.set_cons_zero, List.set_cons_succ, i64_w, i32_w]
            rfl
          refine one_ (i := 4) (N := some 5) #[T,T,T,T,T,T,F,F] rfl rfl (by kernel_rfl) (by decide) (fun K hK => ?_)
          refine value_ (w1 := ?_) (v := ?_) (by rfl) rfl ?_ ?_
          rotate_left 2
          · go_simp
            constructor
            · rfl
            · rfl
          have hsz := HB3.out.size
          have hlt := blk_lt H8.out
          obtain ⟨b7, wv4, hb7, hw4, hbn, hnw⟩ := newbox wv3
          have hsb : wb.heap.size ≤ b7 := by omega
          have hne : b7 ≠ b8 := by omega
          rw [hw4, ← hb7]
          have HB4 := Hd.mk (below_step HB3.out hbn)
          replace HL1 := Hd.mk (HL1.out.below hbn)
          replace HL3 := Hd.mk (HL3.out.below hbn)
          replace H8 := Hd.mk (blk_below H8.out hbn)
          have H7 := Hd.mk hnw
          clear hbn hnw hw4 hb7 hsz hlt
          refine hK.out _ _ (far6 HB4.out hS6) (fun hHeld => ?_)
          clear hK K
          refine norm_ (a' := ?_) ?_ ?_
          rotate_left
          · show Act.put _ (some 5) _ = _
            simp only [Act.put, List.setIfInBounds_toArray, List.set_cons_zero, List.set_cons_succ, i64_w, i32_w]
            rfl
          obtain ⟨q0, q1, q2, f0, f1, f2⟩ := none3 H7.out
          obtain ⟨r0, r1, r2, e0, e1, e2⟩ := none3 H8.out
          refine last_ (i := 6) (N := none) #[T,T,T,T,T,T,T,F] rfl rfl (by kernel_rfl) (by decide) (fun K hK => ?_)
          refine skip_ (w1 := ?_) (by rfl) rfl ?_ ?_
          rotate_left
          · go_simp
            rfl
          refine hK.out _ _ ?_
          clear hK K
          refine last_ (i := 7) (N := none) #[T,T,T,T,T,T,T,T] rfl rfl (by kernel_rfl) (by decide) (fun K hK => ?_)
          refine skip_ (w1 := ?_) (by rfl) rfl ?_ ?_
          rotate_left
          · go_simp
            rfl
          refine hK.out _ _ ?_
          clear hK K
          refine done_ (by kernel_rfl) ?_
          clear hHeld hS6 q0 q1 q2 f0 f1 f2 r0 r1 r2 e0 e1 e2
          go_wp2_with fail
          go_meet
          case rel =>
            obtain ⟨W', hW', g1, g2, g3, g4, g5⟩ := two_stored H7.out H8.out hne HL1.out HL3.out HB4.out hsb hsd
            rw [hW']
            subst hwb
            exact ⟨b7, b8, _, _, _, _, _, _, _, _, _, _, _, _, rfl, rfl, ⟨g1⟩, ⟨g2⟩, ⟨g3⟩, ⟨g4⟩, ⟨(Below.drew' wa).trans g5⟩⟩
      · skip
        refine value_ (w1 := ?_) (v := ?_) (by rfl) rfl ?_ ?_
        rotate_left 2
        · go_simp
          constructor
          · rfl
          · rfl
        have hsz := HB1.out.size
        obtain ⟨b7, wv2, hb7, hw2, hbn, hnw⟩ := newbox wv1
        have hsb : wb.heap.size ≤ b7 := by omega
        rw [hw2, ← hb7]
        have HB2 := Hd.mk (below_step HB1.out hbn)
        replace HL1 := Hd.mk (HL1.out.below hbn)
        have H7 := Hd.mk hnw
        clear hbn hnw hw2 hb7 hsz
        refine hK.out _ _ (far6 HB2.out hS6) (fun hHeld => ?_)
        clear hK K
        refine norm_ (a' := ?_) ?_ ?_
        rotate_left
        · show Act.put _ (some 5) _ = _
          simp only [Act.put, List.setIfInBounds_toArray, List.set_cons_zero, List.set_cons_succ, i64_w, i32_w]
          rfl
        refine two_ (i := 3) (j := 5) (Ni := some 10) (Nj := some 6) #[T,T,T,T,T,F,F,F] #[T,T,T,F,T,T,F,F] rfl rfl rfl rfl (by kernel_rfl) (by decide) (by decide) (fun K hK => ?_) (fun K hK => ?_)
        · skip
          refine goes_ Try.func23 (by kernel_rfl) rfl #[.agg #[.slice D0 sb.length g0, .slice D1 db.length g1, .slice D2 xb.length g2]] (by rfl) rfl rfl (by simp only [List.map_toArray, List.map_cons, List.map_nil]; rfl) ?_
          refine (lend_c D0 g0 sb D1 g1 db D2 g2 xb _ (HG.out.below HB2.out) (by omega) (by omega) (by omega)).mono ?_
          rintro e wv3 ⟨M0, m0, M1, m1, M2, m2, rfl, hL, hbn⟩
          refine ⟨_, rfl, ?_⟩
          unfold EdV
          have HB3 := Hd.mk (below_step HB2.out hbn)
          replace HL1 := Hd.mk (HL1.out.below hbn)
          replace H7 := Hd.mk (blk_below H7.out hbn)
          have HL3 := Hd.mk hL
          clear hL hbn
          refine hK.out _ _ (far6 HB3.out hS6) (fun hHeld => ?_)
          clear hK K
          refine norm_ (a' := ?_) ?_ ?_
          rotate_left
          · show Act.put _ (some 10) _ = _
            simp only [Act.put, List.setIfInBounds_toArray, List.set_cons_zero, List.set_cons_succ, i64_w, i32_w]
            rfl
          refine one_ (i := 5) (N := some 6) #[T,T,T,T,T,T,F,F] rfl rfl (by kernel_rfl) (by decide) (fun K hK => ?_)
          refine value_ (w1 := ?_) (v := ?_) (by rfl) rfl ?_ ?_
          rotate_left 2
          · go_simp
            constructor
            · rfl
            · rfl
          have hsz := HB3.out.size
          have hlt := blk_lt H7.out
          obtain ⟨b8, wv4, hb8, hw4, hbn, hnw⟩ := newbox wv3
          have hsd : wb.heap.size ≤ b8 := by omega
          have hne : b7 ≠ b8 := by omega
          rw [hw4, ← hb8]
          have HB4 := Hd.mk (below_step HB3.out hbn)
          replace HL1 := Hd.mk (HL1.out.below hbn)
          replace H7 := Hd.mk (blk_below H7.out hbn)
          replace HL3 := Hd.mk (HL3.out.below hbn)
          have H8 := Hd.mk hnw
          clear hbn hnw hw4 hb8 hsz hlt
          refine hK.out _ _ (far6 HB4.out hS6) (fun hHeld => ?_)
          clear hK K
          refine norm_ (a' := ?_) ?_ ?_
          rotate_left
          · show Act.put _ (some 6) _ = _
            simp only [Act.put, List.setIfInBounds_toArray, List.set_cons_zero, List.set_cons_succ, i64_w, i32_w]
            rfl
          obtain ⟨q0, q1, q2, f0, f1, f2⟩ := none3 H7.out
          obtain ⟨r0, r1, r2, e0, e1, e2⟩ := none3 H8.out
          refine last_ (i := 6) (N := none) #[T,T,T,T,T,T,T,F] rfl rfl (by kernel_rfl) (by decide) (fun K hK => ?_)
          refine skip_ (w1 := ?_) (by rfl) rfl ?_ ?_
          rotate_left
          · go_simp
            rfl
          refine hK.out _ _ ?_
          clear hK K
          refine last_ (i := 7) (N := none) #[T,T,T,T,T,T,T,T] rfl rfl (by kernel_rfl) (by decide) (fun K hK => ?_)
          refine skip_ (w1 := ?_) (by rfl) rfl ?_ ?_
          rotate_left
          · go_simp
            rfl
          refine hK.out _ _ ?_
          clear hK K
          refine done_ (by kernel_rfl) ?_
          clear hHeld hS6 q0 q1 q2 f0 f1 f2 r0 r1 r2 e0 e1 e2
          go_wp2_with fail
          go_meet
          case rel =>
            obtain ⟨W', hW', g1, g2, g3, g4, g5⟩ := two_stored H7.out H8.out hne HL1.out HL3.out HB4.out hsb hsd
            rw [hW']
            subst hwb
            exact ⟨b7, b8, _, _, _, _, _, _, _, _, _, _, _, _, rfl, rfl, ⟨g1⟩, ⟨g2⟩, ⟨g3⟩, ⟨g4⟩, ⟨(Below.drew' wa).trans g5⟩⟩
        · skip
          refine value_ (w1 := ?_) (v := ?_) (by rfl) rfl ?_ ?_
          rotate_left 2
          · go_simp
            constructor
            · rfl
            · rfl
          have hsz := HB2.out.size
          have hlt := blk_lt H7.out
          obtain ⟨b8, wv3, hb8, hw3, hbn, hnw⟩ := newbox wv2
          have hsd : wb.heap.size ≤ b8 := by omega
          have hne : b7 ≠ b8 := by omega
          rw [hw3, ← hb8]
          have HB3 := Hd.mk (below_step HB2.out hbn)
          replace HL1 := Hd.mk (HL1.out.below hbn)
          replace H7 := Hd.mk (blk_below H7.out hbn)
          have H8 := Hd.mk hnw
          clear hbn hnw hw3 hb8 hsz hlt
          refine hK.out _ _ (far6 HB3.out hS6) (fun hHeld => ?_)
          clear hK K
          refine norm_ (a' := ?_) ?_ ?_
          rotate_left
          · show Act.put _ (some 6) _ = _
            simp only [Act.put, List.setIfInBounds_toArray, List.set_cons_zero, List.set_cons_succ, i64_w, i32_w]
            rfl
          refine one_ (i := 3) (N := some 10) #[T,T,T,T,T,T,F,F] rfl rfl (by kernel_rfl) (by decide) (fun K hK => ?_)
          refine goes_ Try.func23 (by kernel_rfl) rfl #[.agg #[.slice D0 sb.length g0, .slice D1 db.length g1, .slice D2 xb.length g2]] (by rfl) rfl rfl (by simp only [List.map_toArray, List.map_cons, List.map_nil]; rfl) ?_
          refine (lend_c D0 g0 sb D1 g1 db D2 g2 xb _ (HG.out.below HB3.out) (by omega) (by omega) (by omega)).mono ?_
          rintro e wv4 ⟨M0, m0, M1, m1, M2, m2, rfl, hL, hbn⟩
          refine ⟨_, rfl, ?_⟩
          unfold EdV
          have HB4 := Hd.mk (below_step HB3.out hbn)
          replace HL1 := Hd.mk (HL1.out.below hbn)
          replace H7 := Hd.mk (blk_below H7.out hbn)
          replace H8 := Hd.mk (blk_below H8.out hbn)
          have HL3 := Hd.mk hL
          clear hL hbn
          refine hK.out _ _ (far6 HB4.out hS6) (fun hHeld => ?_)
          clear hK K
          refine norm_ (a' := ?_) ?_ ?_
          rotate_left
          · show Act.put _ (some 10) _ = _
            simp only [Act.put, List.setIfInBounds_toArray, List.set_cons_zero, List.set_cons_succ, i64_w, i32_w]
            rfl
          obtain ⟨q0, q1, q2, f0, f1, f2⟩ := none3 H7.out
          obtain ⟨r0, r1, r2, e0, e1, e2⟩ := none3 H8.out
          refine last_ (i := 6) (N := none) #[T,T,T,T,T,T,T,F] rfl rfl (by kernel_rfl) (by decide) (fun K hK => ?_)
          refine skip_ (w1 := ?_) (by rfl) rfl ?_ ?_
          rotate_left
          · go_simp
            rfl
          refine hK.out _ _ ?_
          clear hK K
          refine last_ (i := 7) (N := none) #[T,T,T,T,T,T,T,T] rfl rfl (by kernel_rfl) (by decide) (fun K hK => ?_)
          refine skip_ (w1 := ?_) (by rfl) rfl ?_ ?_
          rotate_left
          · go_simp
            rfl
          refine hK.out _ _ ?_
          clear hK K
          refine done_ (by kernel_rfl) ?_
          clear hHeld hS6 q0 q1 q2 f0 f1 f2 r0 r1 r2 e0 e1 e2
          go_wp2_with fail
          go_meet
          case rel =>
            obtain ⟨W', hW', g1, g2, g3, g4, g5⟩ := two_stored H7.out H8.out hne HL1.out HL3.out HB4.out hsb hsd
            rw [hW']
            subst hwb
            exact ⟨b7, b8, _, _, _, _, _, _, _, _, _, _, _, _, rfl, rfl, ⟨g1⟩, ⟨g2⟩, ⟨g3⟩, ⟨g4⟩, ⟨(Below.drew' wa).trans g5⟩⟩
      · skip
        refine value_ (w1 := ?_) (v := ?_) (by rfl) rfl ?_ ?_
        rotate_left 2
        · go_simp
          constructor
          · rfl
          · rfl
        have hsz := HB1.out.size
        obtain ⟨b8, wv2, hb8, hw2, hbn, hnw⟩ := newbox wv1
        have hsd : wb.heap.size ≤ b8 := by omega
        rw [hw2, ← hb8]
        have HB2 := Hd.mk (below_step HB1.out hbn)
        replace HL1 := Hd.mk (HL1.out.below hbn)
        have H8 := Hd.mk hnw
        clear hbn hnw hw2 hb8 hsz
        refine hK.out _ _ (far6 HB2.out hS6) (fun hHeld => ?_)
        clear hK K
        refine norm_ (a' := ?_) ?_ ?_
        rotate_left
        · show Act.put _ (some 6) _ = _
          simp only [Act.put, List.setIfInBounds_toArray, List.set_cons_zero, List.set_cons_succ, i64_w, i32_w]
          rfl
        refine two_ (i := 3) (j := 4) (Ni := some 10) (Nj := some 5) #[T,T,T,T,F,T,F,F] #[T,T,T,F,T,T,F,F] rfl rfl rfl rfl (by kernel_rfl) (by decide) (by decide) (fun K hK => ?_) (fun K hK => ?_)
        · skip
          refine goes_ Try.func23 (by kernel_rfl) rfl #[.agg #[.slice D0 sb.length g0, .slice D1 db.length g1, .slice D2 xb.length g2]] (by rfl) rfl rfl (by simp only [List.map_toArray, List.map_cons, List.map_nil]; rfl) ?_
          refine (lend_c D0 g0 sb D1 g1 db D2 g2 xb _ (HG.out.below HB2.out) (by omega) (by omega) (by omega)).mono ?_
          rintro e wv3 ⟨M0, m0, M1, m1, M2, m2, rfl, hL, hbn⟩
          refine ⟨_, rfl, ?_⟩
          unfold EdV
          have HB3 := Hd.mk (below_step HB2.out hbn)
          replace HL1 := Hd.mk (HL1.out.below hbn)
          replace H8 := Hd.mk (blk_below H8.out hbn)
          have HL3 := Hd.mk hL
          clear hL hbn
          refine hK.out _ _ (far6 HB3.out hS6) (fun hHeld => ?_)
          clear hK K
          refine norm_ (a' := ?_) ?_ ?_
          rotate_left
          · show Act.put _ (some 10) _ = _
            simp only [Act.put, List.setIfInBounds_toArray, List.set_cons_zero, List.set_cons_succ, i64_w, i32_w]
            rfl
          refine one_ (i := 4) (N := some 5) #[T,T,T,T,T,T,F,F] rfl rfl (by kernel_rfl) (by decide) (fun K hK => ?_)
          refine value_ (w1 := ?_) (v := ?_) (by rfl) rfl ?_ ?_
          rotate_left 2
          · go_simp
            constructor
            · rfl
            · rfl
          have hsz := HB3.out.size
          have hlt := blk_lt H8.out
          obtain ⟨b7, wv4, hb7, hw4, hbn, hnw⟩ := newbox wv3
          have hsb : wb.heap.size ≤ b7 := by omega
          have hne : b7 ≠ b8 := by omega
          rw [hw4, ← hb7]
          have HB4 := Hd.mk (below_step HB3.out hbn)
          replace HL1 := Hd.mk (HL1.out.below hbn)
          replace H8 := Hd.mk (blk_below H8.out hbn)
          replace HL3 := Hd.mk (HL3.out.below hbn)
          have H7 := Hd.mk hnw
          clear hbn hnw hw4 hb7 hsz hlt
          refine hK.out _ _ (far6 HB4.out hS6) (fun hHeld => ?_)
          clear hK K
          refine norm_ (a' := ?_) ?_ ?_
          rotate_left
          · show Act.put _ (some 5) _ = _
            simp only [Act.put, List.setIfInBounds_toArray, List.set_cons_zero, List.set_cons_succ, i64_w, i32_w]
            rfl
          obtain ⟨q0, q1, q2, f0, f1, f2⟩ := none3 H7.out
          obtain ⟨r0, r1, r2, e0, e1, e2⟩ := none3 H8.out
          refine last_ (i := 6) (N := none) #[T,T,T,T,T,T,T,F] rfl rfl (by kernel_rfl) (by decide) (fun K hK => ?_)
          refine skip_ (w1 := ?_) (by rfl) rfl ?_ ?_
          rotate_left
          · go_simp
            rfl
          refine hK.out _ _ ?_
          clear hK K
          refine last_ (i := 7) (N := none) #[T,T,T,T,T,T,T,T] rfl rfl (by kernel_rfl) (by decide) (fun K hK => ?_)
          refine skip_ (w1 := ?_) (by rfl) rfl ?_ ?_
          rotate_left
          · go_simp
            rfl
          refine hK.out _ _ ?_
          clear hK K
          refine done_ (by kernel_rfl) ?_
          clear hHeld hS6 q0 q1 q2 f0 f1 f2 r0 r1 r2 e0 e1 e2
          go_wp2_with fail
          go_meet
          case rel =>
            obtain ⟨W', hW', g1, g2, g3, g4, g5⟩ := two_stored H7.out H8.out hne HL1.out HL3.out HB4.out hsb hsd
            rw [hW']
            subst hwb
            exact ⟨b7, b8, _, _, _, _, _, _, _, _, _, _, _, _, rfl, rfl, ⟨g1⟩, ⟨g2⟩, ⟨g3⟩, ⟨g4⟩, ⟨(Below.drew' wa).trans g5⟩⟩
        · skip
          refine value_ (w1 := ?_) (v := ?_) (by rfl) rfl ?_ ?_
          rotate_left 2
          · go_simp
            constructor
            · rfl
            · rfl
          have hsz := HB2.out.size
          have hlt := blk_lt H8.out
          obtain ⟨b7, wv3, hb7, hw3, hbn, hnw⟩ := newbox wv2
          have hsb : wb.heap.size ≤ b7 := by omega
          have hne : b7 ≠ b8 := by omega
          rw [hw3, ← hb7]
          have HB3 := Hd.mk (below_step HB2.out hbn)
          replace HL1 := Hd.mk (HL1.out.below hbn)
          replace H8 := Hd.mk (blk_below H8.out hbn)
          have H7 := Hd.mk hnw
          clear hbn hnw hw3 hb7 hsz hlt
          refine hK.out _ _ (far6 HB3.out hS6) (fun hHeld => ?_)
          clear hK K
          refine norm_ (a' := ?_) ?_ ?_
          rotate_left
          · show Act.put _ (some 5) _ = _
            simp only [Act.put, List.setIfInBounds_toArray, List.set_cons_zero, List.set_cons_succ, i64_w, i32_w]
            rfl
          refine one_ (i := 3) (N := some 10) #[T,T,T,T,T,T,F,F] rfl rfl (by kernel_rfl) (by decide) (fun K hK => ?_)
          refine goes_ Try.func23 (by kernel_rfl) rfl #[.agg #[.slice D0 sb.length g0, .slice D1 db.length g1, .slice D2 xb.length g2]] (by rfl) rfl rfl (by simp only [List.map_toArray, List.map_cons, List.map_nil]; rfl) ?_
          refine (lend_c D0 g0 sb D1 g1 db D2 g2 xb _ (HG.out.below HB3.out) (by omega) (by omega) (by omega)).mono ?_
          rintro e wv4 ⟨M0, m0, M1, m1, M2, m2, rfl, hL, hbn⟩
          refine ⟨_, rfl, ?_⟩
          unfold EdV
          have HB4 := Hd.mk (below_step HB3.out hbn)
          replace HL1 := Hd.mk (HL1.out.below hbn)
          replace H8 := Hd.mk (blk_below H8.out hbn)
          replace H7 := Hd.mk (blk_below H7.out hbn)
          have HL3 := Hd.mk hL
          clear hL hbn
          refine hK.out _ _ (far6 HB4.out hS6) (fun hHeld => ?_)
          clear hK K
          refine norm_ (a' := ?_) ?_ ?_
          rotate_left
          · show Act.put _ (some 10) _ = _
            simp only [Act.put, List.setIfInBounds_toArray, List.set_cons_zero, List.set_cons_succ, i64_w, i32_w]
            rfl
          obtain ⟨q0, q1, q2, f0, f1, f2⟩ := none3 H7.out
          obtain ⟨r0, r1, r2, e0, e1, e2⟩ := none3 H8.out
          refine last_ (i := 6) (N := none) #[T,T,T,T,T,T,T,F] rfl rfl (by kernel_rfl) (by decide) (fun K hK => ?_)
          refine skip_ (w1 := ?_) (by rfl) rfl ?_ ?_
          rotate_left
          · go_simp
            rfl
          refine hK.out _ _ ?_
          clear hK K
          refine last_ (i := 7) (N := none) #[T,T,T,T,T,T,T,T] rfl rfl (by kernel_rfl) (by decide) (fun K hK => ?_)
          refine skip_ (w1 := ?_) (by rfl) rfl ?_ ?_
          rotate_left
          · go_simp
            rfl
          refine hK.out _ _ ?_
          clear hK K
          refine done_ (by kernel_rfl) ?_
          clear hHeld hS6 q0 q1 q2 f0 f1 f2 r0 r1 r2 e0 e1 e2
          go_wp2_with fail
          go_meet
          case rel =>
            obtain ⟨W', hW', g1, g2, g3, g4, g5⟩ := two_stored H7.out H8.out hne HL1.out HL3.out HB4.out hsb hsd
            rw [hW']
            subst hwb
            exact ⟨b7, b8, _, _, _, _, _, _, _, _, _, _, _, _, rfl, rfl, ⟨g1⟩, ⟨g2⟩, ⟨g3⟩, ⟨g4⟩, ⟨(Below.drew' wa).trans g5⟩⟩
    · skip
      refine value_ (w1 := ?_) (v := ?_) (by rfl) rfl ?_ ?_
      rotate_left 2
      · go_simp
        constructor
        · rfl
        · rfl
      have hsz := HB0.out.size
      obtain ⟨b7, wv1, hb7, hw1, hbn, hnw⟩ := newbox wb
      have hsb : wb.heap.size ≤ b7 := by omega
      rw [hw1, ← hb7]
      have HB1 := Hd.mk (below_step HB0.out hbn)
      have H7 := Hd.mk hnw
      clear hbn hnw hw1 hb7 hsz
      refine hK.out _ _ (far6 HB1.out hS6) (fun hHeld => ?_)
      clear hK K
      refine norm_ (a' := ?_) ?_ ?_
      rotate_left
      · show Act.put _ (some 5) _ = _
        simp only [Act.put, List.setIfInBounds_toArray, List.set_cons_zero, List.set_cons_succ, i64_w, i32_w]
        rfl
      refine two_ (i := 1) (j := 5) (Ni := some 8) (Nj := some 6) #[T,T,T,F,T,F,F,F] #[T,F,T,F,T,T,F,F] rfl rfl rfl rfl (by kernel_rfl) (by decide) (by decide) (fun K hK => ?_) (fun K hK => ?_)
      · skip
        refine goes_ Try.func23 (by kernel_rfl) rfl #[.agg #[.slice A0 st.length c0, .slice A1 d.length c1, .slice A2 x.length c2]] (by rfl) rfl rfl (by simp only [List.map_toArray, List.map_cons, List.map_nil]; rfl) ?_
        refine (lend_c A0 c0 st A1 c1 d A2 c2 x _ (HE.out.below HB1.out) (by omega) (by omega) (by omega)).mono ?_
        rintro e wv2 ⟨K0, k0, K1, k1, K2, k2, rfl, hL, hbn⟩
        refine ⟨_, rfl, ?_⟩
        unfold EdV
        have HB2 := Hd.mk (below_step HB1.out hbn)
        replace H7 := Hd.mk (blk_below H7.out hbn)
        have HL1 := Hd.mk hL
        clear hL hbn
        refine hK.out _ _ (far6 HB2.out hS6) (fun hHeld => ?_)
        clear hK K
        refine norm_ (a' := ?_) ?_ ?_
        rotate_left
        · show Act.put _ (some 8) _ = _
          simp only [Act.put, List.setIfInBounds_toArray, List.set_cons_zero, List.set_cons_succ, i64_w, i32_w]
          rfl
        refine two_ (i := 3) (j := 5) (Ni := some 10) (Nj := some 6) #[T,T,T,T,T,F,F,F] #[T,T,T,F,T,T,F,F] rfl rfl rfl rfl (by kernel_rfl) (by decide) (by decide) (fun K hK => ?_) (fun K hK => ?_)
        · skip
          refine goes_ Try.func23 (by kernel_rfl) rfl #[.agg #[.slice D0 sb.length g0, .slice D1 db.length g1, .slice D2 xb.length g2]] (by rfl) rfl rfl (by simp only [List.map_toArray, List.map_cons, List.map_nil]; rfl) ?_
          refine (lend_c D0 g0 sb D1 g1 db D2 g2 xb _ (HG.out.below HB2.out) (by omega) (by omega) (by omega)).mono ?_
          rintro e wv3 ⟨M0, m0, M1, m1, M2, m2, rfl, hL, hbn⟩
          refine ⟨_, rfl, ?_⟩
          unfold EdV
          have HB3 := Hd.mk (below_step HB2.out hbn)
          replace H7 := Hd.mk (blk_below H7.out hbn)
          replace HL1 := Hd.mk (HL1.out.below hbn)
          have HL3 := Hd.mk hL
          clear hL hbn
          refine hK.out _ _ (far6 HB3.out hS6) (fun hHeld => ?_)
          clear hK K
          refine norm_ (a' := ?_) ?_ ?_
          rotate_left
          · show Act.put _ (some 10) _ = _
            simp only [Act.put, List.setIfInBounds_toArray, List.set_cons_zero, List.set_cons_succ, i64_w, i32_w]
            rfl
          refine one_ (i := 5) (N := some 6) #[T,T,T,T,T,T,F,F] rfl rfl (by kernel_rfl) (by decide) (fun K hK => ?_)
          refine value_ (w1 := ?_) (v := ?_) (by rfl) rfl ?_ ?_
          rotate_left 2
          · go_simp
            constructor
            · rfl
            · rfl
          have hsz := HB3.out.size
          have hlt := blk_lt H7.out
          obtain ⟨b8, wv4, hb8, hw4, hbn, hnw⟩ := newbox wv3
          have hsd : wb.heap.size ≤ b8 := by omega
          have hne : b7 ≠ b8 := by omega
          rw [hw4, ← hb8]
          have HB4 := Hd.mk (below_step HB3.out hbn)
          replace H7 := Hd.mk (blk_below H7.out hbn)
          replace HL1 := Hd.mk (HL1.out.below hbn)
          replace HL3 := Hd.mk (HL3.out.below hbn)
          have H8 := Hd.mk hnw
          clear hbn hnw hw4 hb8 hsz hlt
          refine hK.out _ _ (far6 HB4.out hS6) (fun hHeld => ?_)
          clear hK K
          refine norm_ (a' := ?_) ?_ ?_
          rotate_left
          · show Act.put _ (some 6) _ = _
            simp only [Act.put, List.setIfInBounds_toArray, List.set_cons_zero, List.set_cons_succ, i64_w, i32_w]
            rfl
          obtain ⟨q0, q1, q2, f0, f1, f2⟩ := none3 H7.out
          obtain ⟨r0, r1, r2, e0, e1, e2⟩ := none3 H8.out
          refine last_ (i := 6) (N := none) #[T,T,T,T,T,T,T,F] rfl rfl (by kernel_rfl) (by decide) (fun K hK => ?_)
          refine skip_ (w1 := ?_) (by rfl) rfl ?_ ?_
          rotate_left
          · go_simp
            rfl
          refine hK.out _ _ ?_
          clear hK K
          refine last_ (i := 7) (N := none) #[T,T,T,T,T,T,T,T] rfl rfl (by kernel_rfl) (by decide) (fun K hK => ?_)
          refine skip_ (w1 := ?_) (by rfl) rfl ?_ ?_
          rotate_left
          · go_simp
            rfl
          refine hK.out _ _ ?_
          clear hK K
          refine done_ (by kernel_rfl) ?_
          clear hHeld hS6 q0 q1 q2 f0 f1 f2 r0 r1 r2 e0 e1 e2
          go_wp2_with fail
          go_meet
          case rel =>
            obtain ⟨W', hW', g1, g2, g3, g4, g5⟩ := two_stored H7.out H8.out hne HL1.out HL3.out HB4.out hsb hsd
            rw [hW']
            subst hwb
            exact ⟨b7, b8, _, _, _, _, _, _, _, _, _, _, _, _, rfl, rfl, ⟨g1⟩, ⟨g2⟩, ⟨g3⟩, ⟨g4⟩, ⟨(Below.drew' wa).trans g5⟩⟩
        · skip
          refine value_ (w1 := ?_) (v := ?_) (by rfl) rfl ?_ ?_
          rotate_left 2
          · go_simp
            constructor
            · rfl
            · rfl
          have hsz := HB2.out.size
          have hlt := blk_lt H7.out
          obtain ⟨b8, wv3, hb8, hw3, hbn, hnw⟩ := newbox wv2
          have hsd : wb.heap.size ≤ b8 := by omega
          have hne : b7 ≠ b8 := by omega
          rw [hw3, ← hb8]
          have HB3 := Hd.mk (below_step HB2.out hbn)
          replace H7 := Hd.mk (blk_below H7.out hbn)
          replace HL1 := Hd.mk (HL1.out.below hbn)
          have H8 := Hd.mk hnw
          clear hbn hnw hw3 hb8 hsz hlt
          refine hK.out _ _ (far6 HB3.out hS6) (fun hHeld => ?_)
          clear hK K
          refine norm_ (a' := ?_) ?_ ?_
          rotate_left
          · show Act.put _ (some 6) _ = _
            simp only [Act.put, List.setIfInBounds_toArray, List.set_cons_zero, List.set_cons_succ, i64_w, i32_w]
            rfl
          refine one_ (i := 3) (N := some 10) #[T,T,T,T,T,T,F,F] rfl rfl (by kernel_rfl) (by decide) (fun K hK => ?_)
          refine goes_ Try.func23 (by kernel_rfl) rfl #[.agg #[.slice D0 sb.length g0, .slice D1 db.length g1, .slice D2 xb.length g2]] (by rfl) rfl rfl (by simp only [List.map_toArray, List.map_cons, List.map_nil]; rfl) ?_
          refine (lend_c D0 g0 sb D1 g1 db D2 g2 xb _ (HG.out.below HB3.out) (by omega) (by omega) (by omega)).mono ?_
          rintro e wv4 ⟨M0, m0, M1, m1, M2, m2, rfl, hL, hbn⟩
          refine ⟨_, rfl, ?_⟩
          unfold EdV
          have HB4 := Hd.mk (below_step HB3.out hbn)
          replace H7 := Hd.mk (blk_below H7.out hbn)
          replace HL1 := Hd.mk (HL1.out.below hbn)
          replace H8 := Hd.mk (blk_below H8.out hbn)
          have HL3 := Hd.mk hL
          clear hL hbn
          refine hK.out _ _ (far6 HB4.out hS6) (fun hHeld => ?_)
          clear hK K
          refine norm_ (a' := ?_) ?_ ?_
          rotate_left
          · show Act.put _ (some 10) _ = _
            simp only [Act.put, List.setIfInBounds_toArray, List.set_cons_zero, List.set_cons_succ, i64_w, i32_w]
            rfl
          obtain ⟨q0, q1, q2, f0, f1, f2⟩ := none3 H7.out
          obtain ⟨r0, r1, r2, e0, e1, e2⟩ := none3 H8.out
          refine last_ (i := 6) (N := none) #[T,T,T,T,T,T,T,F] rfl rfl (by kernel_rfl) (by decide) (fun K hK => ?_)
          refine skip_ (w1 := ?_) (by rfl) rfl ?_ ?_
          rotate_left
          · go_simp
            rfl
          refine hK.out _ _ ?_
          clear hK K
          refine last_ (i := 7) (N := none) #[T,T,T,T,T,T,T,T] rfl rfl (by kernel_rfl) (by decide) (fun K hK => ?_)
          refine skip_ (w1 := ?_) (by rfl) rfl ?_ ?_
          rotate_left
          · go_simp
            rfl
          refine hK.out _ _ ?_
          clear hK K
          refine done_ (by kernel_rfl) ?_
          clear hHeld hS6 q0 q1 q2 f0 f1 f2 r0 r1 r2 e0 e1 e2
          go_wp2_with fail
          go_meet
          case rel =>
            obtain ⟨W', hW', g1, g2, g3, g4, g5⟩ := two_stored H7.out H8.out hne HL1.out HL3.out HB4.out hsb hsd
            rw [hW']
            subst hwb
            exact ⟨b7, b8, _, _, _, _, _, _, _, _, _, _, _, _, rfl, rfl, ⟨g1⟩, ⟨g2⟩, ⟨g3⟩, ⟨g4⟩, ⟨(Below.drew' wa).trans g5⟩⟩
      · skip
        refine value_ (w1 := ?_) (v := ?_) (by rfl) rfl ?_ ?_
        rotate_left 2
        · go_simp
          constructor
          · rfl
          · rfl
        have hsz := HB1.out.size
        have hlt := blk_lt H7.out
        obtain ⟨b8, wv2, hb8, hw2, hbn, hnw⟩ := newbox wv1
        have hsd : wb.heap.size ≤ b8 := by omega
        have hne : b7 ≠ b8 := by omega
        rw [hw2, ← hb8]
        have HB2 := Hd.mk (below_step HB1.out hbn)
        replace H7 := Hd.mk (blk_below H7.out hbn)
        have H8 := Hd.mk hnw
        clear hbn hnw hw2 hb8 hsz hlt
        refine hK.out _ _ (far6 HB2.out hS6) (fun hHeld => ?_)
        clear hK K
        refine norm_ (a' := ?_) ?_ ?_
        rotate_left
        · show Act.put _ (some 6) _ = _
          simp only [Act.put, List.setIfInBounds_toArray, List.set_cons_zero, List.set_cons_succ, i64_w, i32_w]
          rfl
        refine one_ (i := 1) (N := some 8) #[T,T,T,F,T,T,F,F] rfl rfl (by kernel_rfl) (by decide) (fun K hK => ?_)
        refine goes_ Try.func23 (by kernel_rfl) rfl #[.agg #[.slice A0 st.length c0, .slice A1 d.length c1, .slice A2 x.length c2]] (by rfl) rfl rfl (by simp only [List.map_toArray, List.map_cons, List.map_nil]; rfl) ?_
        refine (lend_c A0 c0 st A1 c1 d A2 c2 x _ (HE.out.below HB2.out) (by omega) (by omega) (by omega)).mono ?_
        rintro e wv3 ⟨K0, k0, K1, k1, K2, k2, rfl, hL, hbn⟩
        refine ⟨_, rfl, ?_⟩
        unfold EdV
        have HB3 := Hd.mk (below_step HB2.out hbn)
        replace H7 := Hd.mk (blk_below H7.out hbn)
        replace H8 := Hd.mk (blk_below H8.out hbn)
        have HL1 := Hd.mk hL
        clear hL hbn
        refine hK.out _ _ (far6 HB3.out hS6) (fun hHeld => ?_)
        clear hK K
        refine norm_ (a' := ?_) ?_ ?_
        rotate_left
        · show Act.put _ (some 8) _ = _
          simp only [Act.put, List.setIfInBounds_toArray, List.set_cons_zero, List.set_cons_succ, i64_w, i32_w]
          rfl
        refine one_ (i := 3) (N := some 10) #[T,T,T,T,T,T,F,F] rfl rfl (by kernel_rfl) (by decide) (fun K hK => ?_)
        refine goes_ Try.func23 (by kernel_rfl) rfl #[.agg #[.slice D0 sb.length g0, .slice D1 db.length g1, .slice D2 xb.length g2]] (by rfl) rfl rfl (by simp only [List.map_toArray, List.map_cons, List.map_nil]; rfl) ?_
        refine (lend_c D0 g0 sb D1 g1 db D2 g2 xb _ (HG.out.below HB3.out) (by omega) (by omega) (by omega)).mono ?_
        rintro e wv4 ⟨M0, m0, M1, m1, M2, m2, rfl, hL, hbn⟩
        refine ⟨_, rfl, ?_⟩
        unfold EdV
        have HB4 := Hd.mk (below_step HB3.out hbn)
        replace H7 := Hd.mk (blk_below H7.out hbn)
        replace H8 := Hd.mk (blk_below H8.out hbn)
        replace HL1 := Hd.mk (HL1.out.below hbn)
        have HL3 := Hd.mk hL
        clear hL hbn
        refine hK.out _ _ (far6 HB4.out hS6) (fun hHeld => ?_)
        clear hK K
        refine norm_ (a' := ?_) ?_ ?_
        rotate_left
        · show Act.put _ (some 10) _ = _
          simp only [Act.put, List.setIfInBounds_toArray, List.set_cons_zero, List.set_cons_succ, i64_w, i32_w]
          rfl
        obtain ⟨q0, q1, q2, f0, f1, f2⟩ := none3 H7.out
        obtain ⟨r0, r1, r2, e0, e1, e2⟩ := none3 H8.out
        refine last_ (i := 6) (N := none) #[T,T,T,T,T,T,T,F] rfl rfl (by kernel_rfl) (by decide) (fun K hK => ?_)
        refine skip_ (w1 := ?_) (by rfl) rfl ?_ ?_
        rotate_left
        · go_simp
          rfl
        refine hK.out _ _ ?_
        clear hK K
        refine last_ (i := 7) (N := none) #[T,T,T,T,T,T,T,T] rfl rfl (by kernel_rfl) (by decide) (fun K hK => ?_)
        refine skip_ (w1 := ?_) (by rfl) rfl ?_ ?_
        rotate_left
        · go_simp
          rfl
        refine hK.out _ _ ?_
        clear hK K
        refine done_ (by kernel_rfl) ?_
        clear hHeld hS6 q0 q1 q2 f0 f1 f2 r0 r1 r2 e0 e1 e2
        go_wp2_with fail
        go_meet
        case rel =>
          obtain ⟨W', hW', g1, g2, g3, g4, g5⟩ := two_stored H7.out H8.out hne HL1.out HL3.out HB4.out hsb hsd
          rw [hW']
          subst hwb
          exact ⟨b7, b8, _, _, _, _, _, _, _, _, _, _, _, _, rfl, rfl, ⟨g1⟩, ⟨g2⟩, ⟨g3⟩, ⟨g4⟩, ⟨(Below.drew' wa).trans g5⟩⟩
    · skip
      refine value_ (w1 := ?_) (v := ?_) (by rfl) rfl ?_ ?_
      rotate_left 2
      · go_simp
        constructor
        · rfl
        · rfl
      have hsz := HB0.out.size
      obtain ⟨b8, wv1, hb8, hw1, hbn, hnw⟩ := newbox wb
      have hsd : wb.heap.size ≤ b8 := by omega
      rw [hw1, ← hb8]
      have HB1 := Hd.mk (below_step HB0.out hbn)
      have H8 := Hd.mk hnw
      clear hbn hnw hw1 hb8 hsz
      refine hK.out _ _ (far6 HB1.out hS6) (fun hHeld => ?_)
      clear hK K
      refine norm_ (a' := ?_) ?_ ?_
      rotate_left
      · show Act.put _ (some 6) _ = _
        simp only [Act.put, List.setIfInBounds_toArray, List.set_cons_zero, List.set_cons_succ, i64_w, i32_w]
        rfl
      refine two_ (i := 1) (j := 4) (Ni := some 8) (Nj := some 5) #[T,T,T,F,F,T,F,F] #[T,F,T,F,T,T,F,F] rfl rfl rfl rfl (by kernel_rfl) (by decide) (by decide) (fun K hK => ?_) (fun K hK => ?_)
      · skip
        refine goes_ Try.func23 (by kernel_rfl) rfl #[.agg #[.slice A0 st.length c0, .slice A1 d.length c1, .slice A2 x.length c2]] (by rfl) rfl rfl (by simp only [List.map_toArray, List.map_cons, List.map_nil]; rfl) ?_
        refine (lend_c A0 c0 st A1 c1 d A2 c2 x _ (HE.out.below HB1.out) (by omega) (by omega) (by omega)).mono ?_
        rintro e wv2 ⟨K0, k0, K1, k1, K2, k2, rfl, hL, hbn⟩
        refine ⟨_, rfl, ?_⟩
        unfold EdV
        have HB2 := Hd.mk (below_step HB1.out hbn)
        replace H8 := Hd.mk (blk_below H8.out hbn)
        have HL1 := Hd.mk hL
        clear hL hbn
        refine hK.out _ _ (far6 HB2.out hS6) (fun hHeld => ?_)
        clear hK K
        refine norm_ (a' := ?_) ?_ ?_
        rotate_left
        · show Act.put _ (some 8) _ = _
          simp only [Act.put, List.setIfInBounds_toArray, List.set_cons_zero, List.set_cons_succ, i64_w, i32_w]
          rfl
        refine two_ (i := 3) (j := 4) (Ni := some 10) (Nj := some 5) #[T,T,T,T,F,T,F,F] #[T,T,T,F,T,T,F,F] rfl rfl rfl rfl (by kernel_rfl) (by decide) (by decide) (fun K hK => ?_) (fun K hK => ?_)
        · skip
          refine goes_ Try.func23 (by kernel_rfl) rfl #[.agg #[.slice D0 sb.length g0, .slice D1 db.length g1, .slice D2 xb.length g2]] (by rfl) rfl rfl (by simp only [List.map_toArray, List.map_cons, List.map_nil]; rfl) ?_
          refine (lend_c D0 g0 sb D1 g1 db D2 g2 xb _ (HG.out.below HB2.out) (by omega) (by omega) (by omega)).mono ?_
          rintro e wv3 ⟨M0, m0, M1, m1, M2, m2, rfl, hL, hbn⟩
          refine ⟨_, rfl, ?_⟩
          unfold EdV
          have HB3 := Hd.mk (below_step HB2.out hbn)
          replace H8 := Hd.mk (blk_below H8.out hbn)
          replace HL1 := Hd.mk (HL1.out.below hbn)
          have HL3 := Hd.mk hL
          clear hL hbn
          refine hK.out _ _ (far6 HB3.out hS6) (fun hHeld => ?_)
          clear hK K
          refine norm_ (a' := ?_) ?_ ?_
          rotate_left
          · show Act.put _ (some 10) _ = _
            simp only [Act.put, List.setIfInBounds_toArray, List.set_cons_zero, List.set_cons_succ, i64_w, i32_w]
            rfl
          refine one_ (i := 4) (N := some 5) #[T,T,T,T,T,T,F,F] rfl rfl (by kernel_rfl) (by decide) (fun K hK => ?_)
          refine value_ (w1 := ?_) (v := ?_) (by rfl) rfl ?_ ?_
          rotate_left 2
          · go_simp
            constructor
            · rfl
            · rfl
          have hsz := HB3.out.size
          have hlt := blk_lt H8.out
          obtain ⟨b7, wv4, hb7, hw4, hbn, hnw⟩ := newbox wv3
          have hsb : wb.heap.size ≤ b7 := by omega
          have hne : b7 ≠ b8 := by omega
          rw [hw4, ← hb7]
          have HB4 := Hd.mk (below_step HB3.out hbn)
          replace H8 := Hd.mk (blk_below H8.out hbn)
          replace HL1 := Hd.mk (HL1.out.below hbn)
          replace HL3 := Hd.mk (HL3.out.below hbn)
          have H7 := Hd.mk hnw
          clear hbn hnw hw4 hb7 hsz hlt
          refine hK.out _ _ (far6 HB4.out hS6) (fun hHeld => ?_)
          clear hK K
          refine norm_ (a' := ?_) ?_ ?_
          rotate_left
          · show Act.put _ (some 5) _ = _
            simp only [Act.put, List.setIfInBounds_toArray, List.set_cons_zero, List.set_cons_succ, i64_w, i32_w]
            rfl
          obtain ⟨q0, q1, q2, f0, f1, f2⟩ := none3 H7.out
          obtain ⟨r0, r1, r2, e0, e1, e2⟩ := none3 H8.out
          refine last_ (i := 6) (N := none) #[T,T,T,T,T,T,T,F] rfl rfl (by kernel_rfl) (by decide) (fun K hK => ?_)
          refine skip_ (w1 := ?_) (by rfl) rfl ?_ ?_
          rotate_left
          · go_simp
            rfl
          refine hK.out _ _ ?_
          clear hK K
          refine last_ (i := 7) (N := none) #[T,T,T,T,T,T,T,T] rfl rfl (by kernel_rfl) (by decide) (fun K hK => ?_)
          refine skip_ (w1 := ?_) (by rfl) rfl ?_ ?_
          rotate_left
          · go_simp
            rfl
          refine hK.out _ _ ?_
          clear hK K
          refine done_ (by kernel_rfl) ?_
          clear hHeld hS6 q0 q1 q2 f0 f1 f2 r0 r1 r2 e0 e1 e2
          go_wp2_with fail
          go_meet
          case rel =>
            obtain ⟨W', hW', g1, g2, g3, g4, g5⟩ := two_stored H7.out H8.out hne HL1.out HL3.out HB4.out hsb hsd
            rw [hW']
            subst hwb
            exact ⟨b7, b8, _, _, _, _, _, _, _, _, _, _, _, _, rfl, rfl, ⟨g1⟩, ⟨g2⟩, ⟨g3⟩, ⟨g4⟩, ⟨(Below.drew' wa).trans g5⟩⟩
        · skip
          refine value_ (w1 := ?_) (v := ?_) (by rfl) rfl ?_ ?_
          rotate_left 2
          · go_simp
            constructor
            · rfl
            · rfl
          have hsz := HB2.out.size
          have hlt := blk_lt H8.out
          obtain ⟨b7, wv3, hb7, hw3, hbn, hnw⟩ := newbox wv2
          have hsb : wb.heap.size ≤ b7 := by omega
          have hne : b7 ≠ b8 := by omega
          rw [hw3, ← hb7]
          have HB3 := Hd.mk (below_step HB2.out hbn)
          replace H8 := Hd.mk (blk_below H8.out hbn)
          replace HL1 := Hd.mk (HL1.out.below hbn)
          have H7 := Hd.mk hnw
          clear hbn hnw hw3 hb7 hsz hlt
          refine hK.out _ _ (far6 HB3.out hS6) (fun hHeld => ?_)
          clear hK K
          refine norm_ (a' := ?_) ?_ ?_
          rotate_left
          · show Act.put _ (some 5) _ = _
            simp only [Act.put, List.setIfInBounds_toArray, List.set_cons_zero, List.set_cons_succ, i64_w, i32_w]
            rfl
          refine one_ (i := 3) (N := some 10) #[T,T,T,T,T,T,F,F] rfl rfl (by kernel_rfl) (by decide) (fun K hK => ?_)
          refine goes_ Try.func23 (by kernel_rfl) rfl #[.agg #[.slice D0 sb.length g0, .slice D1 db.length g1, .slice D2 xb.length g2]] (by rfl) rfl rfl (by simp only [List.map_toArray, List.map_cons, List.map_nil]; rfl) ?_
          refine (lend_c D0 g0 sb D1 g1 db D2 g2 xb _ (HG.out.below HB3.out) (by omega) (by omega) (by omega)).mono ?_
          rintro e wv4 ⟨M0, m0, M1, m1, M2, m2, rfl, hL, hbn⟩
          refine ⟨_, rfl, ?_⟩
          unfold EdV
          have HB4 := Hd.mk (below_step HB3.out hbn)
          replace H8 := Hd.mk (blk_below H8.out hbn)
          replace HL1 := Hd.mk (HL1.out.below hbn)
          replace H7 := Hd.mk (blk_below H7.out hbn)
          have HL3 := Hd.mk hL
          clear hL hbn
          refine hK.out _ _ (far6 HB4.out hS6) (fun hHeld => ?_)
          clear hK K
          refine norm_ (a' := ?_) ?_ ?_
          rotate_left
          · show Act.put _ (some 10) _ = _
            simp only [Act.put, List.setIfInBounds_toArray, List.set_cons_zero, List.set_cons_succ, i64_w, i32_w]
            rfl
          obtain ⟨q0, q1, q2, f0, f1, f2⟩ := none3 H7.out
          obtain ⟨r0, r1, r2, e0, e1, e2⟩ := none3 H8.out
          refine last_ (i := 6) (N := none) #[T,T,T,T,T,T,T,F] rfl rfl (by kernel_rfl) (by decide) (fun K hK => ?_)
          refine skip_ (w1 := ?_) (by rfl) rfl ?_ ?_
          rotate_left
          · go_simp
            rfl
          refine hK.out _ _ ?_
          clear hK K
          refine last_ (i := 7) (N := none) #[T,T,T,T,T,T,T,T] rfl rfl (by kernel_rfl) (by decide) (fun K hK => ?_)
          refine skip_ (w1 := ?_) (by rfl) rfl ?_ ?_
          rotate_left
          · go_simp
            rfl
          refine hK.out _ _ ?_
          clear hK K
          refine done_ (by kernel_rfl) ?_
          clear hHeld hS6 q0 q1 q2 f0 f1 f2 r0 r1 r2 e0 e1 e2
          go_wp2_with fail
          go_meet
          case rel =>
            obtain ⟨W', hW', g1, g2, g3, g4, g5⟩ := two_stored H7.out H8.out hne HL1.out HL3.out HB4.out hsb hsd
            rw [hW']
            subst hwb
            exact ⟨b7, b8, _, _, _, _, _, _, _, _, _, _, _, _, rfl, rfl, ⟨g1⟩, ⟨g2⟩, ⟨g3⟩, ⟨g4⟩, ⟨(Below.drew' wa).trans g5⟩⟩
      · skip
        refine value_ (w1 := ?_) (v := ?_) (by rfl) rfl ?_ ?_
        rotate_left 2
        · go_simp
          constructor
          · rfl
          · rfl
        have hsz := HB1.out.size
        have hlt := blk_lt H8.out
        obtain ⟨b7, wv2, hb7, hw2, hbn, hnw⟩ := newbox wv1
        have hsb : wb.heap.size ≤ b7 := by omega
        have hne : b7 ≠ b8 := by omega
        rw [hw2, ← hb7]
        have HB2 := Hd.mk (below_step HB1.out hbn)
        replace H8 := Hd.mk (blk_below H8.out hbn)
        have H7 := Hd.mk hnw
        clear hbn hnw hw2 hb7 hsz hlt
        refine hK.out _ _ (far6 HB2.out hS6) (fun hHeld => ?_)
        clear hK K
        refine norm_ (a' := ?_) ?_ ?_
        rotate_left
        · show Act.put _ (some 5) _ = _
          simp only [Act.put, List.setIfInBounds_toArray, List.set_cons_zero, List.set_cons_succ, i64_w, i32_w]
          rfl
        refine one_ (i := 1) (N := some 8) #[T,T,T,F,T,T,F,F] rfl rfl (by kernel_rfl) (by decide) (fun K hK => ?_)
        refine goes_ Try.func23 (by kernel_rfl) rfl #[.agg #[.slice A0 st.length c0, .slice A1 d.length c1, .slice A2 x.length c2]] (by rfl) rfl rfl (by simp only [List.map_toArray, List.map_cons, List.map_nil]; rfl) ?_
        refine (lend_c A0 c0 st A1 c1 d A2 c2 x _ (HE.out.below HB2.out) (by omega) (by omega) (by omega)).mono ?_
        rintro e wv3 ⟨K0, k0, K1, k1, K2, k2, rfl, hL, hbn⟩
        refine ⟨_, rfl, ?_⟩
        unfold EdV
        have HB3 := Hd.mk (below_step HB2.out hbn)
        replace H8 := Hd.mk (blk_below H8.out hbn)
        replace H7 := Hd.mk (blk_below H7.out hbn)
        have HL1 := Hd.mk hL
        clear hL hbn
        refine hK.out _ _ (far6 HB3.out hS6) (fun hHeld => ?_)
        clear hK K
        refine norm_ (a' := ?_) ?_ ?_
        rotate_left
        · show Act.put _ (some 8) _ = _
          simp only [Act.put, List.setIfInBounds_toArray, List.set_cons_zero, List.set_cons_succ, i64_w, i32_w]
          rfl
        refine one_ (i := 3) (N := some 10) #[T,T,T,T,T,T,F,F] rfl rfl (by kernel_rfl) (by decide) (fun K hK => ?_)
        refine goes_ Try.func23 (by kernel_rfl) rfl #[.agg #[.slice D0 sb.length g0, .slice D1 db.length g1, .slice D2 xb.length g2]] (by rfl) rfl rfl (by simp only [List.map_toArray, List.map_cons, List.map_nil]; rfl) ?_
        refine (lend_c D0 g0 sb D1 g1 db D2 g2 xb _ (HG.out.below HB3.out) (by omega) (by omega) (by omega)).mono ?_
        rintro e wv4 ⟨M0, m0, M1, m1, M2, m2, rfl, hL, hbn⟩
        refine ⟨_, rfl, ?_⟩
        unfold EdV
        have HB4 := Hd.mk (below_step HB3.out hbn)
        replace H8 := Hd.mk (blk_below H8.out hbn)
        replace H7 := Hd.mk (blk_below H7.out hbn)
        replace HL1 := Hd.mk (HL1.out.below hbn)
        have HL3 := Hd.mk hL
        clear hL hbn
        refine hK.out _ _ (far6 HB4.out hS6) (fun hHeld => ?_)
        clear hK K
        refine norm_ (a' := ?_) ?_ ?_
        rotate_left
        · show Act.put _ (some 10) _ = _
          simp only [Act.put, List.setIfInBounds_toArray, List.set_cons_zero, List.set_cons_succ, i64_w, i32_w]
          rfl
        obtain ⟨q0, q1, q2, f0, f1, f2⟩ := none3 H7.out
        obtain ⟨r0, r1, r2, e0, e1, e2⟩ := none3 H8.out
        refine last_ (i := 6) (N := none) #[T,T,T,T,T,T,T,F] rfl rfl (by kernel_rfl) (by decide) (fun K hK => ?_)
        refine skip_ (w1 := ?_) (by rfl) rfl ?_ ?_
        rotate_left
        · go_simp
          rfl
        refine hK.out _ _ ?_
        clear hK K
        refine last_ (i := 7) (N := none) #[T,T,T,T,T,T,T,T] rfl rfl (by kernel_rfl) (by decide) (fun K hK => ?_)
        refine skip_ (w1 := ?_) (by rfl) rfl ?_ ?_
        rotate_left
        · go_simp
          rfl
        refine hK.out _ _ ?_
        clear hK K
        refine done_ (by kernel_rfl) ?_
        clear hHeld hS6 q0 q1 q2 f0 f1 f2 r0 r1 r2 e0 e1 e2
        go_wp2_with fail
        go_meet
        case rel =>
          obtain ⟨W', hW', g1, g2, g3, g4, g5⟩ := two_stored H7.out H8.out hne HL1.out HL3.out HB4.out hsb hsd
          rw [hW']
          subst hwb
          exact ⟨b7, b8, _, _, _, _, _, _, _, _, _, _, _, _, rfl, rfl, ⟨g1⟩, ⟨g2⟩, ⟨g3⟩, ⟨g4⟩, ⟨(Below.drew' wa).trans g5⟩⟩
  case rest =>
    obtain ⟨b7, b8, K0, k0, K1, k1, K2, k2, M0, m0, M1, m1, M2, m2, rfl, rfl, HL, HM, HT, HU, HBC⟩ := hcut
    replace HB := Hd.mk (below_step HB.out HBC.out)
    replace HE := Hd.mk (HE.out.below HBC.out)
    replace HG := Hd.mk (HG.out.below HBC.out)
    replace HY := Hd.mk (blk_below HY.out HBC.out)
    replace HV := Hd.mk (blk_below HV.out HBC.out)
    clear HBC
    have HS := Hd.mk (show sameE st d x st d x = true by simp [sameE])
    have cHY0 := blk_cell HY.out 0
    have cHY1 := blk_cell HY.out 1
    have cHY2 := blk_cell HY.out 2
    have cHV0 := blk_cell HV.out 0
    have cHV1 := blk_cell HV.out 1
    have cHV2 := blk_cell HV.out 2
    have cHT0 := blk_cell HT.out 0
    have cHT1 := blk_cell HT.out 1
    have cHT2 := blk_cell HT.out 2
    have cHU0 := blk_cell HU.out 0
    have cHU1 := blk_cell HU.out 1
    have cHU2 := blk_cell HU.out 2
    simp at cHY0 cHY1 cHY2 cHV0 cHV1 cHV2 cHT0 cHT1 cHT2 cHU0 cHU1 cHU2
    go_wp2_with fail
    clear cHY0 cHY1 cHY2 cHV0 cHV1 cHV2 cHT0 cHT1 cHT2 cHU0 cHU1 cHU2
    replace HB := Hd.mk (below_step HB.out (Below.drew' wc))
    replace HE := Hd.mk (HE.out.below (Below.drew' wc))
    replace HG := Hd.mk (HG.out.below (Below.drew' wc))
    replace HY := Hd.mk (blk_below HY.out (Below.drew' wc))
    replace HV := Hd.mk (blk_below HV.out (Below.drew' wc))
    replace HL := Hd.mk (HL.out.below (Below.drew' wc))
    replace HM := Hd.mk (HM.out.below (Below.drew' wc))
    replace HT := Hd.mk (blk_below HT.out (Below.drew' wc))
    replace HU := Hd.mk (blk_below HU.out (Below.drew' wc))
    have cHY0 := blk_cell HY.out 0
    have cHY1 := blk_cell HY.out 1
    have cHY2 := blk_cell HY.out 2
    have cHV0 := blk_cell HV.out 0
    have cHV1 := blk_cell HV.out 1
    have cHV2 := blk_cell HV.out 2
    have cHT0 := blk_cell HT.out 0
    have cHT1 := blk_cell HT.out 1
    have cHT2 := blk_cell HT.out 2
    have cHU0 := blk_cell HU.out 0
    have cHU1 := blk_cell HU.out 1
    have cHU2 := blk_cell HU.out 2
    simp at cHY0 cHY1 cHY2 cHV0 cHV1 cHV2 cHT0 cHT1 cHT2 cHU0 cHU1 cHU2
    refine start_ (n := 27) (S := fun w' => w'.cell? ⟨w.heap.size, 0, none⟩ = some (.slice A0 st.length c0) ∧ w'.cell? ⟨w.heap.size, 1, none⟩ = some (.slice A1 d.length c1) ∧ w'.cell? ⟨w.heap.size, 2, none⟩ = some (.slice A2 x.length c2) ∧ w'.cell? ⟨w.heap.size + 1, 0, none⟩ = some (.slice D0 sb.length g0) ∧ w'.cell? ⟨w.heap.size + 1, 1, none⟩ = some (.slice D1 db.length g1) ∧ w'.cell? ⟨w.heap.size + 1, 2, none⟩ = some (.slice D2 xb.length g2) ∧ w'.cell? ⟨b7, 0, none⟩ = some (.slice K0 st.length k0) ∧ w'.cell? ⟨b7, 1, none⟩ = some (.slice K1 d.length k1) ∧ w'.cell? ⟨b7, 2, none⟩ = some (.slice K2 x.length k2) ∧ w'.cell? ⟨b8, 0, none⟩ = some (.slice M0 sb.length m0) ∧ w'.cell? ⟨b8, 1, none⟩ = some (.slice M1 db.length m1) ∧ w'.cell? ⟨b8, 2, none⟩ = some (.slice M2 xb.length m2)) (ds := []) #[F,F,F,F,F,F,F,F,F,F,F,F,F,F,F,F,F,F,F,F,F,F,F,F,F,F,F] (by kernel_rfl) rfl rfl ⟨cHY0, cHY1, cHY2, cHV0, cHV1, cHV2, cHT0, cHT1, cHT2, cHU0, cHU1, cHU2⟩ (fun hHeld => ?_)
    refine take_ (i := 0) (N := some 11) (v := ?_) (a' := ?_) #[T,F,F,F,F,F,F,F,F,F,F,F,F,F,F,F,F,F,F,F,F,F,F,F,F,F,F] rfl rfl (by kernel_rfl) (fun _ _ _ h => h) (Or.inl ⟨by rfl, ?_⟩) hHeld ?_ ?_
    rotate_left
    · rintro w' ⟨s0, s1, s2, s3, s4, s5, s6, s7, s8, s9, s10, s11⟩
      go_simp
      with_reducible rfl
    rotate_left
    · simp only [Act.put, List.setIfInBounds_toArray, List.set_cons_zero, List.set_cons_succ, i64_w, i32_w]
      rfl
    refine take_ (i := 1) (N := some 12) (v := ?_) (a' := ?_) #[T,T,F,F,F,F,F,F,F,F,F,F,F,F,F,F,F,F,F,F,F,F,F,F,F,F,F] rfl rfl (by kernel_rfl) (fun _ _ _ h => h) (Or.inl ⟨by rfl, ?_⟩) hHeld ?_ ?_
    rotate_left
    · rintro w' ⟨s0, s1, s2, s3, s4, s5, s6, s7, s8, s9, s10, s11⟩
      go_simp
      with_reducible rfl
    rotate_left
    · simp only [Act.put, List.setIfInBounds_toArray, List.set_cons_zero, List.set_cons_succ, i64_w, i32_w]
      rfl
    refine take_ (i := 3) (N := some 14) (v := ?_) (a' := ?_) #[T,T,F,T,F,F,F,F,F,F,F,F,F,F,F,F,F,F,F,F,F,F,F,F,F,F,F] rfl rfl (by kernel_rfl) (fun _ _ _ h => h) (Or.inl ⟨by rfl, ?_⟩) hHeld ?_ ?_
    rotate_left
    · rintro w' ⟨s0, s1, s2, s3, s4, s5, s6, s7, s8, s9, s10, s11⟩
      go_simp
      with_reducible rfl
    rotate_left
    · simp only [Act.put, List.setIfInBounds_toArray, List.set_cons_zero, List.set_cons_succ, i64_w, i32_w]
      rfl
    refine take_ (i := 4) (N := some 15) (v := ?_) (a' := ?_) #[T,T,F,T,T,F,F,F,F,F,F,F,F,F,F,F,F,F,F,F,F,F,F,F,F,F,F] rfl rfl (by kernel_rfl) (fun _ _ _ h => h) (Or.inl ⟨by rfl, ?_⟩) hHeld ?_ ?_
    rotate_left
    · rintro w' ⟨s0, s1, s2, s3, s4, s5, s6, s7, s8, s9, s10, s11⟩
      go_simp
      with_reducible rfl
    rotate_left
    · simp only [Act.put, List.setIfInBounds_toArray, List.set_cons_zero, List.set_cons_succ, i64_w, i32_w]
      rfl
    refine one_ (i := 2) (N := some 13) #[T,T,T,T,T,F,F,F,F,F,F,F,F,F,F,F,F,F,F,F,F,F,F,F,F,F,F] rfl rfl (by kernel_rfl) (by decide) (fun K hK => ?_)
    refine goes_ Try.func32 (by kernel_rfl) rfl #[.agg #[.slice K0 st.length k0, .slice K1 d.length k1, .slice K2 x.length k2], .agg #[.slice M0 sb.length m0, .slice M1 db.length m1, .slice M2 xb.length m2]] (by rfl) rfl rfl (by simp only [List.map_toArray, List.map_cons, List.map_nil]; rfl) ?_
    with_reducible refine (alikeA_c HL.out.edc HM.out.edc HSM.out).mono ?_
    rintro e w3 ⟨rfl, hb3⟩
    refine ⟨_, rfl, ?_⟩
    clear cHY0 cHY1 cHY2 cHV0 cHV1 cHV2 cHT0 cHT1 cHT2 cHU0 cHU1 cHU2
    replace HB := Hd.mk (below_step HB.out hb3)
    replace HE := Hd.mk (HE.out.below hb3)
    replace HG := Hd.mk (HG.out.below hb3)
    replace HY := Hd.mk (blk_below HY.out hb3)
    replace HV := Hd.mk (blk_below HV.out hb3)
    replace HL := Hd.mk (HL.out.below hb3)
    replace HM := Hd.mk (HM.out.below hb3)
    replace HT := Hd.mk (blk_below HT.out hb3)
    replace HU := Hd.mk (blk_below HU.out hb3)
    have cHY0 := blk_cell HY.out 0
    have cHY1 := blk_cell HY.out 1
    have cHY2 := blk_cell HY.out 2
    have cHV0 := blk_cell HV.out 0
    have cHV1 := blk_cell HV.out 1
    have cHV2 := blk_cell HV.out 2
    have cHT0 := blk_cell HT.out 0
    have cHT1 := blk_cell HT.out 1
    have cHT2 := blk_cell HT.out 2
    have cHU0 := blk_cell HU.out 0
    have cHU1 := blk_cell HU.out 1
    have cHU2 := blk_cell HU.out 2
    simp at cHY0 cHY1 cHY2 cHV0 cHV1 cHV2 cHT0 cHT1 cHT2 cHU0 cHU1 cHU2
    clear hb3
    refine hK.out _ _ ⟨cHY0, cHY1, cHY2, cHV0, cHV1, cHV2, cHT0, cHT1, cHT2, cHU0, cHU1, cHU2⟩ (fun hHeld => ?_)
    clear hK K
    refine norm_ (a' := ?_) ?_ ?_
    rotate_left
    · show Act.put _ (some 13) _ = _
      simp only [Act.put, List.setIfInBounds_toArray, List.set_cons_zero, List.set_cons_succ, i64_w, i32_w]
      rfl
    refine one_ (i := 5) (N := some 16) #[T,T,T,T,T,T,F,F,F,F,F,F,F,F,F,F,F,F,F,F,F,F,F,F,F,F,F] rfl rfl (by kernel_rfl) (by decide) (fun K hK => ?_)
    refine goes_ Try.func33 (by kernel_rfl) rfl #[.agg #[.slice A0 st.length c0, .slice A1 d.length c1, .slice A2 x.length c2], .agg #[.slice D0 sb.length g0, .slice D1 db.length g1, .slice D2 xb.length g2]] (by rfl) rfl rfl (by simp only [List.map_toArray, List.map_cons, List.map_nil]; rfl) ?_
    with_reducible refine (ralikeA_c HE.out HG.out H8.out.1 H8.out.2.1 H8.out.2.2.1 H8.out.2.2.2 HSM.out).mono ?_
    rintro e w4 ⟨rfl, hb4⟩
    refine ⟨_, rfl, ?_⟩
    clear cHY0 cHY1 cHY2 cHV0 cHV1 cHV2 cHT0 cHT1 cHT2 cHU0 cHU1 cHU2
    replace HB := Hd.mk (below_step HB.out hb4)
    replace HE := Hd.mk (HE.out.below hb4)
    replace HG := Hd.mk (HG.out.below hb4)
    replace HY := Hd.mk (blk_below HY.out hb4)
    replace HV := Hd.mk (blk_below HV.out hb4)
    replace HL := Hd.mk (HL.out.below hb4)
    replace HM := Hd.mk (HM.out.below hb4)
    replace HT := Hd.mk (blk_below HT.out hb4)
    replace HU := Hd.mk (blk_below HU.out hb4)
    have cHY0 := blk_cell HY.out 0
    have cHY1 := blk_cell HY.out 1
    have cHY2 := blk_cell HY.out 2
    have cHV0 := blk_cell HV.out 0
    have cHV1 := blk_cell HV.out 1
    have cHV2 := blk_cell HV.out 2
    have cHT0 := blk_cell HT.out 0
    have cHT1 := blk_cell HT.out 1
    have cHT2 := blk_cell HT.out 2
    have cHU0 := blk_cell HU.out 0
    have cHU1 := blk_cell HU.out 1
    have cHU2 := blk_cell HU.out 2
    simp at cHY0 cHY1 cHY2 cHV0 cHV1 cHV2 cHT0 cHT1 cHT2 cHU0 cHU1 cHU2
    clear hb4
    refine hK.out _ _ ⟨cHY0, cHY1, cHY2, cHV0, cHV1, cHV2, cHT0, cHT1, cHT2, cHU0, cHU1, cHU2⟩ (fun hHeld => ?_)
    clear hK K
    refine norm_ (a' := ?_) ?_ ?_
    rotate_left
    · show Act.put _ (some 16) _ = _
      simp only [Act.put, List.setIfInBounds_toArray, List.set_cons_zero, List.set_cons_succ, i64_w, i32_w]
      rfl
    refine pure_ (i := 6) (N := some 17) (v := ?_) (a' := ?_) #[T,T,T,T,T,T,T,F,F,F,F,F,F,F,F,F,F,F,F,F,F,F,F,F,F,F,F] rfl rfl (by kernel_rfl) (fun _ _ _ h => h) (Or.inl ⟨by rfl, ?_⟩) ?_ ?_
    rotate_left
    · intro w'
      go_simp
      with_reducible rfl
    rotate_left
    · simp only [Act.put, List.setIfInBounds_toArray, List.set_cons_zero, List.set_cons_succ, i64_w, i32_w]
      rfl
    refine pure_ (i := 7) (N := some 18) (v := ?_) (a' := ?_) #[T,T,T,T,T,T,T,T,F,F,F,F,F,F,F,F,F,F,F,F,F,F,F,F,F,F,F] rfl rfl (by kernel_rfl) (fun _ _ _ h => h) (Or.inl ⟨by rfl, ?_⟩) ?_ ?_
    rotate_left
    · intro w'
      go_simp
      with_reducible rfl
    rotate_left
    · simp only [Act.put, List.setIfInBounds_toArray, List.set_cons_zero, List.set_cons_succ, i64_w, i32_w]
      rfl
    refine take_ (i := 8) (N := some 19) (v := ?_) (a' := ?_) #[T,T,T,T,T,T,T,T,T,F,F,F,F,F,F,F,F,F,F,F,F,F,F,F,F,F,F] rfl rfl (by kernel_rfl) (fun _ _ _ h => h) (Or.inl ⟨by rfl, ?_⟩) hHeld ?_ ?_
    rotate_left
    · rintro w' ⟨s0, s1, s2, s3, s4, s5, s6, s7, s8, s9, s10, s11⟩
      go_simp
      with_reducible rfl
    rotate_left
    · simp only [Act.put, List.setIfInBounds_toArray, List.set_cons_zero, List.set_cons_succ, i64_w, i32_w]
      rfl
    refine take_ (i := 9) (N := some 20) (v := ?_) (a' := ?_) #[T,T,T,T,T,T,T,T,T,T,F,F,F,F,F,F,F,F,F,F,F,F,F,F,F,F,F] rfl rfl (by kernel_rfl) (fun _ _ _ h => h) (Or.inl ⟨by rfl, ?_⟩) hHeld ?_ ?_
    rotate_left
    · rintro w' ⟨s0, s1, s2, s3, s4, s5, s6, s7, s8, s9, s10, s11⟩
      go_simp
      with_reducible rfl
    rotate_left
    · simp only [Act.put, List.setIfInBounds_toArray, List.set_cons_zero, List.set_cons_succ, i64_w, i32_w]
      rfl
    refine one_ (i := 10) (N := some 21) #[T,T,T,T,T,T,T,T,T,T,T,F,F,F,F,F,F,F,F,F,F,F,F,F,F,F,F] rfl rfl (by kernel_rfl) (by decide) (fun K hK => ?_)
    refine goes_ Try.func23 (by kernel_rfl) rfl #[.agg #[.slice A0 st.length c0, .slice A1 d.length c1, .slice A2 x.length c2]] (by rfl) rfl rfl (by simp only [List.map_toArray, List.map_cons, List.map_nil]; rfl) ?_
    with_reducible refine (lend_r HE.out HF.out.1.1 HF.out.1.2.1 HF.out.1.2.2).mono ?_
    rintro e w5 ⟨N0, q0, N1, q1, N2, q2, rfl, hN, hb5⟩
    refine ⟨_, rfl, ?_⟩
    clear cHY0 cHY1 cHY2 cHV0 cHV1 cHV2 cHT0 cHT1 cHT2 cHU0 cHU1 cHU2
    replace HB := Hd.mk (below_step HB.out hb5)
    replace HE := Hd.mk (HE.out.below hb5)
    replace HG := Hd.mk (HG.out.below hb5)
    replace HY := Hd.mk (blk_below HY.out hb5)
    replace HV := Hd.mk (blk_below HV.out hb5)
    replace HL := Hd.mk (HL.out.below hb5)
    replace HM := Hd.mk (HM.out.below hb5)
    replace HT := Hd.mk (blk_below HT.out hb5)
    replace HU := Hd.mk (blk_below HU.out hb5)
    have cHY0 := blk_cell HY.out 0
    have cHY1 := blk_cell HY.out 1
    have cHY2 := blk_cell HY.out 2
    have cHV0 := blk_cell HV.out 0
    have cHV1 := blk_cell HV.out 1
    have cHV2 := blk_cell HV.out 2
    have cHT0 := blk_cell HT.out 0
    have cHT1 := blk_cell HT.out 1
    have cHT2 := blk_cell HT.out 2
    have cHU0 := blk_cell HU.out 0
    have cHU1 := blk_cell HU.out 1
    have cHU2 := blk_cell HU.out 2
    simp at cHY0 cHY1 cHY2 cHV0 cHV1 cHV2 cHT0 cHT1 cHT2 cHU0 cHU1 cHU2
    have HN := Hd.mk hN
    clear hb5 hN
    refine hK.out _ _ ⟨cHY0, cHY1, cHY2, cHV0, cHV1, cHV2, cHT0, cHT1, cHT2, cHU0, cHU1, cHU2⟩ (fun hHeld => ?_)
    clear hK K
    refine norm_ (a' := ?_) ?_ ?_
    rotate_left
    · show Act.put _ (some 21) _ = _
      simp only [Act.put, List.setIfInBounds_toArray, List.set_cons_zero, List.set_cons_succ, i64_w, i32_w]
      rfl
    refine one_ (i := 11) (N := some 22) #[T,T,T,T,T,T,T,T,T,T,T,T,F,F,F,F,F,F,F,F,F,F,F,F,F,F,F] rfl rfl (by kernel_rfl) (by decide) (fun K hK => ?_)
    refine goes_ Try.func32 (by kernel_rfl) rfl #[.agg #[.slice K0 st.length k0, .slice K1 d.length k1, .slice K2 x.length k2], .agg #[.slice N0 st.length q0, .slice N1 d.length q1, .slice N2 x.length q2]] (by rfl) rfl rfl (by simp only [List.map_toArray, List.map_cons, List.map_nil]; rfl) ?_
    with_reducible refine (alikeA_c HL.out.edc HN.out.edc HS.out).mono ?_
    rintro e w6 ⟨rfl, hb6⟩
    refine ⟨_, rfl, ?_⟩
    clear cHY0 cHY1 cHY2 cHV0 cHV1 cHV2 cHT0 cHT1 cHT2 cHU0 cHU1 cHU2
    replace HB := Hd.mk (below_step HB.out hb6)
    replace HE := Hd.mk (HE.out.below hb6)
    replace HG := Hd.mk (HG.out.below hb6)
    replace HY := Hd.mk (blk_below HY.out hb6)
    replace HV := Hd.mk (blk_below HV.out hb6)
    replace HL := Hd.mk (HL.out.below hb6)
    replace HM := Hd.mk (HM.out.below hb6)
    replace HT := Hd.mk (blk_below HT.out hb6)
    replace HU := Hd.mk (blk_below HU.out hb6)
    have cHY0 := blk_cell HY.out 0
    have cHY1 := blk_cell HY.out 1
    have cHY2 := blk_cell HY.out 2
    have cHV0 := blk_cell HV.out 0
    have cHV1 := blk_cell HV.out 1
    have cHV2 := blk_cell HV.out 2
    have cHT0 := blk_cell HT.out 0
    have cHT1 := blk_cell HT.out 1
    have cHT2 := blk_cell HT.out 2
    have cHU0 := blk_cell HU.out 0
    have cHU1 := blk_cell HU.out 1
    have cHU2 := blk_cell HU.out 2
    simp at cHY0 cHY1 cHY2 cHV0 cHV1 cHV2 cHT0 cHT1 cHT2 cHU0 cHU1 cHU2
    clear hb6 HN
    refine hK.out _ _ ⟨cHY0, cHY1, cHY2, cHV0, cHV1, cHV2, cHT0, cHT1, cHT2, cHU0, cHU1, cHU2⟩ (fun hHeld => ?_)
    clear hK K
    refine norm_ (a' := ?_) ?_ ?_
    rotate_left
    · show Act.put _ (some 22) _ = _
      simp only [Act.put, List.setIfInBounds_toArray, List.set_cons_zero, List.set_cons_succ, i64_w, i32_w]
      rfl
    refine pure_ (i := 12) (N := some 23) (v := ?_) (a' := ?_) #[T,T,T,T,T,T,T,T,T,T,T,T,T,F,F,F,F,F,F,F,F,F,F,F,F,F,F] rfl rfl (by kernel_rfl) (fun _ _ _ h => h) (Or.inl ⟨by rfl, ?_⟩) ?_ ?_
    rotate_left
    · intro w'
      go_simp
      with_reducible rfl
    rotate_left
    · simp only [Act.put, List.setIfInBounds_toArray, List.set_cons_zero, List.set_cons_succ, i64_w, i32_w]
      rfl
    refine pure_ (i := 13) (N := some 24) (v := ?_) (a' := ?_) #[T,T,T,T,T,T,T,T,T,T,T,T,T,T,F,F,F,F,F,F,F,F,F,F,F,F,F] rfl rfl (by kernel_rfl) (fun _ _ _ h => h) (Or.inl ⟨by rfl, ?_⟩) ?_ ?_
    rotate_left
    · intro w'
      go_simp
      with_reducible rfl
    rotate_left
    · simp only [Act.put, List.setIfInBounds_toArray, List.set_cons_zero, List.set_cons_succ, i64_w, i32_w]
      rfl
    refine take_ (i := 14) (N := some 25) (v := ?_) (a' := ?_) #[T,T,T,T,T,T,T,T,T,T,T,T,T,T,T,F,F,F,F,F,F,F,F,F,F,F,F] rfl rfl (by kernel_rfl) (fun _ _ _ h => h) (Or.inl ⟨by rfl, ?_⟩) hHeld ?_ ?_
    rotate_left
    · rintro w' ⟨s0, s1, s2, s3, s4, s5, s6, s7, s8, s9, s10, s11⟩
      go_simp
      with_reducible rfl
    rotate_left
    · simp only [Act.put, List.setIfInBounds_toArray, List.set_cons_zero, List.set_cons_succ, i64_w, i32_w]
      rfl
    refine take_ (i := 15) (N := some 26) (v := ?_) (a' := ?_) #[T,T,T,T,T,T,T,T,T,T,T,T,T,T,T,T,F,F,F,F,F,F,F,F,F,F,F] rfl rfl (by kernel_rfl) (fun _ _ _ h => h) (Or.inl ⟨by rfl, ?_⟩) hHeld ?_ ?_
    rotate_left
    · rintro w' ⟨s0, s1, s2, s3, s4, s5, s6, s7, s8, s9, s10, s11⟩
      go_simp
      with_reducible rfl
    rotate_left
    · simp only [Act.put, List.setIfInBounds_toArray, List.set_cons_zero, List.set_cons_succ, i64_w, i32_w]
      rfl
    refine one_ (i := 16) (N := some 27) #[T,T,T,T,T,T,T,T,T,T,T,T,T,T,T,T,T,F,F,F,F,F,F,F,F,F,F] rfl rfl (by kernel_rfl) (by decide) (fun K hK => ?_)
    refine goes_ Try.func27 (by kernel_rfl) rfl #[.agg #[.slice K0 st.length k0, .slice K1 d.length k1, .slice K2 x.length k2], .agg #[.slice A0 st.length c0, .slice A1 d.length c1, .slice A2 x.length c2]] (by rfl) rfl rfl (by simp only [List.map_toArray, List.map_cons, List.map_nil]; rfl) ?_
    with_reducible refine (kept_r HL.out HE.out).mono ?_
    rintro e w7 ⟨rfl, hb7⟩
    refine ⟨_, rfl, ?_⟩
    clear cHY0 cHY1 cHY2 cHV0 cHV1 cHV2 cHT0 cHT1 cHT2 cHU0 cHU1 cHU2
    replace HB := Hd.mk (below_step HB.out hb7)
    replace HE := Hd.mk (HE.out.below hb7)
    replace HG := Hd.mk (HG.out.below hb7)
    replace HY := Hd.mk (blk_below HY.out hb7)
    replace HV := Hd.mk (blk_below HV.out hb7)
    replace HL := Hd.mk (HL.out.below hb7)
    replace HM := Hd.mk (HM.out.below hb7)
    replace HT := Hd.mk (blk_below HT.out hb7)
    replace HU := Hd.mk (blk_below HU.out hb7)
    have cHY0 := blk_cell HY.out 0
    have cHY1 := blk_cell HY.out 1
    have cHY2 := blk_cell HY.out 2
    have cHV0 := blk_cell HV.out 0
    have cHV1 := blk_cell HV.out 1
    have cHV2 := blk_cell HV.out 2
    have cHT0 := blk_cell HT.out 0
    have cHT1 := blk_cell HT.out 1
    have cHT2 := blk_cell HT.out 2
    have cHU0 := blk_cell HU.out 0
    have cHU1 := blk_cell HU.out 1
    have cHU2 := blk_cell HU.out 2
    simp at cHY0 cHY1 cHY2 cHV0 cHV1 cHV2 cHT0 cHT1 cHT2 cHU0 cHU1 cHU2
    clear hb7
    refine hK.out _ _ ⟨cHY0, cHY1, cHY2, cHV0, cHV1, cHV2, cHT0, cHT1, cHT2, cHU0, cHU1, cHU2⟩ (fun hHeld => ?_)
    clear hK K
    refine norm_ (a' := ?_) ?_ ?_
    rotate_left
    · show Act.put _ (some 27) _ = _
      simp only [Act.put, List.setIfInBounds_toArray, List.set_cons_zero, List.set_cons_succ, i64_w, i32_w]
      rfl
    refine pure_ (i := 17) (N := some 28) (v := ?_) (a' := ?_) #[T,T,T,T,T,T,T,T,T,T,T,T,T,T,T,T,T,T,F,F,F,F,F,F,F,F,F] rfl rfl (by kernel_rfl) (fun _ _ _ h => h) (Or.inl ⟨by rfl, ?_⟩) ?_ ?_
    rotate_left
    · intro w'
      go_simp
      with_reducible rfl
    rotate_left
    · simp only [Act.put, List.setIfInBounds_toArray, List.set_cons_zero, List.set_cons_succ, i64_w, i32_w]
      rfl
    refine pure_ (i := 18) (N := some 29) (v := ?_) (a' := ?_) #[T,T,T,T,T,T,T,T,T,T,T,T,T,T,T,T,T,T,T,F,F,F,F,F,F,F,F] rfl rfl (by kernel_rfl) (fun _ _ _ h => h) (Or.inl ⟨by rfl, ?_⟩) ?_ ?_
    rotate_left
    · intro w'
      go_simp
      with_reducible rfl
    rotate_left
    · simp only [Act.put, List.setIfInBounds_toArray, List.set_cons_zero, List.set_cons_succ, i64_w, i32_w]
      rfl
    refine take_ (i := 19) (N := some 30) (v := ?_) (a' := ?_) #[T,T,T,T,T,T,T,T,T,T,T,T,T,T,T,T,T,T,T,T,F,F,F,F,F,F,F] rfl rfl (by kernel_rfl) (fun _ _ _ h => h) (Or.inl ⟨by rfl, ?_⟩) hHeld ?_ ?_
    rotate_left
    · rintro w' ⟨s0, s1, s2, s3, s4, s5, s6, s7, s8, s9, s10, s11⟩
      go_simp
      with_reducible rfl
    rotate_left
    · simp only [Act.put, List.setIfInBounds_toArray, List.set_cons_zero, List.set_cons_succ, i64_w, i32_w]
      rfl
    refine take_ (i := 20) (N := some 31) (v := ?_) (a' := ?_) #[T,T,T,T,T,T,T,T,T,T,T,T,T,T,T,T,T,T,T,T,T,F,F,F,F,F,F] rfl rfl (by kernel_rfl) (fun _ _ _ h => h) (Or.inl ⟨by rfl, ?_⟩) hHeld ?_ ?_
    rotate_left
    · rintro w' ⟨s0, s1, s2, s3, s4, s5, s6, s7, s8, s9, s10, s11⟩
      go_simp
      with_reducible rfl
    rotate_left
    · simp only [Act.put, List.setIfInBounds_toArray, List.set_cons_zero, List.set_cons_succ, i64_w, i32_w]
      rfl
    refine one_ (i := 21) (N := some 32) #[T,T,T,T,T,T,T,T,T,T,T,T,T,T,T,T,T,T,T,T,T,T,F,F,F,F,F] rfl rfl (by kernel_rfl) (by decide) (fun K hK => ?_)
    refine goes_ Try.func27 (by kernel_rfl) rfl #[.agg #[.slice M0 sb.length m0, .slice M1 db.length m1, .slice M2 xb.length m2], .agg #[.slice D0 sb.length g0, .slice D1 db.length g1, .slice D2 xb.length g2]] (by rfl) rfl rfl (by simp only [List.map_toArray, List.map_cons, List.map_nil]; rfl) ?_
    with_reducible refine (kept_r HM.out HG.out).mono ?_
    rintro e w8 ⟨rfl, hb8⟩
    refine ⟨_, rfl, ?_⟩
    clear cHY0 cHY1 cHY2 cHV0 cHV1 cHV2 cHT0 cHT1 cHT2 cHU0 cHU1 cHU2
    replace HB := Hd.mk (below_step HB.out hb8)
    replace HE := Hd.mk (HE.out.below hb8)
    replace HG := Hd.mk (HG.out.below hb8)
    replace HY := Hd.mk (blk_below HY.out hb8)
    replace HV := Hd.mk (blk_below HV.out hb8)
    replace HL := Hd.mk (HL.out.below hb8)
    replace HM := Hd.mk (HM.out.below hb8)
    replace HT := Hd.mk (blk_below HT.out hb8)
    replace HU := Hd.mk (blk_below HU.out hb8)
    have cHY0 := blk_cell HY.out 0
    have cHY1 := blk_cell HY.out 1
    have cHY2 := blk_cell HY.out 2
    have cHV0 := blk_cell HV.out 0
    have cHV1 := blk_cell HV.out 1
    have cHV2 := blk_cell HV.out 2
    have cHT0 := blk_cell HT.out 0
    have cHT1 := blk_cell HT.out 1
    have cHT2 := blk_cell HT.out 2
    have cHU0 := blk_cell HU.out 0
    have cHU1 := blk_cell HU.out 1
    have cHU2 := blk_cell HU.out 2
    simp at cHY0 cHY1 cHY2 cHV0 cHV1 cHV2 cHT0 cHT1 cHT2 cHU0 cHU1 cHU2
    clear hb8
    refine hK.out _ _ ⟨cHY0, cHY1, cHY2, cHV0, cHV1, cHV2, cHT0, cHT1, cHT2, cHU0, cHU1, cHU2⟩ (fun hHeld => ?_)
    clear hK K
    refine norm_ (a' := ?_) ?_ ?_
    rotate_left
    · show Act.put _ (some 32) _ = _
      simp only [Act.put, List.setIfInBounds_toArray, List.set_cons_zero, List.set_cons_succ, i64_w, i32_w]
      rfl
    refine pure_ (i := 22) (N := some 33) (v := ?_) (a' := ?_) #[T,T,T,T,T,T,T,T,T,T,T,T,T,T,T,T,T,T,T,T,T,T,T,F,F,F,F] rfl rfl (by kernel_rfl) (fun _ _ _ h => h) (Or.inl ⟨by rfl, ?_⟩) ?_ ?_
    rotate_left
    · intro w'
      go_simp
      with_reducible rfl
    rotate_left
    · simp only [Act.put, List.setIfInBounds_toArray, List.set_cons_zero, List.set_cons_succ, i64_w, i32_w]
      rfl
    refine pure_ (i := 23) (N := some 34) (v := ?_) (a' := ?_) #[T,T,T,T,T,T,T,T,T,T,T,T,T,T,T,T,T,T,T,T,T,T,T,T,F,F,F] rfl rfl (by kernel_rfl) (fun _ _ _ h => h) (Or.inl ⟨by rfl, ?_⟩) ?_ ?_
    rotate_left
    · intro w'
      go_simp
      with_reducible rfl
    rotate_left
    · simp only [Act.put, List.setIfInBounds_toArray, List.set_cons_zero, List.set_cons_succ, i64_w, i32_w]
      rfl
    refine one_ (i := 24) (N := some 35) #[T,T,T,T,T,T,T,T,T,T,T,T,T,T,T,T,T,T,T,T,T,T,T,T,T,F,F] rfl rfl (by kernel_rfl) (by decide) (fun K hK => ?_)
    refine goes_ Try.func22 (by kernel_rfl) rfl #[] (by rfl) rfl rfl (by simp only [List.map_toArray, List.map_nil]) ?_
    refine (awake_c _).mono ?_
    rintro e w9 ⟨rfl, hb9⟩
    refine ⟨_, rfl, ?_⟩
    clear cHY0 cHY1 cHY2 cHV0 cHV1 cHV2 cHT0 cHT1 cHT2 cHU0 cHU1 cHU2
    replace HB := Hd.mk (below_step HB.out hb9)
    replace HE := Hd.mk (HE.out.below hb9)
    replace HG := Hd.mk (HG.out.below hb9)
    replace HY := Hd.mk (blk_below HY.out hb9)
    replace HV := Hd.mk (blk_below HV.out hb9)
    replace HL := Hd.mk (HL.out.below hb9)
    replace HM := Hd.mk (HM.out.below hb9)
    replace HT := Hd.mk (blk_below HT.out hb9)
    replace HU := Hd.mk (blk_below HU.out hb9)
    have cHY0 := blk_cell HY.out 0
    have cHY1 := blk_cell HY.out 1
    have cHY2 := blk_cell HY.out 2
    have cHV0 := blk_cell HV.out 0
    have cHV1 := blk_cell HV.out 1
    have cHV2 := blk_cell HV.out 2
    have cHT0 := blk_cell HT.out 0
    have cHT1 := blk_cell HT.out 1
    have cHT2 := blk_cell HT.out 2
    have cHU0 := blk_cell HU.out 0
    have cHU1 := blk_cell HU.out 1
    have cHU2 := blk_cell HU.out 2
    simp at cHY0 cHY1 cHY2 cHV0 cHV1 cHV2 cHT0 cHT1 cHT2 cHU0 cHU1 cHU2
    clear hb9
    refine hK.out _ _ ⟨cHY0, cHY1, cHY2, cHV0, cHV1, cHV2, cHT0, cHT1, cHT2, cHU0, cHU1, cHU2⟩ (fun hHeld => ?_)
    clear hK K
    refine norm_ (a' := ?_) ?_ ?_
    rotate_left
    · show Act.put _ (some 35) _ = _
      simp only [Act.put, List.setIfInBounds_toArray, List.set_cons_zero, List.set_cons_succ, i64_w, i32_w]
      rfl
    refine pure_ (i := 25) (N := some 36) (v := ?_) (a' := ?_) #[T,T,T,T,T,T,T,T,T,T,T,T,T,T,T,T,T,T,T,T,T,T,T,T,T,T,F] rfl rfl (by kernel_rfl) (fun _ _ _ h => h) (Or.inl ⟨by rfl, ?_⟩) ?_ ?_
    rotate_left
    · intro w'
      go_simp
      with_reducible rfl
    rotate_left
    · simp only [Act.put, List.setIfInBounds_toArray, List.set_cons_zero, List.set_cons_succ, i64_w, i32_w]
      rfl
    refine pure_ (i := 26) (N := some 4) (v := ?_) (a' := ?_) #[T,T,T,T,T,T,T,T,T,T,T,T,T,T,T,T,T,T,T,T,T,T,T,T,T,T,T] rfl rfl (by kernel_rfl) (fun _ _ _ h => h) (Or.inl ⟨by rfl, ?_⟩) ?_ ?_
    rotate_left
    · intro w'
      go_simp
      with_reducible rfl
    rotate_left
    · simp only [Act.put, List.setIfInBounds_toArray, List.set_cons_zero, List.set_cons_succ, i64_w, i32_w]
      rfl
    refine done_ (by kernel_rfl) ?_
    go_wp2
    go_ret
    exact ⟨by simp, HB.out⟩
end Go.Proofs.Ytemlbjpefomboaa
