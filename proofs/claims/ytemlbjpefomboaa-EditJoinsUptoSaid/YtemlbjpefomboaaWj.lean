/- edit: the walk of EditJoins. -/
import Derived.Test.YtemlbjpefomboaaLt
import Derived.Test.YtemlbjpefomboaaLe
import Derived.Test.YtemlbjpefomboaaJo
import Derived.Test.YtemlbjpefomboaaOw
import Derived.Test.YtemlbjpefomboaaFi
import Derived.Test.YtemlbjpefomboaaOj
namespace Go.Proofs.Ytemlbjpefomboaa
open Go.RowKit Go.Shelf Go.Proofs.YtemlbjpefomboaaW.PrintWords Go.Proofs.YtemlbjpefomboaaW.PrintLast Go.Proofs.YtemlbjpefomboaaW.PrintMore Go.Proofs.Ytemlbjpefomboaa.Pr
set_option linter.unusedVariables false
set_option linter.unusedSimpArgs false
theorem joinE_len (L : List S28) : (joinE L).1.length ≤ 16777217 ∧ (joinE L).2.1.length ≤ 16777216 ∧ (joinE L).2.2.1.length ≤ 16777216 := by
  unfold joinE
  split
  · simp
  rename_i hb
  split
  · simp
  rename_i hs
  have hl : (ogJ L).length ≤ 16777216 := by
    rw [ogJ_len L (badJ_ok (by simpa using hb))]
    omega
  generalize ogJ L = L at hl
  unfold normOf
  cases h : tks L ts0 with
  | none => simp [nrm]
  | some t =>
    have hv := vt_tks L L.length t (Nat.le_refl _) (by rw [List.take_length]; exact h)
    have hd := hv.d
    have hx := hv.x
    have h1 := hv.n
    have h2 : t.cu.toList.length ≤ 1 := by cases t.cu <;> simp
    refine ⟨?_, by simp only [nrm]; omega, by simp only [nrm]; omega⟩
    simp only [nrm, TS.st, List.length_append]
    omega
attribute [-go_sem] Builtin.append_
set_option maxRecDepth 100000 in
set_option maxHeartbeats 8000000 in
theorem walk_editJoins (A : Option Addr) (c : Nat) (L : List S28) (w : World) (H : Kd.C k28 w A L.length L ∧ L.length ≤ c ∧ L.length ≤ 1048576 ∧ ∀ e ∈ L, e.f0.length ≤ 1048576 ∧ e.f1.length ≤ 1048576 ∧ e.f2.length ≤ 1048576) :
    Calls Try.prog 16 #[.slice A L.length c] w fun e w' => e = .returned (.bool true) ∧ Below w.heap.size w w' := by
  obtain ⟨hC, hc, hl, hf⟩ := H
  have hrn := rjoin_c hC hc hl (fun e he => (hf e he).1)
  have hln := joinE_len L
  obtain ⟨⟨n0, n1, n2, n3⟩, hq⟩ : ∃ q, joinE L = q := ⟨_, rfl⟩
  rw [hq] at hrn hln
  simp only at hln
  have HQ := Hd.mk hq
  have HRN := Hd.mk hrn
  have HLN := Hd.mk hln
  have HCw := Hd.mk hC
  have HF := Hd.mk hf
  have HCC := Hd.mk hc
  clear hC hc hf hrn hln hq
  go_enter Try.func16, Try.ntmps16
  go_wp2_with fail
  refine HRN.out.mono ?_
  intro e w1 hN
  obtain ⟨C0, h0, C1, h1, C2, h2, rfl, hC, hb1⟩ := hN.ed3
  simp only
  have hbA : Below w1.heap.size w1 (w1.alloc (.cells #[.slice C0 n0.length h0, .slice C1 n1.length h1, .slice C2 n2.length h2] 28)) := (Below.refl _ _).alloc (Nat.le_refl _) _
  have HBw := Hd.mk (below_step hb1 hbA)
  have HW := Hd.mk (blk_new w1 (.cells #[.slice C0 n0.length h0, .slice C1 n1.length h1, .slice C2 n2.length h2] 28))
  have HC := Hd.mk (hC.below hbA)
  clear hC hb1 hbA hN HRN
  go_wp2
  obtain ⟨wb, hwb⟩ : ∃ v, w1.alloc (.cells #[.slice C0 n0.length h0, .slice C1 n1.length h1, .slice C2 n2.length h2] 28) = v := ⟨_, rfl⟩
  obtain ⟨bw, hbw⟩ : ∃ b, w1.heap.size = b := ⟨_, rfl⟩
  rw [hwb] at HBw HW HC ⊢
  rw [hbw] at HW ⊢
  clear hwb hbw
  go_loopg [5, 6] L.length (fun k v5 v6 W => ∃ (i cg : Nat) (B : Option Addr) (G : Nat → Gx), v5 = .slice B i cg ∧ v6 = .int .i64 i ∧ i + k = L.length ∧ Hd (W.ownsRow wb.heap.size 28 3 (.slice B i cg) i (gC L G i)) ∧ Hd (∀ j : Nat, j < i → Lg W (rd_T28 L j) (G j)) ∧ Hd (Below wb.heap.size wb W))
  case atStart => exact ⟨0, 0, none, fun _ => ⟨none, 0, none, 0, none, 0⟩, rfl, rfl, by omega, ⟨own_nil _ _ _ _⟩, ⟨fun j hj => absurd hj (by omega)⟩, ⟨Below.refl _ _⟩⟩
  case round =>
    obtain ⟨i, cg, B, G, rfl, rfl, hk, HR, HL, HB⟩ := hrel
    have hBw := below_step HBw.out HB.out
    rcases gk with _ | gk
    · have hlt : decide ((i : Int) < (L.length : Int)) = false := decide_eq_false (by omega)
      obtain rfl : i = L.length := by omega
      obtain ⟨wg, hwg⟩ : ∃ v, v = wr := ⟨_, rfl⟩
      subst hwg
      obtain ⟨hGC, hcg⟩ := given_C HR.out hl HL.out
      have HJ : Hd (∀ W, Below wg.heap.size wg W → Calls Try.prog 47 #[.slice B L.length cg] W (fun e w' => ∃ E0 f0 E1 f1 E2 f2, e = .returned (.tuple #[.agg #[.slice E0 n0.length f0, .slice E1 n1.length f1, .slice E2 n2.length f2], .int .i64 n3]) ∧
          Ed3 w' W.heap.size (fun _ => True) (.slice E0 n0.length f0) (.slice E1 n1.length f1) (.slice E2 n2.length f2) n0 n1 n2 ∧ Below W.heap.size W w')) := ⟨fun W hb => by
        have h := join_c (Kd.C_below hGC hb) hcg hl
        rw [HQ.out] at h
        exact h.mono fun e w' h => h.ed3⟩
      have HBg := Hd.mk hBw
      have HWg := Hd.mk (blk_below HW.out HB.out)
      have HCg := Hd.mk ((HC.out.mono (q := fun k => k < wg.heap.size) (fun k _ _ h => by have := HB.out.size; omega)).below HB.out)
      have hbwl := blk_lt HWg.out
      clear hGC hBw HW HC
      go_wp2_with fail
      refine (HJ.out _ (Below.refl _ _)).mono ?_
      rintro e w3 ⟨E0, f0, E1, f1, E2, f2, rfl, hD, hb3⟩
      simp only
      have hbA : Below w3.heap.size w3 (w3.alloc (.cells #[.slice E0 n0.length f0, .slice E1 n1.length f1, .slice E2 n2.length f2] 28)) := (Below.refl _ _).alloc (Nat.le_refl _) _
      have hs3 := hb3.size
      have HJ2 := Hd.mk (HJ.out _ (below_step hb3 hbA))
      have HX3 := Hd.mk hb3
      have HA3 := Hd.mk hbA
      have HD := Hd.mk hD
      clear hD hb3 hbA HJ
      go_wp2_with fail
      refine HJ2.out.mono ?_
      rintro e w4 ⟨G0, p0, G1, p1, G2, p2, rfl, hG, hb4⟩
      simp only
      have hs4 := hb4.size
      rw [World.size_alloc] at hs4
      have hbB : Below w4.heap.size w4 (w4.alloc (.cells #[.slice G0 n0.length p0, .slice G1 n1.length p1, .slice G2 n2.length p2] 28)) := (Below.refl _ _).alloc (Nat.le_refl _) _
      have hW5 := blk_below (blk_below (blk_below (blk_below HWg.out HX3.out) HA3.out) hb4) hbB
      have hA5 := blk_below (blk_below (blk_new w3 (.cells #[.slice E0 n0.length f0, .slice E1 n1.length f1, .slice E2 n2.length f2] 28)) hb4) hbB
      have hB5 := blk_new w4 (.cells #[.slice G0 n0.length p0, .slice G1 n1.length p1, .slice G2 n2.length p2] 28)
      have HOa := Hd.mk ((((HD.out.mono (q := fun k => k < w3.heap.size) (fun k _ _ h => h)).below HA3.out).below hb4).below hbB)
      have HOb := Hd.mk ((hG.mono (q := fun k => w3.heap.size ≤ k) (fun k _ h _ => by rw [World.size_alloc] at h; omega)).below hbB)
      have HOc := Hd.mk ((((HCg.out.below HX3.out).below HA3.out).below hb4).below hbB)
      have HB5 := Hd.mk (below_step (below_step (below_step HX3.out HA3.out) hb4) hbB)
      have cW0 := blk_cell hW5 0
      have cW1 := blk_cell hW5 1
      have cW2 := blk_cell hW5 2
      have cA0 := blk_cell hA5 0
      have cA1 := blk_cell hA5 1
      have cA2 := blk_cell hA5 2
      have cB0 := blk_cell hB5 0
      have cB1 := blk_cell hB5 1
      have cB2 := blk_cell hB5 2
      simp at cW0 cW1 cW2 cA0 cA1 cA2 cB0 cB1 cB2
      have hl3 := HLN.out
      have HOWN := Hd.mk (own_c HB5.out HOa.out HOb.out HOc.out (by omega) (by omega) (by omega))
      clear hW5 hA5 hB5 hbB hb4 hG HD HX3 HA3 HJ2 HOa HOb HOc HB5 hl3 HWg HCg
      go_wp2_with fail
      refine (num_c n3 _).mono ?_
      rintro e w5 ⟨rfl, rfl⟩
      go_wp2_with fail
      refine (num_c n3 _).mono ?_
      rintro e w5 ⟨rfl, rfl⟩
      go_wp2_with fail
      refine HOWN.out.mono ?_
      rintro e w6 ⟨rfl, hb6⟩
      clear HOWN cW0 cW1 cW2 cA0 cA1 cA2 cB0 cB1 cB2 hs3 hs4 hbwl
      have HB6 := Hd.mk hb6
      clear hb6
      go_wp2
      go_loopg [11] L.length (fun k v11 W => ∃ i : Nat, v11 = .int .i64 i ∧ i + k = L.length ∧ Hd (Below wg.heap.size wg W))
      case atStart => exact ⟨0, rfl, by omega, HB6⟩
      case round =>
        clear HB6
        obtain ⟨i, rfl, hk, HB6⟩ := hrel
        rcases gk with _ | gk
        · have hlt : decide ((i : Int) < (L.length : Int)) = false := decide_eq_false (by omega)
          obtain rfl : i = L.length := by omega
          go_wp2_with fail
          refine (awake_c _).mono ?_
          rintro e w9 ⟨rfl, hb9⟩
          have H9 := Hd.mk (below_step (below_step HBg.out HB6.out) hb9)
          clear hb9
          go_wp2
          go_ret
          exact ⟨by simp, H9.out⟩
        · have hlt : decide ((i : Int) < (L.length : Int)) = true := decide_eq_true (by omega)
          have hng : decide ((0 : Int) ≤ (i : Int)) = true := decide_eq_true (by omega)
          have hil : i < L.length := by omega
          obtain ⟨ad, A0, c0, A1, c1, A2, c2, e, x0, x1, x2, l0, g0, l1, g1, l2, g2⟩ := at_T28 (Kd.C_below HCw.out (below_step HBg.out HB6.out)) i (by omega) (by omega)
          subst e
          obtain ⟨g, e, hgc⟩ := given_cells (pw_own_below HR.out HB6.out) hil
          subst e
          have hlg := Lent.below (HL.out i hil) HB6.out
          obtain ⟨⟨B0, e0, B1, e1, B2, e2⟩, hGi⟩ : ∃ r, G i = r := ⟨_, rfl⟩
          obtain ⟨⟨st, d, x⟩, hg⟩ : ∃ r, rd_T28 L i = r := ⟨_, rfl⟩
          rw [hGi, hg] at hlg hgc
          rw [hg] at x0 x1 x2 l0 g0 l1 g1 l2 g2
          rw [Int.toNat_natCast] at x0 x1 x2
          simp only at x0 x1 x2 l0 g0 l1 g1 l2 g2 hlg
          have y0 : wr.cell? ⟨g, i * 3, none⟩ = some (.slice B0 st.length e0) := hgc 0 _ rfl
          have y1 : wr.cell? ⟨g, i * 3 + 1, none⟩ = some (.slice B1 d.length e1) := hgc 1 _ rfl
          have y2 : wr.cell? ⟨g, i * 3 + 2, none⟩ = some (.slice B2 x.length e2) := hgc 2 _ rfl
          have HLg := Hd.mk hlg
          have HEg := Hd.mk (EdC.mk g0 g1 g2 l0 l1 l2)
          clear hlg hgc hGi hg g0 g1 g2 l0 l1 l2
          have hkp := kept_c (HLg.out.below (Below.drew' wr)) (HEg.out.below (Below.drew' wr))
          unfold EdV at hkp
          have HKP := Hd.mk hkp
          clear hkp
          go_upto_region 14 with fail
          refine start_ (n := 10) (S := fun w' => w'.cell? ⟨g, i * 3, none⟩ = some (.slice B0 st.length e0) ∧ w'.cell? ⟨g, i * 3 + 1, none⟩ = some (.slice B1 d.length e1) ∧ w'.cell? ⟨g, i * 3 + 2, none⟩ = some (.slice B2 x.length e2) ∧ w'.cell? (ad.add (i * 3)) = some (.slice A0 st.length c0) ∧ w'.cell? ⟨(ad.add (i * 3)).block, (ad.add (i * 3)).off + 1, none⟩ = some (.slice A1 d.length c1) ∧ w'.cell? ⟨(ad.add (i * 3)).block, (ad.add (i * 3)).off + 2, none⟩ = some (.slice A2 x.length c2)) (ds := []) #[F,F,F,F,F,F,F,F,F,F] (by kernel_rfl) rfl rfl ⟨y0, y1, y2, x0, x1, x2⟩ (fun hHeld => ?_)
          refine pure_ (i := 0) (N := some 64) (v := ?_) (a' := ?_) #[T,F,F,F,F,F,F,F,F,F] rfl rfl (by kernel_rfl) (fun _ _ _ h => h) (Or.inl ⟨by rfl, ?_⟩) ?_ ?_
          rotate_left
          · intro w'
            go_simp
            with_reducible rfl
          rotate_left
          · go_simp
            rfl
          refine pure_ (i := 1) (N := some 65) (v := ?_) (a' := ?_) #[T,T,F,F,F,F,F,F,F,F] rfl rfl (by kernel_rfl) (fun _ _ _ h => h) (Or.inl ⟨by rfl, ?_⟩) ?_ ?_
          rotate_left
          · intro w'
            go_simp
            with_reducible rfl
          rotate_left
          · go_simp
            rfl
          refine pure_ (i := 2) (N := some 66) (v := ?_) (a' := ?_) #[T,T,T,F,F,F,F,F,F,F] rfl rfl (by kernel_rfl) (fun _ _ _ h => h) (Or.inl ⟨by rfl, ?_⟩) ?_ ?_
          rotate_left
          · intro w'
            go_simp
            with_reducible rfl
          rotate_left
          · go_simp
            rfl
          refine pure_ (i := 4) (N := some 68) (v := ?_) (a' := ?_) #[T,T,T,F,T,F,F,F,F,F] rfl rfl (by kernel_rfl) (fun _ _ _ h => h) (Or.inl ⟨by rfl, ?_⟩) ?_ ?_
          rotate_left
          · intro w'
            go_simp
            with_reducible rfl
          rotate_left
          · go_simp
            rfl
          refine pure_ (i := 5) (N := some 69) (v := ?_) (a' := ?_) #[T,T,T,F,T,T,F,F,F,F] rfl rfl (by kernel_rfl) (fun _ _ _ h => h) (Or.inl ⟨by rfl, ?_⟩) ?_ ?_
          rotate_left
          · intro w'
            go_simp
            with_reducible rfl
          rotate_left
          · go_simp
            rfl
          refine pure_ (i := 6) (N := some 70) (v := ?_) (a' := ?_) #[T,T,T,F,T,T,T,F,F,F] rfl rfl (by kernel_rfl) (fun _ _ _ h => h) (Or.inl ⟨by rfl, ?_⟩) ?_ ?_
          rotate_left
          · intro w'
            go_simp
            with_reducible rfl
          rotate_left
          · go_simp
            rfl
          refine take_ (i := 3) (N := some 67) (v := ?_) (a' := ?_) #[T,T,T,T,T,T,T,F,F,F] rfl rfl (by kernel_rfl) (fun _ _ _ h => h) (Or.inl ⟨by rfl, ?_⟩) hHeld ?_ ?_
          rotate_left
          · rintro w' ⟨s0, s1, s2, s3, s4, s5⟩
            go_simp
            with_reducible rfl
          rotate_left
          · go_simp
            rfl
          refine take_ (i := 7) (N := some 71) (v := ?_) (a' := ?_) #[T,T,T,T,T,T,T,T,F,F] rfl rfl (by kernel_rfl) (fun _ _ _ h => h) (Or.inl ⟨by rfl, ?_⟩) hHeld ?_ ?_
          rotate_left
          · rintro w' ⟨s0, s1, s2, s3, s4, s5⟩
            go_simp
            with_reducible rfl
          rotate_left
          · go_simp
            rfl
          refine one_ (i := 8) (N := some 72) #[T,T,T,T,T,T,T,T,T,F] rfl rfl (by kernel_rfl) (by decide) (fun K hK => ?_)
          refine goes_ Try.func27 (by kernel_rfl) rfl #[.agg #[.slice B0 st.length e0, .slice B1 d.length e1, .slice B2 x.length e2], .agg #[.slice A0 st.length c0, .slice A1 d.length c1, .slice A2 x.length c2]] (by rfl) rfl rfl (by simp only [List.map_toArray, List.map_cons, List.map_nil]; rfl) ?_
          with_reducible refine (HKP.out).mono ?_
          rintro e w8 ⟨rfl, hb8⟩
          refine ⟨_, rfl, ?_⟩
          have H8 := Hd.mk hb8
          clear hb8
          refine hK.out _ _ ⟨pw_cell_below H8.out y0, pw_cell_below H8.out y1, pw_cell_below H8.out y2, pw_cell_below H8.out x0, pw_cell_below H8.out x1, pw_cell_below H8.out x2⟩ (fun hHeld => ?_)
          clear hK K
          refine norm_ (a' := ?_) ?_ ?_
          rotate_left
          · show Act.put _ (some 72) _ = _
            go_simp
            rfl
          refine pure_ (i := 9) (N := some 73) (v := ?_) (a' := ?_) #[T,T,T,T,T,T,T,T,T,T] rfl rfl (by kernel_rfl) (fun _ _ _ h => h) (Or.inl ⟨by rfl, ?_⟩) ?_ ?_
          rotate_left
          · intro w'
            go_simp
            with_reducible rfl
          rotate_left
          · go_simp
            rfl
          refine done_ (by kernel_rfl) ?_
          clear hHeld
          go_wp2
          go_roundg gk
          case measure => omega
          case rel => exact ⟨i + 1, rfl, by omega, ⟨below_step (below_step HB6.out (Below.drew' wr)) H8.out⟩⟩
    · have hlt : decide ((i : Int) < (L.length : Int)) = true := decide_eq_true (by omega)
      have hng : decide ((0 : Int) ≤ (i : Int)) = true := decide_eq_true (by omega)
      have hil : i < L.length := by omega
      obtain ⟨ad, A0, c0, A1, c1, A2, c2, e, x0, x1, x2, l0, g0, l1, g1, l2, g2⟩ := at_T28 (Kd.C_below HCw.out hBw) i (by omega) (by omega)
      subst e
      have hfe := HF.out _ (mem28 hil)
      obtain ⟨⟨st, d, x⟩, hg⟩ : ∃ r, rd_T28 L i = r := ⟨_, rfl⟩
      rw [hg] at x0 x1 x2 l0 g0 l1 g1 l2 g2 hfe
      rw [Int.toNat_natCast] at x0 x1 x2
      simp only at x0 x1 x2 l0 g0 l1 g1 l2 g2 hfe
      have HLEND := Hd.mk (lend_c A0 c0 st A1 c1 d A2 c2 x wr (EdC.mk g0 g1 g2 l0 l1 l2) (by omega) (by omega) (by omega))
      have HGE := Hd.mk hg
      clear hg g0 g1 g2 l0 l1 l2 hfe hBw
      go_wp2_with fail
      refine HLEND.out.mono ?_
      rintro e w2 ⟨B0, e0, B1, e1, B2, e2, rfl, hL, hb2⟩
      unfold EdV
      have hba : Below w2.heap.size w2 (w2.alloc (.cells #[.slice B0 st.length e0, .slice B1 d.length e1, .slice B2 x.length e2] 28)) := (Below.refl _ _).alloc (Nat.le_refl _) _
      have hr2 := pw_own_below (pw_own_below HR.out hb2) hba
      have hbs := below_step (below_step HB.out hb2) hba
      obtain ⟨v5, w3, hrun, ho, hgr, _, _⟩ := run_app (P := Try.prog) (w2.alloc (.cells #[.slice B0 st.length e0, .slice B1 d.length e1, .slice B2 x.length e2] 28)) wb.heap.size 70 70 28 _ 3 72 eltE (.slice B i cg) i (gC L G i) hr2
        (some ⟨w2.heap.size, 0, none⟩) 1 1 (gv ⟨st, d, x⟩ ⟨B0, e0, B1, e1, B2, e2⟩) (src28 (e := ⟨st, d, x⟩) (x := ⟨B0, e0, B1, e1, B2, e2⟩) (blk_new w2 _)) (by omega) hbs.size
      obtain ⟨B', cg', rfl⟩ := own_slice ho
      have hbe := hbs.grown hgr hbs.size (own_base hr2)
      have hrow : gC L G i ++ gv ⟨st, d, x⟩ ⟨B0, e0, B1, e1, B2, e2⟩ = gC L (fun j => if j = i then ⟨B0, e0, B1, e1, B2, e2⟩ else G j) (i + 1) := by
        rw [gC, gC_congr (G' := G) (fun j hj => if_neg (by omega)), HGE.out]
        simp
      rw [hrow] at ho
      have hlg : ∀ j : Nat, j < i + 1 → Lg w3 (rd_T28 L j) ((fun j => if j = i then (⟨B0, e0, B1, e1, B2, e2⟩ : Gx) else G j) j) := by
        intro j hj
        by_cases hji : j = i
        · subst hji
          simp only [if_pos]
          rw [HGE.out]
          exact Lg.grown (Lent.below hL hba) hr2 hgr
        · simp only [if_neg hji]
          exact Lg.grown (Lent.below (Lent.below (HL.out j (by omega)) hb2) hba) hr2 hgr
      have HO3 := Hd.mk ho
      have HB3 := Hd.mk hbe
      have HL3 := Hd.mk hlg
      clear ho hbe hlg hrow hr2 hbs hgr hba hb2 hL HLEND x0 x1 x2
      go_wp2
      go_roundg gk
      case measure => omega
      case rel => exact ⟨i + 1, cg', B', _, rfl, rfl, by omega, HO3, HL3, HB3⟩
end Go.Proofs.Ytemlbjpefomboaa
