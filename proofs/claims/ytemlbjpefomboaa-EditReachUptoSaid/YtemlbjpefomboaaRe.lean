/- edit: the walk of EditReach. -/
import Derived.Test.YtemlbjpefomboaaTl
import Derived.Test.YtemlbjpefomboaaFi
import Derived.Test.YtemlbjpefomboaaOe
namespace Go.Proofs.Ytemlbjpefomboaa
open Go.RowKit Go.Shelf Go.Proofs.YtemlbjpefomboaaW.PrintWords Go.Proofs.YtemlbjpefomboaaW.PrintLast Go.Proofs.YtemlbjpefomboaaW.PrintMore Go.Proofs.Ytemlbjpefomboaa.Pr
set_option linter.unusedVariables false
set_option linter.unusedSimpArgs false
theorem eqA47 (d : Nat) (w : World) (x0 y0 x1 y1 x2 y2 x3 y3 x4 y4 x5 y5 : Int) :
    (Op.equalIn (d + 2) 47 (.agg #[.int .i64 x0, .int .i64 x1, .int .i64 x2, .int .i64 x3, .int .i64 x4, .int .i64 x5]) (.agg #[.int .i64 y0, .int .i64 y1, .int .i64 y2, .int .i64 y3, .int .i64 y4, .int .i64 y5])).run Try.prog w = .ok (x0 == y0 && (x1 == y1 && (x2 == y2 && (x3 == y3 && (x4 == y4 && (x5 == y5)))))) w := by
  refine eqA_of Try.underlying47 (by kernel_rfl) ?_
  refine eqf_cons (by rfl) (by go_simp; rfl) (by go_simp; rfl) (by go_simp) ?_
  refine eqf_cons (by rfl) (by go_simp; rfl) (by go_simp; rfl) (by go_simp) ?_
  refine eqf_cons (by rfl) (by go_simp; rfl) (by go_simp; rfl) (by go_simp) ?_
  refine eqf_cons (by rfl) (by go_simp; rfl) (by go_simp; rfl) (by go_simp) ?_
  refine eqf_cons (by rfl) (by go_simp; rfl) (by go_simp; rfl) (by go_simp) ?_
  exact eqf_last (by rfl) (by go_simp; rfl) (by go_simp; rfl) (by go_simp)
attribute [local go_sem high] eqA47
/-- What the checks of EditReach say. -/
theorem reach_law {st : List S80} {d x : List Int} (h : (ited st d x).2 = 0) (hf : st.length ≤ 1048576) :
    0 ≤ (toldOf st).j ∧ 0 ≤ (toldOf st).r ∧ (checked st d x 16777216 (ited st d x).1 = 0 → (toldOf st).bl = false ∧ (toldOf st).r ≤ 16777216 ∧ checked st d x (toldOf st).r (ited st d x).1 = 0 ∧ ((toldOf st).r = 0 ∨ checked st d x ((toldOf st).r - 1) (ited st d x).1 = 161)) := by
  obtain ⟨hall, hs, hA, hC, hn⟩ := ited_all h
  have hj := (tl_le st 0 ⟨false, 0, 0⟩).1
  have hr := (tl_le st 0 ⟨false, 0, 0⟩).2
  refine ⟨hj, hr, fun hc => ?_⟩
  have hsz : 0 ≤ (ited st d x).1 ∧ (ited st d x).1 ≤ 16777216 := by
    have := sA_nn st hall
    have := sC_nn st hall
    omega
  have hR : ∀ old : Int, rds old st 0 = rdx old st 0 := fun old => rds_rdx old st 0 0 hall (by omega) (by omega) (by omega)
  have key : ∀ old : Int, 0 ≤ old → old ≤ 16777216 → checked st d x old (ited st d x).1 = if rdx old st 0 = true then 0 else 161 := by
    intro old h0 h1
    unfold checked
    rw [if_neg (by omega), if_neg (by simp [h]), if_neg (by simp), hR]
  rw [key _ (by omega) (by omega)] at hc
  have hrd : rdx 16777216 st 0 = true := by
    by_cases h' : rdx 16777216 st 0 = true
    · exact h'
    · rw [if_neg h'] at hc; cases hc
  obtain ⟨hbl, hle⟩ := tl_rdx 16777216 st 0 ⟨false, 0, 0⟩ hrd
  have hle' := hle (by simp)
  have hi := rdx_iff 16777216 st 0 ⟨false, 0, 0⟩ hrd
  unfold toldOf
  refine ⟨hbl, hle', ?_, ?_⟩
  · rw [key _ hr hle', if_pos ((hi _ hr).2 (Int.le_refl _))]
  · by_cases h0 : (tl st 0 ⟨false, 0, 0⟩).r = 0
    · exact .inl h0
    · refine .inr ?_
      simp only at hr
      rw [key _ (by omega) (by omega), if_neg]
      intro h'
      have := (hi _ (by simp only; omega)).1 h'
      omega
set_option maxRecDepth 100000 in
set_option maxHeartbeats 8000000 in
theorem walk_editReach (A0 : Option Addr) (c0 : Nat) (st : List S80) (A1 : Option Addr) (c1 : Nat) (d : List Int) (A2 : Option Addr) (c2 : Nat) (x : List Int) (w : World)
    (H : EdI w A0 c0 st A1 c1 d A2 c2 x ∧ st.length ≤ 1048576 ∧ d.length ≤ 1048576 ∧ x.length ≤ 1048576) :
    Calls Try.prog 8 #[.agg #[.slice A0 st.length c0, .slice A1 d.length c1, .slice A2 x.length c2]] w fun e w' => e = .returned (.bool true) ∧ Below w.heap.size w w' := by
  obtain ⟨⟨hE, _, _, _⟩, hf, hdl, hxl⟩ := H
  have hb0 : Below w.heap.size w (w.alloc (.cells #[.slice A0 st.length c0, .slice A1 d.length c1, .slice A2 x.length c2] 28)) := (Below.refl _ _).alloc (Nat.le_refl _) _
  have HE0 := Hd.mk (hE.below hb0)
  have HB0 := Hd.mk hb0
  have HY0 := Hd.mk (blk_new w (.cells #[.slice A0 st.length c0, .slice A1 d.length c1, .slice A2 x.length c2] 28))
  have HF := Hd.mk hf
  have htell := tell_c HE0.out hf hdl
  unfold EdV at htell
  have HTELL := Hd.mk htell
  clear hb0 hE htell
  go_enter Try.func8, Try.ntmps8
  go_wp2_with fail
  go_at_call 34
  refine HTELL.out.mono ?_
  rintro e w1 ⟨rfl, hb1⟩
  have HE1 := Hd.mk (HE0.out.below hb1)
  have HB1 := Hd.mk (below_step HB0.out hb1)
  have HY1 := Hd.mk (blk_below HY0.out hb1)
  clear hb1 HE0 HB0 HY0 HTELL
  by_cases her : (ited st d x).2 = 0
  · obtain ⟨hj, hr, hlaw⟩ := reach_law her hf
    have hto : told st d x = ((st.length : Int), (d.length : Int), zeros d, (x.length : Int), (toldOf st).j, (if (toldOf st).bl then 0 else (toldOf st).r), 0) := if_pos her
    obtain ⟨hall, hs, hA, hC, hn⟩ := ited_all her
    have hz := zeros_nn d
    rw [hto]
    have hie : ited st d x = ((d.length : Int) + x.length, 0) := by
      rw [← her, ← hA, ← hC, ← hn]
    rw [hie] at hlaw
    simp only at hlaw
    have hr2 : 0 ≤ (if (toldOf st).bl then 0 else (toldOf st).r) := by split <;> omega
    have hlaw2 : checked st d x 16777216 ((d.length : Int) + x.length) = 0 → (if (toldOf st).bl then 0 else (toldOf st).r) ≤ 16777216 ∧ checked st d x (if (toldOf st).bl then 0 else (toldOf st).r) ((d.length : Int) + x.length) = 0 ∧ ((if (toldOf st).bl then 0 else (toldOf st).r) = 0 ∨ checked st d x ((if (toldOf st).bl then 0 else (toldOf st).r) - 1) ((d.length : Int) + x.length) = 161) := by
      intro hc
      obtain ⟨hb, h1, h2, h3⟩ := hlaw hc
      rw [hb]
      exact ⟨h1, h2, h3⟩
    obtain ⟨R, hR⟩ : ∃ R, (if (toldOf st).bl then 0 else (toldOf st).r) = R := ⟨_, rfl⟩
    obtain ⟨jj, hjj⟩ : ∃ R, (toldOf st).j = R := ⟨_, rfl⟩
    obtain ⟨z, hzz⟩ : ∃ R, zeros d = R := ⟨_, rfl⟩
    rw [hR] at hr2 hlaw2 ⊢
    rw [hjj] at hj ⊢
    rw [hzz] at hz ⊢
    have HLAW := Hd.mk hlaw2
    have HIE := Hd.mk hie
    clear hr hto hA hC hn hs hall hlaw hR hjj hzz hlaw2 her hie
    have cy0 := blk_cell HY1.out 0
    have cy1 := blk_cell HY1.out 1
    have cy2 := blk_cell HY1.out 2
    simp at cy0 cy1 cy2
    have hlt := blk_lt HY1.out
    dsimp only
    go_wp2_with fail
    refine (size_c (HE1.out.below ((Below.refl _ _).alloc (Nat.le_refl _) _))).mono ?_
    rw [HIE.out]
    rintro e w2 ⟨rfl, hb2⟩
    have hst := blk_below (blk_new w1 (.cells #[.int .i64 st.length, .int .i64 d.length, .int .i64 z, .int .i64 x.length, .int .i64 jj, .int .i64 R] 47)) hb2
    have c0 := blk_cell hst 0
    have c1 := blk_cell hst 1
    have c2 := blk_cell hst 2
    have c3 := blk_cell hst 3
    have c4 := blk_cell hst 4
    have c5 := blk_cell hst 5
    simp at c0 c1 c2 c3 c4 c5
    have HST2 := Hd.mk hst
    have HE2 := Hd.mk (HE1.out.below (below_step ((Below.refl _ _).alloc (Nat.le_refl _) _) hb2))
    have HY2 := Hd.mk (blk_below (blk_alloc HY1.out _) hb2)
    have HB2 := Hd.mk (below_step (HB1.out.alloc HB1.out.size _) hb2)
    clear hst hb2 cy0 cy1 cy2 hlt
    have cy0 := blk_cell HY2.out 0
    have cy1 := blk_cell HY2.out 1
    have cy2 := blk_cell HY2.out 2
    simp at cy0 cy1 cy2
    have g1 : decide ((d.length : Int) < z) = false := decide_eq_false (by omega)
    have g2 : decide (z < 0) = false := decide_eq_false (by omega)
    have g3 : decide (jj < 0) = false := decide_eq_false (by omega)
    have g4 : decide (R < 0) = false := decide_eq_false (by omega)
    have g5 : wrap64 ((d.length : Int) + x.length) = (d.length : Int) + x.length := w64 _ (by omega)
    have HDL := Hd.mk hdl
    have HXL := Hd.mk hxl
    clear hdl hxl hz hj hf
    go_wp2_with fail
    go_at_call 22
    refine (awake_c _).mono ?_
    rintro e w3 ⟨rfl, hb3⟩
    have HB3 := Hd.mk (below_step HB2.out hb3)
    have HE3 := Hd.mk (HE2.out.below hb3)
    have HY3 := Hd.mk (blk_below HY2.out hb3)
    have HST3 := Hd.mk (blk_below HST2.out hb3)
    clear hb3 HB2 HE2 HY2 HST2 c0 c1 c2 c3 c4 c5 cy0 cy1 cy2
    have cy0 := blk_cell HY3.out 0
    have cy1 := blk_cell HY3.out 1
    have cy2 := blk_cell HY3.out 2
    simp at cy0 cy1 cy2
    go_wp2_with fail
    refine (check_c 16777216 ((d.length : Int) + x.length) HE3.out).mono ?_
    obtain ⟨q, hq⟩ : ∃ q, checked st d x 16777216 ((d.length : Int) + x.length) = q := ⟨_, rfl⟩
    rw [hq]
    have hlaw := HLAW.out
    rw [hq] at hlaw
    have HL := Hd.mk hlaw
    rintro e w4 ⟨rfl, hb4⟩
    have HB4 := Hd.mk (below_step HB3.out hb4)
    have HE4 := Hd.mk (HE3.out.below hb4)
    have HY4 := Hd.mk (blk_below HY3.out hb4)
    have HST4 := Hd.mk (blk_below HST3.out hb4)
    clear hb4 HB3 HE3 HY3 HST3 cy0 cy1 cy2 hlaw hq HLAW
    by_cases hq0 : q = 0
    · obtain ⟨hr3, hc1, hc2⟩ := HL.out hq0
      subst hq0
      have cy0 := blk_cell HY4.out 0
      have cy1 := blk_cell HY4.out 1
      have cy2 := blk_cell HY4.out 2
      have ct5 := blk_cell HST4.out 5
      simp at cy0 cy1 cy2 ct5
      have HC1 := Hd.mk hc1
      clear hc1
      by_cases hR0 : R = 0
      · subst hR0
        clear hc2
        go_wp2_with fail
        refine (check_c 0 ((d.length : Int) + x.length) HE4.out).mono ?_
        rw [HC1.out]
        rintro e w5 ⟨rfl, hb5⟩
        have HB5 := Hd.mk (below_step HB4.out hb5)
        have ct5' := blk_cell (blk_below HST4.out hb5) 5
        simp at ct5'
        clear hb5
        go_wp2
        go_ret
        exact ⟨rfl, HB5.out⟩
      · have hc3 := Hd.mk (hc2.resolve_left hR0)
        have hRb : (R == 0) = false := by simpa using hR0
        have hRw : wrap64 (R - 1) = R - 1 := w64 _ (by omega)
        clear hc2
        go_wp2_with fail
        refine (check_c R ((d.length : Int) + x.length) HE4.out).mono ?_
        rw [HC1.out]
        rintro e w5 ⟨rfl, hb5⟩
        have HB5 := Hd.mk (below_step HB4.out hb5)
        have HE5 := Hd.mk (HE4.out.below hb5)
        have ct5' := blk_cell (blk_below HST4.out hb5) 5
        have cz0 := blk_cell (blk_below HY4.out hb5) 0
        have cz1 := blk_cell (blk_below HY4.out hb5) 1
        have cz2 := blk_cell (blk_below HY4.out hb5) 2
        simp at ct5' cz0 cz1 cz2
        clear hb5
        go_wp2_with fail
        refine (check_c (R - 1) ((d.length : Int) + x.length) HE5.out).mono ?_
        rw [hc3.out]
        rintro e w6 ⟨rfl, hb6⟩
        have HB6 := Hd.mk (below_step HB5.out hb6)
        clear hb6
        go_wp2
        go_ret
        exact ⟨rfl, HB6.out⟩
    · have hqb : (q != 0) = true := by simpa using hq0
      clear hq0
      go_wp2
      go_ret
      exact ⟨rfl, HB4.out⟩
  · have hto : told st d x = (0, 0, 0, 0, 0, 0, (ited st d x).2) := if_neg her
    rw [hto]
    obtain ⟨⟨n, er⟩, hie⟩ : ∃ r, ited st d x = r := ⟨_, rfl⟩
    have HIE := Hd.mk hie
    rw [hie] at her ⊢
    simp only at her ⊢
    have hne : (er != 0) = true := by simpa using her
    have cy0 := blk_cell HY1.out 0
    have cy1 := blk_cell HY1.out 1
    have cy2 := blk_cell HY1.out 2
    simp at cy0 cy1 cy2
    have hlt := blk_lt HY1.out
    clear her hto hie
    go_wp2_with fail
    refine (size_c (HE1.out.below ((Below.refl _ _).alloc (Nat.le_refl _) _))).mono ?_
    rw [HIE.out]
    rintro e w2 ⟨rfl, hb2⟩
    have hst := blk_below (blk_new w1 (.cells #[.int .i64 0, .int .i64 0, .int .i64 0, .int .i64 0, .int .i64 0, .int .i64 0] 47)) hb2
    have c0 := blk_cell hst 0
    have c1 := blk_cell hst 1
    have c2 := blk_cell hst 2
    have c3 := blk_cell hst 3
    have c4 := blk_cell hst 4
    have c5 := blk_cell hst 5
    simp at c0 c1 c2 c3 c4 c5
    have HB2 := Hd.mk (below_step (HB1.out.alloc HB1.out.size _) hb2)
    clear hst hb2
    go_wp2_with (first
      | (go_at_call 22; refine (awake_c _).mono ?_; rintro e w3 ⟨rfl, hb3⟩; have HB3 := Hd.mk (below_step HB2.out hb3); clear hb3))
    go_ret
    exact ⟨rfl, HB3.out⟩
end Go.Proofs.Ytemlbjpefomboaa
