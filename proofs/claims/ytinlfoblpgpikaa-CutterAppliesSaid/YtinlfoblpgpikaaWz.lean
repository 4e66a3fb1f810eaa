/- cutter: the walk of CutterControls. -/
import Derived.Test.YtinlfoblpgpikaaWx
import Derived.Test.YtinlfoblpgpikaaFd
namespace Go.Proofs.Ytinlfoblpgpikaa
open Go.RowKit Go.Shelf Go.Proofs.YtinlfoblpgpikaaW.PrintWords Go.Proofs.YtinlfoblpgpikaaW.PrintLast Go.Proofs.YtinlfoblpgpikaaW.PrintMore Go.Proofs.Ytinlfoblpgpikaa.Pr
set_option linter.unusedVariables false
set_option linter.unusedSimpArgs false
attribute [local go_sem high] field26_0
theorem OB.bs1 {w : World} {base : Nat} {A : Option Addr} {n c : Nat} {xs : List Int} (h : OB w base (.slice A n c) xs) (hl : xs.length = n) (hr : ∀ x ∈ xs, 0 ≤ x ∧ x ≤ 255) : Bs w A n c xs := by
  subst hl
  obtain ⟨A', c', e, h2⟩ := OB.bs h hr
  cases e
  exact h2
theorem same_yes {A : Option Addr} {n c : Nat} {xs : List Int} {B : Option Addr} {m d : Nat} {w : World} (hx : Bs w A n c xs) (hy : Bs w B m d xs) :
    Calls Try.prog 25 #[.slice A n c, .slice B m d] w fun e w' => e = .returned (.bool true) ∧ w' = w := by
  have := same_calls A n c xs B m d xs w hx hy
  rwa [decide_eq_true rfl] at this
set_option maxRecDepth 100000 in
set_option maxHeartbeats 16000000 in
theorem walk_cutterControls (A0 : Option Addr) (c0 : Nat) (L : List S81) (A1 : Option Addr) (c1 : Nat) (b : List Int) (w : World) (h : StU w A0 c0 L) (hb : ByU w A1 c1 b) :
    Calls Try.prog 8 #[.slice A0 L.length c0, .slice A1 b.length c1] w fun e w' => e = .returned (.bool true) ∧ Below w.heap.size w w' := by
  obtain ⟨hC, hc, hn⟩ := h
  obtain ⟨hB, hm⟩ := hb
  obtain ⟨SL, hSL⟩ : ∃ l, L.map f81 = l := ⟨_, rfl⟩
  have hSn : SL.length = L.length := by rw [← hSL, List.length_map]
  have hTL : SL.map t81 = L := by rw [← hSL]; exact t81_f81 L
  obtain ⟨n, hLn⟩ : ∃ n, L.length = n := ⟨_, rfl⟩
  obtain ⟨m, hbm⟩ : ∃ m, b.length = m := ⟨_, rfl⟩
  obtain ⟨ab, er, hR⟩ : ∃ ab er, ctlR SL = (ab, er) := ⟨_, _, rfl⟩
  have hRr := ctlR_range SL
  have hRl := ctlR_len SL
  obtain ⟨us, ue, hU⟩ : ∃ us ue, uncR b = (us, ue) := ⟨_, _, rfl⟩
  have hUl := uncR_len b
  rw [hLn] at hC hc hn hSn ⊢
  rw [hbm] at hB hm ⊢
  rw [hR] at hRr hRl
  rw [hU] at hUl
  simp only at hRr hRl hUl
  rw [hSn] at hRl
  rw [hbm] at hUl
  have HC := Hd.mk hC
  have HCC := Hd.mk hc
  have HB := Hd.mk hB
  have HS := Hd.mk (And.intro hSL (And.intro hSn hTL))
  have HR := Hd.mk hR
  have HRR := Hd.mk hRr
  have HU := Hd.mk hU
  have HL := Hd.mk hLn
  obtain ⟨k, hak⟩ : ∃ k, ab.length = k := ⟨_, rfl⟩
  have HK := Hd.mk hak
  rw [hak] at hRl
  obtain ⟨q, huq⟩ : ∃ q, us.length = q := ⟨_, rfl⟩
  have HQ := Hd.mk huq
  rw [huq] at hUl
  clear hC hc hB hSL hSn hTL hR hRr hU hLn hbm hak huq
  have hu26 := Try.underlying26
  have hu29 := Try.underlying29
  go_enter Try.func8, Try.ntmps8
  go_wp2_with fail
  refine (faceSteps_c HC.out HCC.out (by omega) HS.out.1).mono ?_
  rintro e w1 ⟨B, bc, rfl, g1, gc, b1⟩
  have HG := Hd.mk g1
  have HGC := Hd.mk gc
  have HB1 := Hd.mk b1
  clear g1 gc b1
  go_wp2_with fail
  have hc1 := control_c (A := B) (c := bc) (l := SL) (w := w1) (by rw [HS.out.2.1]; exact HG.out) (by rw [HS.out.2.1]; exact HGC.out) (by rw [HS.out.2.1]; omega)
  rw [HR.out, HS.out.2.1] at hc1
  refine hc1.mono ?_
  clear hc1
  rintro e w2 ⟨va, rfl, oa, b2⟩
  obtain ⟨Aa, ca, rfl⟩ := own_slice' oa HK.out
  have HA2 := Hd.mk oa
  have HB2 := Hd.mk (below_step HB1.out b2)
  have HG2 := Hd.mk (Kd.C_below HG.out b2)
  have hz2 := b2.size
  have hz1 := HB1.out.size
  clear oa b2
  go_wp2_with fail
  have hc1 := control_c (A := B) (c := bc) (l := SL) (w := w2) (by rw [HS.out.2.1]; exact HG2.out) (by rw [HS.out.2.1]; exact HGC.out) (by rw [HS.out.2.1]; omega)
  rw [HR.out, HS.out.2.1] at hc1
  refine hc1.mono ?_
  clear hc1
  rintro e w3 ⟨vc, rfl, oc, b3⟩
  obtain ⟨Ac, cc, rfl⟩ := own_slice' oc HK.out
  have HC3 := Hd.mk oc
  have HDJ := Hd.mk (Dj.of HA2.out oc (Nat.le_refl _))
  have HA3 := Hd.mk (pw_own_below HA2.out b3)
  have HB3 := Hd.mk (below_step HB2.out b3)
  have HG3 := Hd.mk (Kd.C_below HG2.out b3)
  have hz3 := b3.size
  clear oc b3
  go_wp2_with fail
  have hc1 := rcontrol_c (A := A0) (c := c0) (L := L) (l := SL) (w := w3) (by rw [HL.out]; exact Kd.C_below HC.out HB3.out) HS.out.1 (by rw [HS.out.2.1]; exact HCC.out) (by rw [HS.out.2.1]; omega)
  rw [HR.out, HS.out.2.1] at hc1
  refine hc1.mono ?_
  clear hc1
  rintro e w4 ⟨vw, rfl, ow, b4⟩
  obtain ⟨Aw, cw, rfl⟩ := own_slice' ow HK.out
  have HW4 := Hd.mk ow
  have HC4 := Hd.mk (pw_own_below HC3.out b4)
  have HA4 := Hd.mk (pw_own_below HA3.out b4)
  have HB4 := Hd.mk (below_step HB3.out b4)
  have HG4 := Hd.mk (Kd.C_below HG3.out b4)
  have hz4 := b4.size
  clear ow b4
  have hee : (er == er) = true := by simp
  go_wp2_with fail
  refine (same_yes (OB.bs1 HA4.out HK.out HRR.out) (OB.bs1 HW4.out HK.out HRR.out)).mono ?_
  rintro e w5 ⟨rfl, rfl⟩
  go_wp2_with fail
  refine (same_yes (OB.bs1 HC4.out HK.out HRR.out) (OB.bs1 HW4.out HK.out HRR.out)).mono ?_
  rintro e w6 ⟨rfl, rfl⟩
  go_wp2_with fail
  have hp1 := plain_c (A0 := B) (c0 := bc) (st := SL) (A1 := none) (n1 := 0) (c1 := 0) (A2 := none) (n2 := 0) (c2 := 0) (w := w6) (by rw [HS.out.2.1]; exact HG4.out) (by rw [HS.out.2.1]; omega)
  rw [HS.out.2.1] at hp1
  refine hp1.mono ?_
  clear hp1
  rintro e w7 ⟨vp, rfl, op, b7⟩
  obtain ⟨Ap, cp, rfl⟩ := own_slice' op HS.out.2.1
  have HP : Hd (Kd.C k81 w7 Ap n L ∧ n ≤ cp) := ⟨by
    have := OS.C81 op HS.out.2.1
    rw [HS.out.2.2, HL.out] at this
    exact ⟨this, own_cap' op⟩⟩
  have HC7 := Hd.mk (pw_own_below HC4.out b7)
  have HA7 := Hd.mk (pw_own_below HA4.out b7)
  have HB7 := Hd.mk (below_step HB4.out b7)
  have hz7 := b7.size
  clear op b7
  go_wp2_with fail
  refine (sameSteps_c HP.out.1 HP.out.2 (Kd.C_below HC.out HB7.out) HCC.out (by omega)).mono ?_
  rintro e w8 ⟨rfl, b8⟩
  have HC8 := Hd.mk (pw_own_below HC7.out b8)
  have HA8 := Hd.mk (pw_own_below HA7.out b8)
  have HB8 := Hd.mk (below_step HB7.out b8)
  have hz8 := b8.size
  clear b8
  go_wp2_with fail
  refine (own2_calls _ _ ab ab _ _ w8 HA8.out HC8.out (by have := HK.out; omega) (by have := HK.out; omega) HDJ.out).mono ?_
  rintro e w9 ⟨rfl, u9⟩
  have HB9 := Hd.mk (HB8.out.trans (u9.below HB8.out.size (fun k hk hs => by
    rcases hs with hs | hs
    · have := own_base HA8.out k hs; omega
    · have := own_base HC8.out k hs; omega)))
  clear u9 HA8 HC8 HDJ HG4
  go_wp2_with fail
  refine (lend_calls A1 m c1 b w9 (HB.out.below HB9.out) (by omega)).mono ?_
  rintro e w10 ⟨g, d, rfl, ol, b10⟩
  have HLe := Hd.mk ol
  have HB10 := Hd.mk (below_step HB9.out b10)
  clear ol b10
  go_wp2_with fail
  have hpt := (lent_bs HLe.out HB.out).pre m (by omega)
  rw [List.take_left' HB.out.len] at hpt
  have HPT := Hd.mk hpt
  have hun := uncontrol_c hpt (by omega)
  clear hpt
  rw [HU.out] at hun
  refine hun.mono ?_
  clear hun
  rintro e w11 ⟨vs, rfl, os, b11⟩
  obtain ⟨As, cs, rfl⟩ := own_slice' os HQ.out
  have HU11 := Hd.mk os
  have HB11 := Hd.mk (below_step HB10.out b11)
  have HL11 := Hd.mk (pw_own_below HLe.out b11)
  clear os b11
  go_wp2_with fail
  have hun := runcontrol_c (HB.out.below HB11.out) (by omega)
  rw [HU.out] at hun
  refine hun.mono ?_
  clear hun
  rintro e w12 ⟨vt, rfl, ot, b12⟩
  obtain ⟨At, ct, rfl⟩ := own_slice' ot HQ.out
  have HT12 := Hd.mk ot
  have HU12 := Hd.mk (pw_own_below HU11.out b12)
  have HB12 := Hd.mk (below_step HB11.out b12)
  have HL12 := Hd.mk (pw_own_below HL11.out b12)
  clear ot b12
  have hue : (ue == ue) = true := by simp
  go_wp2_with fail
  have hc82 := OS.C82 HU12.out HQ.out
  have hp1 := plain_c (A0 := As) (c0 := cs) (st := us) (A1 := none) (n1 := 0) (c1 := 0) (A2 := none) (n2 := 0) (c2 := 0) (w := w12) hc82 (by rw [HQ.out]; omega)
  rw [HQ.out] at hp1
  refine hp1.mono ?_
  clear hp1 hc82
  rintro e w13 ⟨vp, rfl, op, b13⟩
  obtain ⟨Aq, cq, rfl⟩ := own_slice' op HQ.out
  have HP13 : Hd ((Kd.C k81 w13 Aq q (us.map t81) ∧ q ≤ cq) ∧ Kd.C k81 w13 At q (us.map t81) ∧ q ≤ ct) := ⟨by
    have h1 := OS.C81 op HQ.out
    have h2 := Kd.C_below (OS.C81 HT12.out HQ.out) b13
    rw [List.length_map, HQ.out] at h1 h2
    exact ⟨⟨h1, own_cap' op⟩, h2, own_cap' HT12.out⟩⟩
  have HB13 := Hd.mk (below_step HB12.out b13)
  have HL13 := Hd.mk (pw_own_below HL12.out b13)
  clear op b13
  go_wp2_with fail
  refine (sameSteps_c HP13.out.1.1 HP13.out.1.2 HP13.out.2.1 HP13.out.2.2 (by omega)).mono ?_
  rintro e w14 ⟨rfl, b14⟩
  have HB14 := Hd.mk (below_step HB13.out b14)
  have HL14 := Hd.mk (pw_own_below HL13.out b14)
  clear b14
  go_wp2_with fail
  have hk := kept_calls (some ⟨g, 0, none⟩) (m + 5) d (b ++ tail5) A1 m c1 b w14 (lent_bs HL14.out HB.out) (HB.out.below HB14.out) (by omega)
  rw [decide_eq_true rfl] at hk
  refine hk.mono ?_
  clear hk
  rintro e w15 ⟨rfl, b15⟩
  have HB15 := Hd.mk (below_step HB14.out b15)
  clear b15
  go_wp2_with fail
  refine (lives_c w15).mono ?_
  rintro e w16 ⟨rfl, b16⟩
  have HB16 := Hd.mk (below_step HB15.out b16)
  clear b16
  go_wp2
  go_ret
  exact ⟨by simp, HB16.out⟩
end Go.Proofs.Ytinlfoblpgpikaa
