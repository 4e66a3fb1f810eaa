/- cutter: the walk of CutterOne. -/
import Derived.Test.YtinlfoblpgpikaaO1
import Derived.Test.YtinlfoblpgpikaaFd
import Derived.Test.YtinlfoblpgpikaaFf
import Derived.Test.YtinlfoblpgpikaaWc
namespace Go.Proofs.Ytinlfoblpgpikaa
open Go.RowKit Go.ChangeShapes Go.WideShapes Go.Shelf Go.Proofs.YtinlfoblpgpikaaW.PrintWords Go.Proofs.YtinlfoblpgpikaaW.PrintLast Go.Proofs.YtinlfoblpgpikaaW.PrintMore Go.Proofs.Ytinlfoblpgpikaa.Pr
set_option linter.unusedVariables false
set_option linter.unusedSimpArgs false
attribute [local go_sem high] field26_0
set_option maxRecDepth 100000 in
theorem open_windowU {H : Type} {enc : TypeId × Value → H} {W : World} {base : Nat} {v : Value} {d : DataW H} {p : List MemPlace} (hv : Value.okWide Try.prog W .any base 45 v)
    (h : DataW.Trod enc Try.prog W 0 (fun _ => true) true 45 v d p) (hw : ∀ n ∈ d.weights Try.prog 45, n ≤ reachBytes) (_ : Rows.uptoBulk d ≤ 1048576) :
    ∃ (pos : Int) (A0 : Option Addr) (c0 : Nat) (st : List S81) (A1 : Option Addr) (c1 : Nat) (di : List Int) (A2 : Option Addr) (c2 : Nat) (ex : List Int), v = .agg #[.int .i64 pos, .slice A0 st.length c0, .slice A1 di.length c1, .slice A2 ex.length c2] ∧ WinI W pos A0 c0 st A1 c1 di A2 c2 ex :=
  open_windowW hv h hw
theorem same_yes' {A : Option Addr} {n c : Nat} {xs : List Int} {B : Option Addr} {m d : Nat} {w : World} (hx : Bs w A n c xs) (hy : Bs w B m d xs) :
    Calls Try.prog 25 #[.slice A n c, .slice B m d] w fun e w' => e = .returned (.bool true) ∧ w' = w := by
  have := same_calls A n c xs B m d xs w hx hy
  rwa [decide_eq_true rfl] at this
theorem bs_own {w : World} {base : Nat} {A : Option Addr} {n c : Nat} {xs : List Int} (h : OB w base (.slice A n c) xs) (hl : xs.length = n) (hr : ∀ x ∈ xs, 0 ≤ x ∧ x ≤ 255) : Bs w A n c xs := by
  subst hl
  obtain ⟨A', c', e, h2⟩ := OB.bs h hr
  cases e
  exact h2
theorem most_in {a : Int} (h0 : 64 ≤ a) (h1 : a ≤ 65536) (w : World) : Calls Try.prog 37 #[.int .i64 a] w fun e w' => e = .returned (.int .i64 (6 * a)) ∧ Below w.heap.size w w' :=
  (cutter_Most.calls a (6 * a) w (by rw [cutter_Most.f, if_neg (by omega), if_neg (by omega)]; congr 1; unfold wrap64; omega)).mono fun e w' h => ⟨h.1, Drawn0.below h.2⟩
theorem most_out {a : Int} (h : ¬ (64 ≤ a ∧ a ≤ 65536)) (w : World) : Calls Try.prog 37 #[.int .i64 a] w fun e w' => e = .returned (.int .i64 0) ∧ Below w.heap.size w w' :=
  (cutter_Most.calls a 0 w (by rw [cutter_Most.f]; by_cases h1 : a < 64; · rw [if_pos h1]
                               · rw [if_neg h1, if_pos (by omega)])).mono fun e w' h => ⟨h.1, Drawn0.below h.2⟩
theorem first_ctl {L : List S81} {SL : List S82} (hS : L.map f81 = SL) (hn : SL ≠ []) (hm : SL.all mayC = true) : ∃ j : Nat, rdN (ctlL SL) = ((rd_T81 L 0).f0, (j : Int), 0) ∧ 1 ≤ j ∧ 0 ≤ (rd_T81 L 0).f0 ∧ (rd_T81 L 0).f0 ≤ 65536 := by
  cases L with
  | nil => exact absurd hS.symm hn
  | cons s L =>
    subst hS
    have h0 : rd_T81 (s :: L) 0 = s := rfl
    rw [List.map_cons, List.all_cons, Bool.and_eq_true] at hm
    have h := (mayC_iff _).1 hm.1
    have e : ctlL ((s :: L).map f81) = bytesN s.f0 ++ ((bytesN s.f1 ++ bytesN (zig s.f2)) ++ ctlL (L.map f81)) := by
      show ctlS (f81 s) ++ ctlL (L.map f81) = _
      rw [ctlS, bytesL3, List.append_assoc]
      rfl
    have h1 : 0 ≤ s.f0 ∧ s.f0 ≤ 65536 := ⟨h.1, h.2.1⟩
    rw [h0, e, rdN_enc _ _ h1.1 (by omega)]
    exact ⟨_, rfl, (encN_len 9 s.f0).1, h1⟩
set_option maxRecDepth 100000 in
set_option maxHeartbeats 32000000 in
theorem walk_cutterOne (Ab : Option Addr) (cb : Nat) (b : List Int) (pos : Int) (A0 : Option Addr) (c0 : Nat) (L : List S81) (A1 : Option Addr) (c1 : Nat) (d : List Int) (A2 : Option Addr) (c2 : Nat) (x : List Int) (win : Int) (w : World) (hb : ByU w Ab cb b) (h : WinI w pos A0 c0 L A1 c1 d A2 c2 x) (hw : (Lit.int .i64 win).wf = true) :
    Calls Try.prog 10 #[.slice Ab b.length cb, .agg #[.int .i64 pos, .slice A0 L.length c0, .slice A1 d.length c1, .slice A2 x.length c2], .int .i64 win] w fun e w' => e = .returned (.bool true) ∧ Below w.heap.size w w' := by
  obtain ⟨hB, hm⟩ := hb
  have hb0 : Below w.heap.size w (w.alloc (.cells #[.int .i64 pos, .slice A0 L.length c0, .slice A1 d.length c1, .slice A2 x.length c2] 45)) := (Below.refl _ _).alloc (Nat.le_refl _) _
  have hY := blk_new w (.cells #[.int .i64 pos, .slice A0 L.length c0, .slice A1 d.length c1, .slice A2 x.length c2] 45)
  obtain ⟨w0, hw0⟩ : ∃ v, w.alloc (.cells #[.int .i64 pos, .slice A0 L.length c0, .slice A1 d.length c1, .slice A2 x.length c2] 45) = v := ⟨_, rfl⟩
  rw [hw0] at hb0 hY
  have HW0 := Hd.mk hw0
  have HB0 := Hd.mk hb0
  have HY := Hd.mk hY
  have HE := Hd.mk (h.below hb0)
  have HBb := Hd.mk (hB.below hb0)
  obtain ⟨SL, hSL⟩ : ∃ l, L.map f81 = l := ⟨_, rfl⟩
  have HSL := Hd.mk hSL
  obtain ⟨us, ue, hU⟩ : ∃ us ue, uncR b = (us, ue) := ⟨_, _, rfl⟩
  have hUl := uncR_len b
  rw [hU] at hUl
  simp only at hUl
  have HU := Hd.mk hU
  have HUN := Hd.mk (unc_no (b.length + 1) b [])
  have hl0 := h.l0
  have hl1 := h.l1
  have hl2 := h.l2
  clear hb0 hY h hB hU hw0
  obtain ⟨nb, hnb⟩ : ∃ n, b.length = n := ⟨_, rfl⟩
  obtain ⟨nL, hnL⟩ : ∃ n, L.length = n := ⟨_, rfl⟩
  obtain ⟨nd, hnd⟩ : ∃ n, d.length = n := ⟨_, rfl⟩
  obtain ⟨nx, hnx⟩ : ∃ n, x.length = n := ⟨_, rfl⟩
  obtain ⟨q, huq⟩ : ∃ q, us.length = q := ⟨_, rfl⟩
  have HNB := Hd.mk hnb
  have HNL := Hd.mk (show L.length = nL ∧ SL.length = nL by rw [← hSL, List.length_map]; exact ⟨hnL, hnL⟩)
  have HND := Hd.mk hnd
  have HNX := Hd.mk hnx
  have HQ := Hd.mk huq
  rw [hnb] at hm hUl HBb ⊢
  rw [hnL] at hl0 HY HW0 ⊢
  rw [hnd] at hl1 HY HW0 ⊢
  rw [hnx] at hl2 HY HW0 ⊢
  rw [huq] at hUl
  clear hSL hnb hnL hnd hnx huq
  go_enter Try.func10, Try.ntmps10
  go_wp2_with fail
  rw [HW0.out]
  have hun := uncontrol_c HBb.out (by omega)
  rw [HU.out] at hun
  refine hun.mono ?_
  clear hun
  rintro e w1 ⟨vs, rfl, os, b1⟩
  obtain ⟨As, cs, rfl⟩ := own_slice' os HQ.out
  have HO1 := Hd.mk os
  have HB1 := Hd.mk b1
  clear os b1
  by_cases hue : ue = 0
  · subst hue
    have hbk := uncR_back HBb.out.hr HU.out
    go_wp2_with fail
    have hc1 := control_c (A := As) (c := cs) (l := us) (w := w1) (OS.C82 HO1.out HQ.out) (by rw [HQ.out]; exact own_cap' HO1.out) (by rw [HQ.out]; omega)
    rw [hbk, HQ.out] at hc1
    refine hc1.mono ?_
    clear hc1 hbk
    rintro e w2 ⟨vc, rfl, oc, b2⟩
    obtain ⟨Ac, cc, rfl⟩ := own_slice' oc HNB.out
    have HOC := Hd.mk oc
    have HB2 := Hd.mk (below_step HB1.out b2)
    clear oc b2
    go_wp2_with fail
    refine (same_yes' (bs_own HOC.out HNB.out HBb.out.hr) (HBb.out.below HB2.out)).mono ?_
    rintro e w3 ⟨rfl, rfl⟩
    have HBk := HB2
    have hyk := blk_below HY.out HBk.out
    have q0 := blk_cell hyk 0
    have q1 := blk_cell hyk 1
    have q2 := blk_cell hyk 2
    have q3 := blk_cell hyk 3
    simp at q0 q1 q2 q3
    clear hyk
    go_wp2_with fail
    have hfc := face_c (HE.out.below HBk.out) HSL.out
    rw [HNL.out.1, HNL.out.2, HND.out, HNX.out] at hfc
    refine hfc.mono ?_
    clear hfc q0 q1 q2 q3
    rintro e w5 ⟨B0, b0, B1, b1, B2, b2, rfl, hF, hb5⟩
    have hba := (Below.refl w5.heap.size w5).alloc (Nat.le_refl _) (.cells #[.int .i64 pos, .slice B0 nL b0, .slice B1 nd b1, .slice B2 nx b2] 43)
    have HF := Hd.mk (hF.below hba)
    have HB6 := Hd.mk (below_step (below_step HBk.out hb5) hba)
    have hz := blk_new w5 (.cells #[.int .i64 pos, .slice B0 nL b0, .slice B1 nd b1, .slice B2 nx b2] 43)
    have hyk := blk_below HY.out HB6.out
    have q0 := blk_cell hyk 0
    have q1 := blk_cell hyk 1
    have q2 := blk_cell hyk 2
    have q3 := blk_cell hyk 3
    have z0 := blk_cell hz 0
    have z1 := blk_cell hz 1
    have z2 := blk_cell hz 2
    have z3 := blk_cell hz 3
    simp at q0 q1 q2 q3 z0 z1 z2 z3
    have HZ := Hd.mk hz
    clear hba hF hb5 hyk hz
    by_cases hwin : 64 ≤ win ∧ win ≤ 65536
    · have hw0 : decide (win < 64) = false := decide_eq_false (by omega)
      have hw1 : decide (win > 65536) = false := decide_eq_false (by omega)
      have h6 : wrap64 (6 * win) = 6 * win := by unfold wrap64; omega
      by_cases hgt : (nd : Int) + (nx : Int) > win
      · have hg : decide ((nd : Int) + (nx : Int) > win) = true := decide_eq_true hgt
        go_wp2_with fail
        refine (most_in hwin.1 hwin.2 _).mono ?_
        rintro e w7 ⟨rfl, hb7⟩
        have HB7 := Hd.mk (below_step HB6.out hb7)
        clear hb7
        go_wp2_with fail
        refine (lives_c _).mono ?_
        rintro e w8 ⟨rfl, hb8⟩
        have HB8 := Hd.mk (below_step HB7.out hb8)
        clear hb8
        go_wp2
        go_ret
        exact ⟨by simp, below_step HB0.out HB8.out⟩
      · have hg : decide ((nd : Int) + (nx : Int) > win) = false := decide_eq_false hgt
        obtain ⟨r, hr⟩ : ∃ r, pchk pos SL d x 16777216 ((nd : Int) + (nx : Int)) = r := ⟨_, rfl⟩
        have hck := pck_c HF.out pos 16777216 ((nd : Int) + (nx : Int)) hr
        rw [HNL.out.2, HND.out, HNX.out] at hck
        have HRr := Hd.mk hr
        clear hr
        go_wp2_with fail
        refine hck.mono ?_
        clear hck
        rintro e w7 ⟨rfl, hb7⟩
        have HB7 := Hd.mk (below_step HB6.out hb7)
        have HF7 := Hd.mk (HF.out.below hb7)
        have hz := blk_below HZ.out hb7
        have hyk := blk_below HY.out HB7.out
        clear q0 q1 q2 q3 z0 z1 z2 z3
        have q1 := blk_cell hyk 1
        have z1 := blk_cell hz 1
        simp at q1 z1
        clear hb7 hyk hz
        by_cases hr0 : r = 0
        · subst hr0
          obtain ⟨hne, hall, hlen⟩ := pchk_ok HRr.out
          obtain ⟨cs2, hcs⟩ : ∃ c, ctlL SL = c := ⟨_, rfl⟩
          obtain ⟨k, hk⟩ : ∃ k, cs2.length = k := ⟨_, rfl⟩
          have HCR : Hd (ctlR SL = (cs2, 0)) := ⟨by rw [ctlR, if_pos hall, hcs]⟩
          have HUF : Hd (uncR cs2 = (SL, 0)) := ⟨by rw [← hcs]; exact uncR_forth hall⟩
          have HRg : Hd (∀ y ∈ cs2, 0 ≤ y ∧ y ≤ 255) := ⟨by rw [← hcs]; exact ctlL_range hall⟩
          obtain ⟨j, hfj, hj1, hf0, hf1⟩ := first_ctl HSL.out hne hall
          rw [hcs] at hlen hfj
          rw [hk] at hlen
          have HK := Hd.mk hk
          have HFJ := Hd.mk hfj
          have hnp : 0 < nL := by
            rw [← HNL.out.2]
            exact Nat.pos_of_ne_zero (fun e => hne (List.eq_nil_of_length_eq_zero e))
          have hkk : decide ((k : Int) ≤ 6 * win) = true := decide_eq_true (by omega)
          have hkb : k ≤ 400000 := by omega
          clear hcs hk hfj hlen hne hall
          go_wp2_with fail
          have hc1 := control_c (A := B0) (c := b0) (l := SL) (w := w7) HF7.out.s HF7.out.hs (by rw [HNL.out.2]; omega)
          rw [HCR.out, HNL.out.2] at hc1
          refine hc1.mono ?_
          clear hc1
          rintro e w8 ⟨vk, rfl, ok, hb8⟩
          obtain ⟨Ak, ck, rfl⟩ := own_slice' ok HK.out
          have HOK := Hd.mk ok
          have HB8 := Hd.mk (below_step HB7.out hb8)
          clear ok hb8
          go_wp2_with fail
          have hun := uncontrol_c (bs_own HOK.out HK.out HRg.out) (by omega)
          rw [HUF.out] at hun
          refine hun.mono ?_
          clear hun
          rintro e w9 ⟨vs9, rfl, os9, hb9⟩
          obtain ⟨As9, cs9, rfl⟩ := own_slice' os9 HNL.out.2
          have HO9 := Hd.mk os9
          have HOK9 := Hd.mk (pw_own_below HOK.out hb9)
          have HB9 := Hd.mk (below_step HB8.out hb9)
          clear os9 hb9
          go_wp2_with fail
          have hbs := bs_own HOK9.out HK.out HRg.out
          have hde := decode_calls _ _ _ _ _ hbs.C hbs.hc hbs.hr
          rw [HFJ.out] at hde
          simp only [ret3] at hde
          refine hde.mono ?_
          clear hde hbs
          rintro e w10 ⟨rfl, hb10⟩
          have HOK10 := Hd.mk (pw_own_below HOK9.out hb10)
          have HO10 := Hd.mk (pw_own_below HO9.out hb10)
          have HB10 := Hd.mk (below_step HB9.out hb10)
          clear hb10
          have hyk := blk_below HY.out HB10.out
          clear q1 z1
          have q1 := blk_cell hyk 1
          simp at q1
          have hCL := Kd.C_below HE.out.s HB10.out
          rw [HNL.out.1] at hCL
          obtain ⟨ad, hA, x0, x1, x2⟩ := at_T81 hCL 0 (by omega) (by omega)
          have HCLf : Hd (∀ W, Below w0.heap.size w0 W → Kd.C k81 W A0 nL L) := ⟨fun W hW => by have := Kd.C_below HE.out.s hW; rwa [HNL.out.1] at this⟩
          have HHS : Hd (nL ≤ c0) := ⟨by have := HE.out.hs; rwa [HNL.out.1] at this⟩
          subst hA
          obtain ⟨y0, hy0⟩ : ∃ y, (rd_T81 L 0).f0 = y := ⟨_, rfl⟩
          rw [hy0] at x0 hf0 hf1 ⊢
          have x0b : w10.cell? ad = some (.int .i64 y0) := x0
          have x0c : w10.cell? (ad.add 0) = some (.int .i64 y0) := x0
          have hj : decide ((j : Int) < 1) = false := decide_eq_false (by omega)
          have hnp2 : decide ((0 : Int) < (nL : Int)) = true := decide_eq_true (by omega)
          have hwy : wrap64 y0 = y0 := by unfold wrap64; omega
          have hyy : (y0 == y0) = true := by simp
          clear hyk hCL x1 x2
          have HQ1 := Hd.mk q1
          go_wp2_with fail
          have HPC : Hd (∀ W, Below w10.heap.size w10 W → Calls Try.prog 17 #[.agg #[.slice As9 nL cs9, .slice none 0 0, .slice none 0 0]] W fun e w' => ∃ B b, e = .returned (.agg #[.slice B nL b, .slice none 0 0, .slice none 0 0]) ∧ (Kd.C k81 w' B nL L ∧ nL ≤ b) ∧ Below W.heap.size W w') := ⟨fun W hW => by
            have hp1 := plain_c (A0 := As9) (c0 := cs9) (st := SL) (A1 := none) (n1 := 0) (c1 := 0) (A2 := none) (n2 := 0) (c2 := 0) (w := W) (Kd.C_below (OS.C82 HO10.out HNL.out.2) hW) (by rw [HNL.out.2]; omega)
            rw [HNL.out.2] at hp1
            refine hp1.mono ?_
            rintro e w' ⟨v, rfl, ov, hv⟩
            obtain ⟨B, bb, rfl⟩ := own_slice' ov HNL.out.2
            refine ⟨B, bb, rfl, ⟨?_, own_cap' ov⟩, hv⟩
            have := OS.C81 ov HNL.out.2
            rw [← HSL.out, t81_f81, HNL.out.1] at this
            exact this⟩
          have HBD := Hd.mk (Below.drew' w10)
          have HKK := Hd.mk (And.intro hkk hwin)
          clear x0 x0b x0c hkk hgt hwin hw0 hw1
          refine start_ (n := 19) (S := fun w' => w'.cell? ⟨w.heap.size, 1, none⟩ = some (.slice (some ad) nL c0)) (ds := []) #[false, false, false, false, false, false, false, false, false, false, false, false, false, false, false, false, false, false, false] (by kernel_rfl) rfl rfl (q1) (fun hHeld => ?_)
          refine pure_ (i := 0) (N := some 126) (v := ?_) (a' := ?_) #[true, false, false, false, false, false, false, false, false, false, false, false, false, false, false, false, false, false, false] rfl rfl (by kernel_rfl) (fun _ _ _ h => h) (Or.inl ⟨by rfl, ?_⟩) ?_ ?_
          rotate_left
          · intro w'
            go_simp
            with_reducible rfl
          rotate_left
          · simp only [Act.put, List.setIfInBounds_toArray, List.set_cons_zero, List.set_cons_succ, i64_w, i32_w]
            rfl
          refine pure_ (i := 1) (N := some 127) (v := ?_) (a' := ?_) #[true, true, false, false, false, false, false, false, false, false, false, false, false, false, false, false, false, false, false] rfl rfl (by kernel_rfl) (fun _ _ _ h => h) (Or.inl ⟨by rfl, ?_⟩) ?_ ?_
          rotate_left
          · intro w'
            go_simp
            with_reducible rfl
          rotate_left
          · simp only [Act.put, List.setIfInBounds_toArray, List.set_cons_zero, List.set_cons_succ, i64_w, i32_w]
            rfl
          refine pure_ (i := 4) (N := some 130) (v := ?_) (a' := ?_) #[true, true, false, false, true, false, false, false, false, false, false, false, false, false, false, false, false, false, false] rfl rfl (by kernel_rfl) (fun _ _ _ h => h) (Or.inl ⟨by rfl, ?_⟩) ?_ ?_
          rotate_left
          · intro w'
            go_simp
            with_reducible rfl
          rotate_left
          · simp only [Act.put, List.setIfInBounds_toArray, List.set_cons_zero, List.set_cons_succ, i64_w, i32_w]
            rfl
          refine pure_ (i := 5) (N := some 131) (v := ?_) (a' := ?_) #[true, true, false, false, true, true, false, false, false, false, false, false, false, false, false, false, false, false, false] rfl rfl (by kernel_rfl) (fun _ _ _ h => h) (Or.inl ⟨by rfl, ?_⟩) ?_ ?_
          rotate_left
          · intro w'
            go_simp
            with_reducible rfl
          rotate_left
          · simp only [Act.put, List.setIfInBounds_toArray, List.set_cons_zero, List.set_cons_succ, i64_w, i32_w]
            rfl
          refine take_ (i := 6) (N := some 132) (v := ?_) (a' := ?_) #[true, true, false, false, true, true, true, false, false, false, false, false, false, false, false, false, false, false, false] rfl rfl (by kernel_rfl) (fun _ _ _ h => h) (Or.inl ⟨by rfl, ?_⟩) hHeld ?_ ?_
          rotate_left
          · intro w' s0
            go_simp
            with_reducible rfl
          rotate_left
          · simp only [Act.put, List.setIfInBounds_toArray, List.set_cons_zero, List.set_cons_succ, i64_w, i32_w]
            rfl
          refine one_ (i := 2) (N := some 128) #[true, true, true, false, true, true, true, false, false, false, false, false, false, false, false, false, false, false, false] rfl rfl (by kernel_rfl) (by decide) (fun K hK => ?_)
          refine goes_ Try.func17 (by kernel_rfl) rfl #[.agg #[.slice As9 nL cs9, .slice none 0 0, .slice none 0 0]] (by rfl) rfl rfl (by simp only [List.map_toArray, List.map_cons, List.map_nil]; rfl) ?_
          with_reducible refine (HPC.out _ HBD.out).mono ?_
          rintro e w11 ⟨Bp, bp, rfl, hP, hb11⟩
          refine ⟨_, rfl, ?_⟩
          have HP := Hd.mk hP
          have HB11 := Hd.mk (below_step (below_step HB10.out HBD.out) hb11)
          have hbx := hb11
          clear hP
          refine hK.out _ _ (pw_cell_below hbx q1) (fun hHeld => ?_)
          clear hK K
          refine norm_ (a' := ?_) ?_ ?_
          rotate_left
          · show Act.put _ (some 128) _ = _
            simp only [Act.put, List.setIfInBounds_toArray, List.set_cons_zero, List.set_cons_succ, i64_w, i32_w]
            rfl
          refine pure_ (i := 3) (N := some 129) (v := ?_) (a' := ?_) #[true, true, true, true, true, true, true, false, false, false, false, false, false, false, false, false, false, false, false] rfl rfl (by kernel_rfl) (fun _ _ _ h => h) (Or.inl ⟨by rfl, ?_⟩) ?_ ?_
          rotate_left
          · intro w'
            go_simp
            with_reducible rfl
          rotate_left
          · simp only [Act.put, List.setIfInBounds_toArray, List.set_cons_zero, List.set_cons_succ, i64_w, i32_w]
            rfl
          refine one_ (i := 7) (N := some 133) #[true, true, true, true, true, true, true, true, false, false, false, false, false, false, false, false, false, false, false] rfl rfl (by kernel_rfl) (by decide) (fun K hK => ?_)
          refine goes_ Try.func33 (by kernel_rfl) rfl #[.slice Bp nL bp, .slice (some ad) nL c0] (by rfl) rfl rfl (by simp only [List.map_toArray, List.map_cons, List.map_nil]; rfl) ?_
          with_reducible refine (sameSteps_c HP.out.1 HP.out.2 (HCLf.out _ HB11.out) HHS.out (by omega)).mono ?_
          rintro e w12 ⟨rfl, hb12⟩
          refine ⟨_, rfl, ?_⟩
          have HB12 := Hd.mk (below_step HB11.out hb12)
          have hbx2 := hb12
          refine hK.out _ _ (pw_cell_below hbx2 (pw_cell_below hbx q1)) (fun hHeld => ?_)
          clear hK K
          refine norm_ (a' := ?_) ?_ ?_
          rotate_left
          · show Act.put _ (some 133) _ = _
            simp only [Act.put, List.setIfInBounds_toArray, List.set_cons_zero, List.set_cons_succ, i64_w, i32_w]
            rfl
          refine pure_ (i := 8) (N := some 134) (v := ?_) (a' := ?_) #[true, true, true, true, true, true, true, true, true, false, false, false, false, false, false, false, false, false, false] rfl rfl (by kernel_rfl) (fun _ _ _ h => h) (Or.inl ⟨by rfl, ?_⟩) ?_ ?_
          rotate_left
          · intro w'
            go_simp
            with_reducible rfl
          rotate_left
          · simp only [Act.put, List.setIfInBounds_toArray, List.set_cons_zero, List.set_cons_succ, i64_w, i32_w]
            rfl
          refine pure_ (i := 9) (N := some 135) (v := ?_) (a' := ?_) #[true, true, true, true, true, true, true, true, true, true, false, false, false, false, false, false, false, false, false] rfl rfl (by kernel_rfl) (fun _ _ _ h => h) (Or.inl ⟨by rfl, ?_⟩) ?_ ?_
          rotate_left
          · intro w'
            go_simp
            with_reducible rfl
          rotate_left
          · simp only [Act.put, List.setIfInBounds_toArray, List.set_cons_zero, List.set_cons_succ, i64_w, i32_w]
            rfl
          refine pure_ (i := 10) (N := some 136) (v := ?_) (a' := ?_) #[true, true, true, true, true, true, true, true, true, true, true, false, false, false, false, false, false, false, false] rfl rfl (by kernel_rfl) (fun _ _ _ h => h) (Or.inl ⟨by rfl, ?_⟩) ?_ ?_
          rotate_left
          · intro w'
            go_simp
            with_reducible rfl
          rotate_left
          · simp only [Act.put, List.setIfInBounds_toArray, List.set_cons_zero, List.set_cons_succ, i64_w, i32_w]
            rfl
          refine pure_ (i := 11) (N := some 137) (v := ?_) (a' := ?_) #[true, true, true, true, true, true, true, true, true, true, true, true, false, false, false, false, false, false, false] rfl rfl (by kernel_rfl) (fun _ _ _ h => h) (Or.inl ⟨by rfl, ?_⟩) ?_ ?_
          rotate_left
          · intro w'
            go_simp
            with_reducible rfl
          rotate_left
          · simp only [Act.put, List.setIfInBounds_toArray, List.set_cons_zero, List.set_cons_succ, i64_w, i32_w]
            rfl
          refine one_ (i := 12) (N := some 138) #[true, true, true, true, true, true, true, true, true, true, true, true, true, false, false, false, false, false, false] rfl rfl (by kernel_rfl) (by decide) (fun K hK => ?_)
          refine goes_ Try.func37 (by kernel_rfl) rfl #[.int .i64 win] (by rfl) rfl rfl (by simp only [List.map_toArray, List.map_cons, List.map_nil]; rfl) ?_
          with_reducible refine (most_in HKK.out.2.1 HKK.out.2.2 _).mono ?_
          rintro e w13 ⟨rfl, hb13⟩
          refine ⟨_, rfl, ?_⟩
          have HB13 := Hd.mk (below_step HB12.out hb13)
          have hbx3 := hb13
          have hkk := HKK.out.1
          refine hK.out _ _ (pw_cell_below hbx3 (pw_cell_below hbx2 (pw_cell_below hbx q1))) (fun hHeld => ?_)
          clear hK K
          refine norm_ (a' := ?_) ?_ ?_
          rotate_left
          · show Act.put _ (some 138) _ = _
            simp only [Act.put, List.setIfInBounds_toArray, List.set_cons_zero, List.set_cons_succ, i64_w, i32_w]
            rfl
          refine pure_ (i := 13) (N := some 139) (v := ?_) (a' := ?_) #[true, true, true, true, true, true, true, true, true, true, true, true, true, true, false, false, false, false, false] rfl rfl (by kernel_rfl) (fun _ _ _ h => h) (Or.inl ⟨by rfl, ?_⟩) ?_ ?_
          rotate_left
          · intro w'
            go_simp
            with_reducible rfl
          rotate_left
          · simp only [Act.put, List.setIfInBounds_toArray, List.set_cons_zero, List.set_cons_succ, i64_w, i32_w]
            rfl
          refine pure_ (i := 14) (N := some 140) (v := ?_) (a' := ?_) #[true, true, true, true, true, true, true, true, true, true, true, true, true, true, true, false, false, false, false] rfl rfl (by kernel_rfl) (fun _ _ _ h => h) (Or.inl ⟨by rfl, ?_⟩) ?_ ?_
          rotate_left
          · intro w'
            go_simp
            with_reducible rfl
          rotate_left
          · simp only [Act.put, List.setIfInBounds_toArray, List.set_cons_zero, List.set_cons_succ, i64_w, i32_w]
            rfl
          refine pure_ (i := 15) (N := some 141) (v := ?_) (a' := ?_) #[true, true, true, true, true, true, true, true, true, true, true, true, true, true, true, true, false, false, false] rfl rfl (by kernel_rfl) (fun _ _ _ h => h) (Or.inl ⟨by rfl, ?_⟩) ?_ ?_
          rotate_left
          · intro w'
            go_simp
            with_reducible rfl
          rotate_left
          · simp only [Act.put, List.setIfInBounds_toArray, List.set_cons_zero, List.set_cons_succ, i64_w, i32_w]
            rfl
          refine one_ (i := 16) (N := some 142) #[true, true, true, true, true, true, true, true, true, true, true, true, true, true, true, true, true, false, false] rfl rfl (by kernel_rfl) (by decide) (fun K hK => ?_)
          refine goes_ Try.func11 (by kernel_rfl) rfl #[] (by rfl) rfl rfl (by simp only [List.map_toArray, List.map_nil]) ?_
          refine (lives_c _).mono ?_
          rintro e w14 ⟨rfl, hb14⟩
          refine ⟨_, rfl, ?_⟩
          have HB14 := Hd.mk (below_step HB13.out hb14)
          have hbx4 := hb14
          refine hK.out _ _ (pw_cell_below hbx4 (pw_cell_below hbx3 (pw_cell_below hbx2 (pw_cell_below hbx q1)))) (fun hHeld => ?_)
          clear hK K
          refine norm_ (a' := ?_) ?_ ?_
          rotate_left
          · show Act.put _ (some 142) _ = _
            simp only [Act.put, List.setIfInBounds_toArray, List.set_cons_zero, List.set_cons_succ, i64_w, i32_w]
            rfl
          refine pure_ (i := 17) (N := some 143) (v := ?_) (a' := ?_) #[true, true, true, true, true, true, true, true, true, true, true, true, true, true, true, true, true, true, false] rfl rfl (by kernel_rfl) (fun _ _ _ h => h) (Or.inl ⟨by rfl, ?_⟩) ?_ ?_
          rotate_left
          · intro w'
            go_simp
            with_reducible rfl
          rotate_left
          · simp only [Act.put, List.setIfInBounds_toArray, List.set_cons_zero, List.set_cons_succ, i64_w, i32_w]
            rfl
          refine pure_ (i := 18) (N := some 6) (v := ?_) (a' := ?_) #[true, true, true, true, true, true, true, true, true, true, true, true, true, true, true, true, true, true, true] rfl rfl (by kernel_rfl) (fun _ _ _ h => h) (Or.inl ⟨by rfl, ?_⟩) ?_ ?_
          rotate_left
          · intro w'
            go_simp
            with_reducible rfl
          rotate_left
          · simp only [Act.put, List.setIfInBounds_toArray, List.set_cons_zero, List.set_cons_succ, i64_w, i32_w]
            rfl
          refine done_ (by kernel_rfl) ?_
          clear hHeld
          go_wp2
          go_ret
          exact ⟨by simp [HKK.out.1], below_step HB0.out HB14.out⟩
        · have hrn : (r == 0) = false := by simpa using hr0
          clear hr0
          go_wp2_with fail
          refine (most_in hwin.1 hwin.2 _).mono ?_
          rintro e w8 ⟨rfl, hb8⟩
          have HB8 := Hd.mk (below_step HB7.out hb8)
          clear hb8
          go_wp2_with fail
          refine (lives_c _).mono ?_
          rintro e w9 ⟨rfl, hb9⟩
          have HB9 := Hd.mk (below_step HB8.out hb9)
          clear hb9
          go_wp2
          go_ret
          exact ⟨by simp, below_step HB0.out HB9.out⟩
    · by_cases h64 : win < 64
      · have hd := decide_eq_true h64
        go_wp2_with fail
        refine (most_out hwin _).mono ?_
        rintro e w7 ⟨rfl, hb7⟩
        have HB7 := Hd.mk (below_step HB6.out hb7)
        clear hb7
        go_wp2_with fail
        refine (lives_c _).mono ?_
        rintro e w8 ⟨rfl, hb8⟩
        have HB8 := Hd.mk (below_step HB7.out hb8)
        clear hb8
        go_wp2
        go_ret
        exact ⟨by simp, below_step HB0.out HB8.out⟩
      · have hd := decide_eq_false h64
        have hd1 : decide (win > 65536) = true := decide_eq_true (by omega)
        go_wp2_with fail
        refine (most_out hwin _).mono ?_
        rintro e w7 ⟨rfl, hb7⟩
        have HB7 := Hd.mk (below_step HB6.out hb7)
        clear hb7
        go_wp2_with fail
        refine (lives_c _).mono ?_
        rintro e w8 ⟨rfl, hb8⟩
        have HB8 := Hd.mk (below_step HB7.out hb8)
        clear hb8
        go_wp2
        go_ret
        exact ⟨by simp, below_step HB0.out HB8.out⟩
  · have hue' : (ue == 0) = false := by simpa using hue
    have hus : us = [] := by
      have := HUN.out
      rw [show unc (b.length + 1) b [] = (us, ue) from HU.out] at this
      exact this hue
    have hq0 : q = 0 := by rw [← HQ.out, hus]; rfl
    subst hq0
    clear hus hue
    have HBk := HB1
    have hyk := blk_below HY.out HBk.out
    have q0 := blk_cell hyk 0
    have q1 := blk_cell hyk 1
    have q2 := blk_cell hyk 2
    have q3 := blk_cell hyk 3
    simp at q0 q1 q2 q3
    clear hyk
    go_wp2_with fail
    have hfc := face_c (HE.out.below HBk.out) HSL.out
    rw [HNL.out.1, HNL.out.2, HND.out, HNX.out] at hfc
    refine hfc.mono ?_
    clear hfc q0 q1 q2 q3
    rintro e w5 ⟨B0, b0, B1, b1, B2, b2, rfl, hF, hb5⟩
    have hba := (Below.refl w5.heap.size w5).alloc (Nat.le_refl _) (.cells #[.int .i64 pos, .slice B0 nL b0, .slice B1 nd b1, .slice B2 nx b2] 43)
    have HF := Hd.mk (hF.below hba)
    have HB6 := Hd.mk (below_step (below_step HBk.out hb5) hba)
    have hz := blk_new w5 (.cells #[.int .i64 pos, .slice B0 nL b0, .slice B1 nd b1, .slice B2 nx b2] 43)
    have hyk := blk_below HY.out HB6.out
    have q0 := blk_cell hyk 0
    have q1 := blk_cell hyk 1
    have q2 := blk_cell hyk 2
    have q3 := blk_cell hyk 3
    have z0 := blk_cell hz 0
    have z1 := blk_cell hz 1
    have z2 := blk_cell hz 2
    have z3 := blk_cell hz 3
    simp at q0 q1 q2 q3 z0 z1 z2 z3
    have HZ := Hd.mk hz
    clear hba hF hb5 hyk hz
    by_cases hwin : 64 ≤ win ∧ win ≤ 65536
    · have hw0 : decide (win < 64) = false := decide_eq_false (by omega)
      have hw1 : decide (win > 65536) = false := decide_eq_false (by omega)
      have h6 : wrap64 (6 * win) = 6 * win := by unfold wrap64; omega
      by_cases hgt : (nd : Int) + (nx : Int) > win
      · have hg : decide ((nd : Int) + (nx : Int) > win) = true := decide_eq_true hgt
        go_wp2_with fail
        refine (most_in hwin.1 hwin.2 _).mono ?_
        rintro e w7 ⟨rfl, hb7⟩
        have HB7 := Hd.mk (below_step HB6.out hb7)
        clear hb7
        go_wp2_with fail
        refine (lives_c _).mono ?_
        rintro e w8 ⟨rfl, hb8⟩
        have HB8 := Hd.mk (below_step HB7.out hb8)
        clear hb8
        go_wp2
        go_ret
        exact ⟨by simp, below_step HB0.out HB8.out⟩
      · have hg : decide ((nd : Int) + (nx : Int) > win) = false := decide_eq_false hgt
        obtain ⟨r, hr⟩ : ∃ r, pchk pos SL d x 16777216 ((nd : Int) + (nx : Int)) = r := ⟨_, rfl⟩
        have hck := pck_c HF.out pos 16777216 ((nd : Int) + (nx : Int)) hr
        rw [HNL.out.2, HND.out, HNX.out] at hck
        have HRr := Hd.mk hr
        clear hr
        go_wp2_with fail
        refine hck.mono ?_
        clear hck
        rintro e w7 ⟨rfl, hb7⟩
        have HB7 := Hd.mk (below_step HB6.out hb7)
        have HF7 := Hd.mk (HF.out.below hb7)
        have hz := blk_below HZ.out hb7
        have hyk := blk_below HY.out HB7.out
        clear q0 q1 q2 q3 z0 z1 z2 z3
        have q1 := blk_cell hyk 1
        have z1 := blk_cell hz 1
        simp at q1 z1
        clear hb7 hyk hz
        by_cases hr0 : r = 0
        · subst hr0
          obtain ⟨hne, hall, hlen⟩ := pchk_ok HRr.out
          obtain ⟨cs2, hcs⟩ : ∃ c, ctlL SL = c := ⟨_, rfl⟩
          obtain ⟨k, hk⟩ : ∃ k, cs2.length = k := ⟨_, rfl⟩
          have HCR : Hd (ctlR SL = (cs2, 0)) := ⟨by rw [ctlR, if_pos hall, hcs]⟩
          have HUF : Hd (uncR cs2 = (SL, 0)) := ⟨by rw [← hcs]; exact uncR_forth hall⟩
          have HRg : Hd (∀ y ∈ cs2, 0 ≤ y ∧ y ≤ 255) := ⟨by rw [← hcs]; exact ctlL_range hall⟩
          obtain ⟨j, hfj, hj1, hf0, hf1⟩ := first_ctl HSL.out hne hall
          rw [hcs] at hlen hfj
          rw [hk] at hlen
          have HK := Hd.mk hk
          have HFJ := Hd.mk hfj
          have hnp : 0 < nL := by
            rw [← HNL.out.2]
            exact Nat.pos_of_ne_zero (fun e => hne (List.eq_nil_of_length_eq_zero e))
          have hkk : decide ((k : Int) ≤ 6 * win) = true := decide_eq_true (by omega)
          have hkb : k ≤ 400000 := by omega
          clear hcs hk hfj hlen hne hall
          go_wp2_with fail
          have hc1 := control_c (A := B0) (c := b0) (l := SL) (w := w7) HF7.out.s HF7.out.hs (by rw [HNL.out.2]; omega)
          rw [HCR.out, HNL.out.2] at hc1
          refine hc1.mono ?_
          clear hc1
          rintro e w8 ⟨vk, rfl, ok, hb8⟩
          obtain ⟨Ak, ck, rfl⟩ := own_slice' ok HK.out
          have HOK := Hd.mk ok
          have HB8 := Hd.mk (below_step HB7.out hb8)
          clear ok hb8
          go_wp2_with fail
          have hun := uncontrol_c (bs_own HOK.out HK.out HRg.out) (by omega)
          rw [HUF.out] at hun
          refine hun.mono ?_
          clear hun
          rintro e w9 ⟨vs9, rfl, os9, hb9⟩
          obtain ⟨As9, cs9, rfl⟩ := own_slice' os9 HNL.out.2
          have HO9 := Hd.mk os9
          have HOK9 := Hd.mk (pw_own_below HOK.out hb9)
          have HB9 := Hd.mk (below_step HB8.out hb9)
          clear os9 hb9
          go_wp2_with fail
          have hbs := bs_own HOK9.out HK.out HRg.out
          have hde := decode_calls _ _ _ _ _ hbs.C hbs.hc hbs.hr
          rw [HFJ.out] at hde
          simp only [ret3] at hde
          refine hde.mono ?_
          clear hde hbs
          rintro e w10 ⟨rfl, hb10⟩
          have HOK10 := Hd.mk (pw_own_below HOK9.out hb10)
          have HO10 := Hd.mk (pw_own_below HO9.out hb10)
          have HB10 := Hd.mk (below_step HB9.out hb10)
          clear hb10
          have hyk := blk_below HY.out HB10.out
          clear q1 z1
          have q1 := blk_cell hyk 1
          simp at q1
          have hCL := Kd.C_below HE.out.s HB10.out
          rw [HNL.out.1] at hCL
          obtain ⟨ad, hA, x0, x1, x2⟩ := at_T81 hCL 0 (by omega) (by omega)
          have HCLf : Hd (∀ W, Below w0.heap.size w0 W → Kd.C k81 W A0 nL L) := ⟨fun W hW => by have := Kd.C_below HE.out.s hW; rwa [HNL.out.1] at this⟩
          have HHS : Hd (nL ≤ c0) := ⟨by have := HE.out.hs; rwa [HNL.out.1] at this⟩
          subst hA
          obtain ⟨y0, hy0⟩ : ∃ y, (rd_T81 L 0).f0 = y := ⟨_, rfl⟩
          rw [hy0] at x0 hf0 hf1 ⊢
          have x0b : w10.cell? ad = some (.int .i64 y0) := x0
          have x0c : w10.cell? (ad.add 0) = some (.int .i64 y0) := x0
          have hj : decide ((j : Int) < 1) = false := decide_eq_false (by omega)
          have hnp2 : decide ((0 : Int) < (nL : Int)) = true := decide_eq_true (by omega)
          have hwy : wrap64 y0 = y0 := by unfold wrap64; omega
          have hyy : (y0 == y0) = true := by simp
          clear hyk hCL x1 x2
          have HQ1 := Hd.mk q1
          go_wp2_with fail
          have HPC : Hd (∀ W, Below w10.heap.size w10 W → Calls Try.prog 17 #[.agg #[.slice As9 nL cs9, .slice none 0 0, .slice none 0 0]] W fun e w' => ∃ B b, e = .returned (.agg #[.slice B nL b, .slice none 0 0, .slice none 0 0]) ∧ (Kd.C k81 w' B nL L ∧ nL ≤ b) ∧ Below W.heap.size W w') := ⟨fun W hW => by
            have hp1 := plain_c (A0 := As9) (c0 := cs9) (st := SL) (A1 := none) (n1 := 0) (c1 := 0) (A2 := none) (n2 := 0) (c2 := 0) (w := W) (Kd.C_below (OS.C82 HO10.out HNL.out.2) hW) (by rw [HNL.out.2]; omega)
            rw [HNL.out.2] at hp1
            refine hp1.mono ?_
            rintro e w' ⟨v, rfl, ov, hv⟩
            obtain ⟨B, bb, rfl⟩ := own_slice' ov HNL.out.2
            refine ⟨B, bb, rfl, ⟨?_, own_cap' ov⟩, hv⟩
            have := OS.C81 ov HNL.out.2
            rw [← HSL.out, t81_f81, HNL.out.1] at this
            exact this⟩
          have HBD := Hd.mk (Below.drew' w10)
          have HKK := Hd.mk (And.intro hkk hwin)
          clear x0 x0b x0c hkk hgt hwin hw0 hw1
          refine start_ (n := 19) (S := fun w' => w'.cell? ⟨w.heap.size, 1, none⟩ = some (.slice (some ad) nL c0)) (ds := []) #[false, false, false, false, false, false, false, false, false, false, false, false, false, false, false, false, false, false, false] (by kernel_rfl) rfl rfl (q1) (fun hHeld => ?_)
          refine pure_ (i := 0) (N := some 126) (v := ?_) (a' := ?_) #[true, false, false, false, false, false, false, false, false, false, false, false, false, false, false, false, false, false, false] rfl rfl (by kernel_rfl) (fun _ _ _ h => h) (Or.inl ⟨by rfl, ?_⟩) ?_ ?_
          rotate_left
          · intro w'
            go_simp
            with_reducible rfl
          rotate_left
          · simp only [Act.put, List.setIfInBounds_toArray, List.set_cons_zero, List.set_cons_succ, i64_w, i32_w]
            rfl
          refine pure_ (i := 1) (N := some 127) (v := ?_) (a' := ?_) #[true, true, false, false, false, false, false, false, false, false, false, false, false, false, false, false, false, false, false] rfl rfl (by kernel_rfl) (fun _ _ _ h => h) (Or.inl ⟨by rfl, ?_⟩) ?_ ?_
          rotate_left
          · intro w'
            go_simp
            with_reducible rfl
          rotate_left
          · simp only [Act.put, List.setIfInBounds_toArray, List.set_cons_zero, List.set_cons_succ, i64_w, i32_w]
            rfl
          refine pure_ (i := 4) (N := some 130) (v := ?_) (a' := ?_) #[true, true, false, false, true, false, false, false, false, false, false, false, false, false, false, false, false, false, false] rfl rfl (by kernel_rfl) (fun _ _ _ h => h) (Or.inl ⟨by rfl, ?_⟩) ?_ ?_
          rotate_left
          · intro w'
            go_simp
            with_reducible rfl
          rotate_left
          · simp only [Act.put, List.setIfInBounds_toArray, List.set_cons_zero, List.set_cons_succ, i64_w, i32_w]
            rfl
          refine pure_ (i := 5) (N := some 131) (v := ?_) (a' := ?_) #[true, true, false, false, true, true, false, false, false, false, false, false, false, false, false, false, false, false, false] rfl rfl (by kernel_rfl) (fun _ _ _ h => h) (Or.inl ⟨by rfl, ?_⟩) ?_ ?_
          rotate_left
          · intro w'
            go_simp
            with_reducible rfl
          rotate_left
          · simp only [Act.put, List.setIfInBounds_toArray, List.set_cons_zero, List.set_cons_succ, i64_w, i32_w]
            rfl
          refine take_ (i := 6) (N := some 132) (v := ?_) (a' := ?_) #[true, true, false, false, true, true, true, false, false, false, false, false, false, false, false, false, false, false, false] rfl rfl (by kernel_rfl) (fun _ _ _ h => h) (Or.inl ⟨by rfl, ?_⟩) hHeld ?_ ?_
          rotate_left
          · intro w' s0
            go_simp
            with_reducible rfl
          rotate_left
          · simp only [Act.put, List.setIfInBounds_toArray, List.set_cons_zero, List.set_cons_succ, i64_w, i32_w]
            rfl
          refine one_ (i := 2) (N := some 128) #[true, true, true, false, true, true, true, false, false, false, false, false, false, false, false, false, false, false, false] rfl rfl (by kernel_rfl) (by decide) (fun K hK => ?_)
          refine goes_ Try.func17 (by kernel_rfl) rfl #[.agg #[.slice As9 nL cs9, .slice none 0 0, .slice none 0 0]] (by rfl) rfl rfl (by simp only [List.map_toArray, List.map_cons, List.map_nil]; rfl) ?_
          with_reducible refine (HPC.out _ HBD.out).mono ?_
          rintro e w11 ⟨Bp, bp, rfl, hP, hb11⟩
          refine ⟨_, rfl, ?_⟩
          have HP := Hd.mk hP
          have HB11 := Hd.mk (below_step (below_step HB10.out HBD.out) hb11)
          have hbx := hb11
          clear hP
          refine hK.out _ _ (pw_cell_below hbx q1) (fun hHeld => ?_)
          clear hK K
          refine norm_ (a' := ?_) ?_ ?_
          rotate_left
          · show Act.put _ (some 128) _ = _
            simp only [Act.put, List.setIfInBounds_toArray, List.set_cons_zero, List.set_cons_succ, i64_w, i32_w]
            rfl
          refine pure_ (i := 3) (N := some 129) (v := ?_) (a' := ?_) #[true, true, true, true, true, true, true, false, false, false, false, false, false, false, false, false, false, false, false] rfl rfl (by kernel_rfl) (fun _ _ _ h => h) (Or.inl ⟨by rfl, ?_⟩) ?_ ?_
          rotate_left
          · intro w'
            go_simp
            with_reducible rfl
          rotate_left
          · simp only [Act.put, List.setIfInBounds_toArray, List.set_cons_zero, List.set_cons_succ, i64_w, i32_w]
            rfl
          refine one_ (i := 7) (N := some 133) #[true, true, true, true, true, true, true, true, false, false, false, false, false, false, false, false, false, false, false] rfl rfl (by kernel_rfl) (by decide) (fun K hK => ?_)
          refine goes_ Try.func33 (by kernel_rfl) rfl #[.slice Bp nL bp, .slice (some ad) nL c0] (by rfl) rfl rfl (by simp only [List.map_toArray, List.map_cons, List.map_nil]; rfl) ?_
          with_reducible refine (sameSteps_c HP.out.1 HP.out.2 (HCLf.out _ HB11.out) HHS.out (by omega)).mono ?_
          rintro e w12 ⟨rfl, hb12⟩
          refine ⟨_, rfl, ?_⟩
          have HB12 := Hd.mk (below_step HB11.out hb12)
          have hbx2 := hb12
          refine hK.out _ _ (pw_cell_below hbx2 (pw_cell_below hbx q1)) (fun hHeld => ?_)
          clear hK K
          refine norm_ (a' := ?_) ?_ ?_
          rotate_left
          · show Act.put _ (some 133) _ = _
            simp only [Act.put, List.setIfInBounds_toArray, List.set_cons_zero, List.set_cons_succ, i64_w, i32_w]
            rfl
          refine pure_ (i := 8) (N := some 134) (v := ?_) (a' := ?_) #[true, true, true, true, true, true, true, true, true, false, false, false, false, false, false, false, false, false, false] rfl rfl (by kernel_rfl) (fun _ _ _ h => h) (Or.inl ⟨by rfl, ?_⟩) ?_ ?_
          rotate_left
          · intro w'
            go_simp
            with_reducible rfl
          rotate_left
          · simp only [Act.put, List.setIfInBounds_toArray, List.set_cons_zero, List.set_cons_succ, i64_w, i32_w]
            rfl
          refine pure_ (i := 9) (N := some 135) (v := ?_) (a' := ?_) #[true, true, true, true, true, true, true, true, true, true, false, false, false, false, false, false, false, false, false] rfl rfl (by kernel_rfl) (fun _ _ _ h => h) (Or.inl ⟨by rfl, ?_⟩) ?_ ?_
          rotate_left
          · intro w'
            go_simp
            with_reducible rfl
          rotate_left
          · simp only [Act.put, List.setIfInBounds_toArray, List.set_cons_zero, List.set_cons_succ, i64_w, i32_w]
            rfl
          refine pure_ (i := 10) (N := some 136) (v := ?_) (a' := ?_) #[true, true, true, true, true, true, true, true, true, true, true, false, false, false, false, false, false, false, false] rfl rfl (by kernel_rfl) (fun _ _ _ h => h) (Or.inl ⟨by rfl, ?_⟩) ?_ ?_
          rotate_left
          · intro w'
            go_simp
            with_reducible rfl
          rotate_left
          · simp only [Act.put, List.setIfInBounds_toArray, List.set_cons_zero, List.set_cons_succ, i64_w, i32_w]
            rfl
          refine pure_ (i := 11) (N := some 137) (v := ?_) (a' := ?_) #[true, true, true, true, true, true, true, true, true, true, true, true, false, false, false, false, false, false, false] rfl rfl (by kernel_rfl) (fun _ _ _ h => h) (Or.inl ⟨by rfl, ?_⟩) ?_ ?_
          rotate_left
          · intro w'
            go_simp
            with_reducible rfl
          rotate_left
          · simp only [Act.put, List.setIfInBounds_toArray, List.set_cons_zero, List.set_cons_succ, i64_w, i32_w]
            rfl
          refine one_ (i := 12) (N := some 138) #[true, true, true, true, true, true, true, true, true, true, true, true, true, false, false, false, false, false, false] rfl rfl (by kernel_rfl) (by decide) (fun K hK => ?_)
          refine goes_ Try.func37 (by kernel_rfl) rfl #[.int .i64 win] (by rfl) rfl rfl (by simp only [List.map_toArray, List.map_cons, List.map_nil]; rfl) ?_
          with_reducible refine (most_in HKK.out.2.1 HKK.out.2.2 _).mono ?_
          rintro e w13 ⟨rfl, hb13⟩
          refine ⟨_, rfl, ?_⟩
          have HB13 := Hd.mk (below_step HB12.out hb13)
          have hbx3 := hb13
          have hkk := HKK.out.1
          refine hK.out _ _ (pw_cell_below hbx3 (pw_cell_below hbx2 (pw_cell_below hbx q1))) (fun hHeld => ?_)
          clear hK K
          refine norm_ (a' := ?_) ?_ ?_
          rotate_left
          · show Act.put _ (some 138) _ = _
            simp only [Act.put, List.setIfInBounds_toArray, List.set_cons_zero, List.set_cons_succ, i64_w, i32_w]
            rfl
          refine pure_ (i := 13) (N := some 139) (v := ?_) (a' := ?_) #[true, true, true, true, true, true, true, true, true, true, true, true, true, true, false, false, false, false, false] rfl rfl (by kernel_rfl) (fun _ _ _ h => h) (Or.inl ⟨by rfl, ?_⟩) ?_ ?_
          rotate_left
          · intro w'
            go_simp
            with_reducible rfl
          rotate_left
          · simp only [Act.put, List.setIfInBounds_toArray, List.set_cons_zero, List.set_cons_succ, i64_w, i32_w]
            rfl
          refine pure_ (i := 14) (N := some 140) (v := ?_) (a' := ?_) #[true, true, true, true, true, true, true, true, true, true, true, true, true, true, true, false, false, false, false] rfl rfl (by kernel_rfl) (fun _ _ _ h => h) (Or.inl ⟨by rfl, ?_⟩) ?_ ?_
          rotate_left
          · intro w'
            go_simp
            with_reducible rfl
          rotate_left
          · simp only [Act.put, List.setIfInBounds_toArray, List.set_cons_zero, List.set_cons_succ, i64_w, i32_w]
            rfl
          refine pure_ (i := 15) (N := some 141) (v := ?_) (a' := ?_) #[true, true, true, true, true, true, true, true, true, true, true, true, true, true, true, true, false, false, false] rfl rfl (by kernel_rfl) (fun _ _ _ h => h) (Or.inl ⟨by rfl, ?_⟩) ?_ ?_
          rotate_left
          · intro w'
            go_simp
            with_reducible rfl
          rotate_left
          · simp only [Act.put, List.setIfInBounds_toArray, List.set_cons_zero, List.set_cons_succ, i64_w, i32_w]
            rfl
          refine one_ (i := 16) (N := some 142) #[true, true, true, true, true, true, true, true, true, true, true, true, true, true, true, true, true, false, false] rfl rfl (by kernel_rfl) (by decide) (fun K hK => ?_)
          refine goes_ Try.func11 (by kernel_rfl) rfl #[] (by rfl) rfl rfl (by simp only [List.map_toArray, List.map_nil]) ?_
          refine (lives_c _).mono ?_
          rintro e w14 ⟨rfl, hb14⟩
          refine ⟨_, rfl, ?_⟩
          have HB14 := Hd.mk (below_step HB13.out hb14)
          have hbx4 := hb14
          refine hK.out _ _ (pw_cell_below hbx4 (pw_cell_below hbx3 (pw_cell_below hbx2 (pw_cell_below hbx q1)))) (fun hHeld => ?_)
          clear hK K
          refine norm_ (a' := ?_) ?_ ?_
          rotate_left
          · show Act.put _ (some 142) _ = _
            simp only [Act.put, List.setIfInBounds_toArray, List.set_cons_zero, List.set_cons_succ, i64_w, i32_w]
            rfl
          refine pure_ (i := 17) (N := some 143) (v := ?_) (a' := ?_) #[true, true, true, true, true, true, true, true, true, true, true, true, true, true, true, true, true, true, false] rfl rfl (by kernel_rfl) (fun _ _ _ h => h) (Or.inl ⟨by rfl, ?_⟩) ?_ ?_
          rotate_left
          · intro w'
            go_simp
            with_reducible rfl
          rotate_left
          · simp only [Act.put, List.setIfInBounds_toArray, List.set_cons_zero, List.set_cons_succ, i64_w, i32_w]
            rfl
          refine pure_ (i := 18) (N := some 6) (v := ?_) (a' := ?_) #[true, true, true, true, true, true, true, true, true, true, true, true, true, true, true, true, true, true, true] rfl rfl (by kernel_rfl) (fun _ _ _ h => h) (Or.inl ⟨by rfl, ?_⟩) ?_ ?_
          rotate_left
          · intro w'
            go_simp
            with_reducible rfl
          rotate_left
          · simp only [Act.put, List.setIfInBounds_toArray, List.set_cons_zero, List.set_cons_succ, i64_w, i32_w]
            rfl
          refine done_ (by kernel_rfl) ?_
          clear hHeld
          go_wp2
          go_ret
          exact ⟨by simp [HKK.out.1], below_step HB0.out HB14.out⟩
        · have hrn : (r == 0) = false := by simpa using hr0
          clear hr0
          go_wp2_with fail
          refine (most_in hwin.1 hwin.2 _).mono ?_
          rintro e w8 ⟨rfl, hb8⟩
          have HB8 := Hd.mk (below_step HB7.out hb8)
          clear hb8
          go_wp2_with fail
          refine (lives_c _).mono ?_
          rintro e w9 ⟨rfl, hb9⟩
          have HB9 := Hd.mk (below_step HB8.out hb9)
          clear hb9
          go_wp2
          go_ret
          exact ⟨by simp, below_step HB0.out HB9.out⟩
    · by_cases h64 : win < 64
      · have hd := decide_eq_true h64
        go_wp2_with fail
        refine (most_out hwin _).mono ?_
        rintro e w7 ⟨rfl, hb7⟩
        have HB7 := Hd.mk (below_step HB6.out hb7)
        clear hb7
        go_wp2_with fail
        refine (lives_c _).mono ?_
        rintro e w8 ⟨rfl, hb8⟩
        have HB8 := Hd.mk (below_step HB7.out hb8)
        clear hb8
        go_wp2
        go_ret
        exact ⟨by simp, below_step HB0.out HB8.out⟩
      · have hd := decide_eq_false h64
        have hd1 : decide (win > 65536) = true := decide_eq_true (by omega)
        go_wp2_with fail
        refine (most_out hwin _).mono ?_
        rintro e w7 ⟨rfl, hb7⟩
        have HB7 := Hd.mk (below_step HB6.out hb7)
        clear hb7
        go_wp2_with fail
        refine (lives_c _).mono ?_
        rintro e w8 ⟨rfl, hb8⟩
        have HB8 := Hd.mk (below_step HB7.out hb8)
        clear hb8
        go_wp2
        go_ret
        exact ⟨by simp, below_step HB0.out HB8.out⟩
end Go.Proofs.Ytinlfoblpgpikaa
