/- cutter: the walk of CutterBack. -/
import Derived.Test.YtinlfoblpgpikaaZ6
namespace Go.Proofs.Ytinlfoblpgpikaa
open Go.RowKit Go.ChangeShapes Go.WideShapes Go.Shelf Go.Proofs.YtinlfoblpgpikaaW.PrintWords Go.Proofs.YtinlfoblpgpikaaW.PrintLast Go.Proofs.YtinlfoblpgpikaaW.PrintMore Go.Proofs.Ytinlfoblpgpikaa.Pr
set_option linter.unusedVariables false
set_option linter.unusedSimpArgs false
attribute [-go_sem] Builtin.append_
set_option maxRecDepth 100000 in
set_option maxHeartbeats 32000000 in
theorem walk_cutterBack (Ao : Option Addr) (co : Nat) (old : List Int) (A0 : Option Addr) (c0 : Nat) (L : List S81) (A1 : Option Addr) (c1 : Nat) (d : List Int) (A2 : Option Addr) (c2 : Nat) (x : List Int) (win : Int) (w : World) (ho : ByU w Ao co old) (h : EdU w A0 c0 L A1 c1 d A2 c2 x) (hw : (Lit.int .i64 win).wf = true) :
    Calls Try.prog 9 #[.slice Ao old.length co, .agg #[.slice A0 L.length c0, .slice A1 d.length c1, .slice A2 x.length c2], .int .i64 win] w fun e w' => e = .returned (.bool true) ∧ Below w.heap.size w w' := by
  have l0 := h.l0
  have l1 := h.l1
  have l2 := h.l2
  have lo := ho.hb
  obtain ⟨SL, hSL⟩ : ∃ l, L.map f81 = l := ⟨_, rfl⟩
  have hSLn : SL.length = L.length := by rw [← hSL, List.length_map]
  obtain ⟨X, code, hC⟩ : ∃ X code, cutR SL d x win = (X, code) := ⟨_, _, rfl⟩
  have hel := cutR_el hC
  obtain ⟨n, hn⟩ : ∃ n, X.length = n := ⟨_, rfl⟩
  have hnb : n ≤ 33554432 := by rw [← hn]; exact hel.2
  have hb0 : Below w.heap.size w (w.alloc (.cells #[.slice A0 L.length c0, .slice A1 d.length c1, .slice A2 x.length c2] 26)) := (Below.refl _ _).alloc (Nat.le_refl _) _
  have hG := blk_new w (.cells #[.slice A0 L.length c0, .slice A1 d.length c1, .slice A2 x.length c2] 26)
  obtain ⟨g2, hg2⟩ : ∃ g, w.heap.size = g := ⟨_, rfl⟩
  obtain ⟨w0, hw0⟩ : ∃ v, w.alloc (.cells #[.slice A0 L.length c0, .slice A1 d.length c1, .slice A2 x.length c2] 26) = v := ⟨_, rfl⟩
  obtain ⟨nL, hnL⟩ : ∃ k, L.length = k := ⟨_, rfl⟩
  obtain ⟨nd, hnd⟩ : ∃ k, d.length = k := ⟨_, rfl⟩
  obtain ⟨nx, hnx⟩ : ∃ k, x.length = k := ⟨_, rfl⟩
  obtain ⟨no, hno⟩ : ∃ k, old.length = k := ⟨_, rfl⟩
  have HFC : Hd (∀ W, EdU W A0 c0 L A1 c1 d A2 c2 x → Calls Try.prog 12 #[.agg #[.slice A0 nL c0, .slice A1 nd c1, .slice A2 nx c2]] W fun e w' => ∃ B0 b0 B1 b1 B2 b2, e = .returned (.agg #[.slice B0 nL b0, .slice B1 nd b1, .slice B2 nx b2]) ∧ EN w' B0 nL b0 SL B1 nd b1 d B2 nx b2 x ∧ Below W.heap.size W w') := ⟨fun W hW => face_r hW hSL hnL hnd hnx⟩
  have HRC : Hd (∀ W, EdU W A0 c0 L A1 c1 d A2 c2 x → Calls Try.prog 14 #[.agg #[.slice A0 nL c0, .slice A1 nd c1, .slice A2 nx c2], .int .i64 win] W fun e w' => ∃ B b, e = .returned (.tuple #[.slice B n b, .int .i64 code]) ∧ Kd.R k45 45 w' W.heap.size (fun _ => True) (.slice B n b) (X.map to45) ∧ Below W.heap.size W w') := ⟨fun W hW => by have := rcut_c win hW (X := X) (code := code) (by rw [hSL]; exact hC); rwa [hnL, hnd, hnx, hn] at this⟩
  have HOC : Hd ((Kd.int .u8).C w Ao no old ∧ no ≤ co) := ⟨by have := ho.B.C; rw [hno] at this; exact ⟨this, by rw [← hno]; exact ho.B.hc⟩⟩
  rw [hw0] at hb0 hG
  have HG2 : Hd (w0.heap[g2]? = some (.cells #[.slice A0 L.length c0, .slice A1 d.length c1, .slice A2 x.length c2] 26 (0, 0))) := ⟨hg2 ▸ hG⟩
  have HE := Hd.mk (h.below hb0)
  have HB := Hd.mk hb0
  have hsz0 : g2 < w0.heap.size := by rw [← hw0, ← hg2]; simp
  have HW0 := Hd.mk hw0
  have HGE := Hd.mk hg2
  have HC := Hd.mk hC
  have HN := Hd.mk (And.intro hSL (And.intro (hSLn.trans hnL) (And.intro hnL (And.intro hnd (And.intro hnx (And.intro hno hn))))))
  have HEL := Hd.mk hel
  rw [hnL] at l0 HG2 HW0 ⊢
  rw [hnd] at l1 HG2 HW0 ⊢
  rw [hnx] at l2 HG2 HW0 ⊢
  rw [hno] at lo ⊢
  clear h ho hC hel hSL hSLn hn hb0 hG hw0 hg2 hnL hnd hnx hno hw
  have hol : decide ((no : Int) > 16777216) = false := decide_eq_false (by omega)
  go_enter Try.func9, Try.ntmps9
  go_upto_region 1 with fail
  rw [HW0.out]
  simp only [HGE.out]
  clear HW0
  have o0 := blk_cell HG2.out 0
  have o1 := blk_cell HG2.out 1
  have o2 := blk_cell HG2.out 2
  simp at o0 o1 o2
  go_wp2_with fail
  refine (HFC.out _ HE.out).mono ?_
  rintro e w1 ⟨B0, b0, B1, b1, B2, b2, rfl, hO, hb1⟩
  have hba := (Below.refl w1.heap.size w1).alloc (Nat.le_refl _) (.cells #[.slice B0 nL b0, .slice B1 nd b1, .slice B2 nx b2] 29)
  have hG5 := blk_new w1 (.cells #[.slice B0 nL b0, .slice B1 nd b1, .slice B2 nx b2] 29)
  obtain ⟨g5, hg5⟩ : ∃ g, w1.heap.size = g := ⟨_, rfl⟩
  rw [hg5] at hG5
  have HBB := Hd.mk (And.intro hb1 (And.intro hba (And.intro hG5 hO)))
  have hsz1 := hb1.size
  have HG5E := Hd.mk hg5
  clear hb1 hba hG5 hO hg5 o0 o1 o2 hol HFC
  go_wp2_with fail
  obtain ⟨w2, hw2⟩ : ∃ v, w1.alloc (.cells #[.slice B0 nL b0, .slice B1 nd b1, .slice B2 nx b2] 29) = v := ⟨_, rfl⟩
  rw [hw2] at HBB ⊢
  simp only [HG5E.out]
  have HG52 := Hd.mk HBB.out.2.2.1
  have HEN2 := Hd.mk (HBB.out.2.2.2.below HBB.out.2.1)
  have HG22 := Hd.mk (blk_below (blk_below HG2.out HBB.out.1) HBB.out.2.1)
  have HE2 := Hd.mk ((HE.out.below HBB.out.1).below HBB.out.2.1)
  have HB2 := Hd.mk (below_step (below_step HB.out HBB.out.1) HBB.out.2.1)
  clear hw2 HBB HG2 HE HB
  have m0 := blk_cell HG52.out 0
  have m1 := blk_cell HG52.out 1
  have m2 := blk_cell HG52.out 2
  simp at m0 m1 m2
  go_wp2_with fail
  refine (HEN2.out.cut win (by omega) (by omega) (by omega) HC.out HN.out.2.2.2.2.2.2).mono ?_
  rintro e w3 ⟨Aa, ca, rfl, hRa, hb3⟩
  have HRa3 := Hd.mk hRa
  have HG53 := Hd.mk (blk_below HG52.out hb3)
  have HEN3 := Hd.mk (HEN2.out.below hb3)
  have HG23 := Hd.mk (blk_below HG22.out hb3)
  have HE3 := Hd.mk (HE2.out.below hb3)
  have HB3 := Hd.mk (below_step HB2.out hb3)
  clear hRa hb3 HG52 HEN2 HG22 HE2 HB2 m0 m1 m2
  have m0 := blk_cell HG53.out 0
  have m1 := blk_cell HG53.out 1
  have m2 := blk_cell HG53.out 2
  have o0 := blk_cell HG23.out 0
  have o1 := blk_cell HG23.out 1
  have o2 := blk_cell HG23.out 2
  simp at m0 m1 m2 o0 o1 o2
  by_cases hc0 : code = 0
  rotate_left
  · have hcn : (code != 0) = true := by simpa using hc0
    have hX := cutR_bad HC.out hc0
    have hn0 : n = 0 := by have := HN.out.2.2.2.2.2.2; rw [hX] at this; exact this.symm
    have HN0 := Hd.mk hn0
    clear hX hc0 hn0
    go_wp2_with fail
    refine (HRC.out _ HE3.out).mono ?_
    rintro e w4 ⟨Bw, bw, rfl, _, hb4⟩
    have HB4 := Hd.mk (below_step HB3.out hb4)
    have hne : ((n : Int) == 0) = true := by rw [HN0.out]; rfl
    clear hb4
    go_wp2
    go_ret
    exact ⟨by simp, HB4.out⟩
  subst hc0
  obtain ⟨N, hwN, h64, hck, hXc⟩ := cutR_good HC.out
  subst hwN
  have hcc : ((0 : Int) != 0) = false := rfl
  obtain ⟨hno, hll, hit, hrd, js, jd, jx, hJ, hjc, hjo, hjl, hjn, hji, hjr⟩ := cut_join hck (by have := HN.out.2.1; omega) (by have := HN.out; omega) N h64
  obtain ⟨LL, hLL⟩ : ∃ l, og SL d x 0 = l := ⟨_, rfl⟩
  rw [hLL] at hno hll hrd hJ hjo hjr hXc
  rw [← hXc] at hJ
  have hag := cutR_again h64 hjc hjo hXc
  obtain ⟨WT, hWT⟩ : ∃ l, (if rdB no LL = true then LL.map (ob old) else []) = l := ⟨_, rfl⟩
  obtain ⟨fc, hfc⟩ : ∃ c : Int, (if rdB no LL = true then (0 : Int) else 161) = c := ⟨_, rfl⟩
  obtain ⟨nw, hnw⟩ : ∃ k, WT.length = k := ⟨_, rfl⟩
  obtain ⟨q0, hq0⟩ : ∃ k, js.length = k := ⟨_, rfl⟩
  obtain ⟨q1, hq1⟩ : ∃ k, jd.length = k := ⟨_, rfl⟩
  obtain ⟨q2, hq2⟩ : ∃ k, jx.length = k := ⟨_, rfl⟩
  have hdx : d.length + x.length = nd + nx := by have := HN.out; omega
  have hq0b : q0 ≤ 5000000 := by rw [← hq0]; omega
  have hq12 : q1 + q2 = nd + nx := by rw [← hq1, ← hq2]; omega
  have HLL := Hd.mk (And.intro hno (hll.trans hdx))
  have HXC := Hd.mk hXc
  have HW := Hd.mk (And.intro hWT (And.intro hfc hnw))
  have HAP : Hd (∀ W A0 n0 c0 st A1 n1 c1 dd A2 n2 c2 xx, EN W A0 n0 c0 st A1 n1 c1 dd A2 n2 c2 xx → (Kd.int .u8).C W Ao no old → (ited st dd xx).2 = 0 ∧ (∀ n : Int, n ≤ 16777216 → (rds n st 0 = true ↔ Rds n LL)) ∧ og st dd xx 0 = LL → Calls Try.prog 36 #[.slice Ao no co, .agg #[.slice A0 n0 c0, .slice A1 n1 c1, .slice A2 n2 c2]] W fun e w' => ∃ B b, e = .returned (.tuple #[.slice B nw b, .int .i64 fc]) ∧ ((Kd.int .u8).C w' B nw WT ∧ nw ≤ b) ∧ Below W.heap.size W w') := ⟨fun W A0 n0 c0 st A1 n1 c1 dd A2 n2 c2 xx hE hO hh => hE.apply hO HOC.out.2 (by omega) hh.1 hh.2.1 hh.2.2 hWT hfc hnw⟩
  have HQ := Hd.mk (And.intro hJ (And.intro hag (And.intro hq0 (And.intro hq1 hq2))))
  have HI := Hd.mk (And.intro (And.intro hit (And.intro hrd hLL)) (And.intro hji (And.intro hjr hjo)))
  clear hck hno hll hit hrd hJ hjc hjo hjl hjn hji hjr hLL hXc hag hWT hfc hnw hq0 hq1 hq2 hdx HC HRC
  go_wp2_with fail
  refine (HAP.out _ _ _ _ _ _ _ _ _ _ _ _ _ HEN3.out (Kd.C_below HOC.out.1 HB3.out) HI.out.1).mono ?_
  rintro e w4 ⟨Bw, bw, rfl, hwt, hb4⟩
  have HWT4 := Hd.mk hwt
  have HRa4 := Hd.mk (And.intro (Kd.C_below HRa3.out.1 hb4) HRa3.out.2)
  have HG24 := Hd.mk (blk_below HG23.out hb4)
  have HB4 := Hd.mk (below_step HB3.out hb4)
  clear hwt hb4 HRa3 HG53 HEN3 HG23 HE3 HB3 m0 m1 m2 o0 o1 o2
  go_wp2_with fail
  refine (join_r (N : Int) HRa4.out.1 HRa4.out.2 HEL.out.1 HEL.out.2 HQ.out.1 HQ.out.2.2.1 HQ.out.2.2.2.1 HQ.out.2.2.2.2).mono ?_
  rintro e w5 ⟨D0, d0, D1, d1, D2, d2, rfl, hJE, hb5⟩
  have hba := (Below.refl w5.heap.size w5).alloc (Nat.le_refl _) (.cells #[.slice D0 q0 d0, .slice D1 q1 d1, .slice D2 q2 d2] 29)
  have hG6 := blk_new w5 (.cells #[.slice D0 q0 d0, .slice D1 q1 d1, .slice D2 q2 d2] 29)
  obtain ⟨g6, hg6⟩ : ∃ g, w5.heap.size = g := ⟨_, rfl⟩
  rw [hg6] at hG6
  have HBB := Hd.mk (And.intro hb5 (And.intro hba (And.intro hG6 hJE)))
  have HG6E := Hd.mk hg6
  clear hb5 hba hG6 hJE hg6
  go_wp2_with fail
  obtain ⟨w6, hw6⟩ : ∃ v, w5.alloc (.cells #[.slice D0 q0 d0, .slice D1 q1 d1, .slice D2 q2 d2] 29) = v := ⟨_, rfl⟩
  rw [hw6] at HBB ⊢
  simp only [HG6E.out]
  have hb6 := below_step HBB.out.1 HBB.out.2.1
  have HG66 := Hd.mk HBB.out.2.2.1
  have HJE6 := Hd.mk (HBB.out.2.2.2.below HBB.out.2.1)
  have HWT6 := Hd.mk (And.intro (Kd.C_below HWT4.out.1 hb6) HWT4.out.2)
  have HRa6 := Hd.mk (And.intro (Kd.C_below HRa4.out.1 hb6) HRa4.out.2)
  have HG26 := Hd.mk (blk_below HG24.out hb6)
  have HB6 := Hd.mk (below_step HB4.out hb6)
  clear hw6 HBB HWT4 HRa4 HG24 HB4 hb6
  have m0 := blk_cell HG66.out 0
  have m1 := blk_cell HG66.out 1
  have m2 := blk_cell HG66.out 2
  simp at m0 m1 m2
  go_wp2_with fail
  refine (HJE6.out.cut (N : Int) hq0b (by omega) (by omega) HQ.out.2.1 HN.out.2.2.2.2.2.2).mono ?_
  rintro e w7 ⟨Ab, cb, rfl, hRb, hb7⟩
  have HRb7 := Hd.mk hRb
  have HG67 := Hd.mk (blk_below HG66.out hb7)
  have HJE7 := Hd.mk (HJE6.out.below hb7)
  have HWT7 := Hd.mk (And.intro (Kd.C_below HWT6.out.1 hb7) HWT6.out.2)
  have HRa7 := Hd.mk (And.intro (Kd.C_below HRa6.out.1 hb7) HRa6.out.2)
  have HG27 := Hd.mk (blk_below HG26.out hb7)
  have HB7 := Hd.mk (below_step HB6.out hb7)
  clear hRb hb7 HG66 HJE6 HWT6 HRa6 HG26 HB6 m0 m1 m2
  have m0 := blk_cell HG67.out 0
  have m1 := blk_cell HG67.out 1
  have m2 := blk_cell HG67.out 2
  simp at m0 m1 m2
  have hnn : ((n : Int) != (n : Int)) = false := by simp
  go_wp2_with fail
  refine (HAP.out _ _ _ _ _ _ _ _ _ _ _ _ _ HJE7.out (Kd.C_below HOC.out.1 HB7.out) HI.out.2).mono ?_
  rintro e w8 ⟨Bm, bm, rfl, hmt, hb8⟩
  have HMT8 := Hd.mk hmt
  have HWT8 := Hd.mk (And.intro (Kd.C_below HWT7.out.1 hb8) HWT7.out.2)
  have HRa8 := Hd.mk (And.intro (Kd.C_below HRa7.out.1 hb8) HRa7.out.2)
  have HRb8 := Hd.mk (And.intro (Kd.C_below HRb7.out.1 hb8) HRb7.out.2)
  have HG28 := Hd.mk (blk_below HG27.out hb8)
  have HB8 := Hd.mk (below_step HB7.out hb8)
  clear hmt hb8 HG67 HJE7 HWT7 HRa7 HRb7 HG27 HB7 m0 m1 m2 hnn HAP HI HQ
  have hff : (fc != fc) = false := by simp
  go_wp2_with fail
  refine (same_eqC HMT8.out.1 HMT8.out.2 HWT8.out.1 HWT8.out.2).mono ?_
  rintro e w9 ⟨rfl, hb9⟩
  have HWT9 := Hd.mk (And.intro (Kd.C_below HWT8.out.1 hb9) HWT8.out.2)
  have HRa9 := Hd.mk (And.intro (Kd.C_below HRa8.out.1 hb9) HRa8.out.2)
  have HRb9 := Hd.mk (And.intro (Kd.C_below HRb8.out.1 hb9) HRb8.out.2)
  have HG29 := Hd.mk (blk_below HG28.out hb9)
  have HB9 := Hd.mk (below_step HB8.out hb9)
  clear hb9 HMT8 HWT8 HRa8 HRb8 HG28 HB8 hff
  have o0 := blk_cell HG29.out 0
  have o1 := blk_cell HG29.out 1
  have o2 := blk_cell HG29.out 2
  simp at o0 o1 o2
  have HSUM := Hd.mk HLL.out.2
  go_wp2
  clear o0 o1 o2
  go_loopg [20, 21, 22, 110] n (fun k v20 v21 v22 v110 W => ∃ (j rl : Nat) (R P : List S94) (ol : List Int) (Ag : Option Addr) (cg : Nat), v20 = .int .i64 (rl : Int) ∧ v21 = .slice Ag ol.length cg ∧ v22 = .bool (rdB no P) ∧ v110 = .int .i64 j ∧ j + k = n ∧ Hd (X.drop j = cutL N R ∧ LL = P ++ R ∧ R.length = rl) ∧ Hd (rdB no P = true → ol = P.map (ob old)) ∧ Hd (ol.length ≤ P.length) ∧ Hd (OB W w9.heap.size (.slice Ag ol.length cg) ol) ∧ Hd (Below w9.heap.size w9 W))
  case atStart => exact ⟨0, nd + nx, LL, [], [], none, 0, by go_num, rfl, rfl, rfl, by omega, ⟨by simpa using HXC.out, rfl, HLL.out.2⟩, ⟨fun _ => rfl⟩, ⟨Nat.le_refl _⟩, ⟨own_nil _ _ _ _⟩, ⟨Below.refl _ _⟩⟩
  case round =>
    obtain ⟨j, rl, R, P, ol, Ag, cg, rfl, rfl, rfl, rfl, hjk, HR, HOL, HOLn, HOO, HBL⟩ := hrel
    rcases gk with _ | q
    · have hlt : decide ((j : Int) < (n : Int)) = false := decide_eq_false (by omega)
      have hR0 : R = [] := cutL_done (N := N) (by omega) (by rw [← HR.out.1]; exact List.drop_eq_nil_of_le (by have := HN.out.2.2.2.2.2.2; omega))
      have hPL : P = LL := by rw [HR.out.2.1, hR0, List.append_nil]
      have hrl : rl = 0 := by rw [← HR.out.2.2, hR0]; rfl
      have hz : (((0 : Nat) : Int) != 0) = false := rfl
      have hWT := HW.out.1
      have hfc := HW.out.2.1
      have hnw := HW.out.2.2
      rw [← hPL] at hWT hfc
      obtain ⟨pb, hpb⟩ : ∃ b, rdB no P = b := ⟨_, rfl⟩
      have hol := HOL.out
      rw [hpb] at hWT hfc hol ⊢
      subst hrl
      clear HW HR HOL hR0 hPL hpb
      cases pb with
      | false =>
        rw [if_neg (by decide)] at hfc
        subst hfc
        clear hWT hol hnw
        go_wp2
        go_ret
        exact ⟨by simp, HB9.out.trans (by have := HB9.out.size; exact HBL.out.mono this)⟩
      | true =>
        rw [if_pos rfl] at hWT hfc
        subst hfc
        have hoW : ol = WT := by rw [hol rfl, hWT]
        subst hoW
        have HOO2 : Hd ((Kd.int .u8).C wr Ag nw ol ∧ nw ≤ cg) := ⟨by have h := HOO.out; exact ⟨own_C8' (by rw [← hnw]; exact h) hnw, own_cap'' (by rw [← hnw]; exact h) hnw⟩⟩
        rw [hnw]
        clear hWT hol hnw HOO
        go_wp2_with fail
        refine (same_eqC HOO2.out.1 HOO2.out.2 (Kd.C_below HWT9.out.1 HBL.out) HWT9.out.2).mono ?_
        rintro e y1 ⟨rfl, hy1⟩
        go_wp2_with fail
        refine (lives_c _).mono ?_
        rintro e y3 ⟨rfl, hy3⟩
        have HY3 := Hd.mk (below_step (below_step (HB9.out.trans (by have := HB9.out.size; exact HBL.out.mono this)) hy1) hy3)
        clear hy1 hy3
        go_wp2
        go_ret
        exact ⟨by simp, HY3.out⟩
    · have hlt : decide ((j : Int) < (n : Int)) = true := decide_eq_true (by omega)
      have hng : decide ((0 : Int) ≤ (j : Int)) = true := decide_eq_true (by omega)
      have hji : j < n := by omega
      have hXn : X.length = n := HN.out.2.2.2.2.2.2
      have hon : old.length = no := HN.out.2.2.2.2.2.1
      have hdr := drop_rd43 X j (by omega)
      obtain ⟨hd2, hap⟩ := back_round h64 HR.out.1 hdr (fun o ho => HLL.out.1 o (by rw [HR.out.2.1]; exact List.mem_append_right _ ho)) old (by omega)
      have hbd := HEL.out.1 _ (List.mem_of_mem_drop (i := j) (by rw [hdr]; exact List.mem_cons_self))
      obtain ⟨ad, C1, k1, C2, k2, C3, k3, e1, x0, x1, x2, x3, p1, g1', p2, g2', p3, g3'⟩ := at_T43 (Kd.C_below HRa9.out.1 HBL.out) (j : Int) (by omega) (by omega)
      obtain ⟨bd, E1, f1, E2, f2, E3, f3, e2, y0, y1, y2, y3, r1, s1', r2, s2', r3, s3'⟩ := at_T43 (Kd.C_below HRb9.out.1 HBL.out) (j : Int) (by omega) (by omega)
      subst e1
      subst e2
      obtain ⟨z, hz⟩ : ∃ z, rd_T43 X (j : Int) = z := ⟨_, rfl⟩
      rw [hz] at hap hbd x0 x1 x2 x3 p1 g1' p2 g2' p3 g3' y0 y1 y2 y3 r1 s1' r2 s2' r3 s3'
      clear hz hdr
      obtain ⟨p, ⟨st, dl, xl⟩⟩ := z
      simp only at hap hbd x0 x1 x2 x3 p1 g1' p2 g2' p3 g3' y0 y1 y2 y3 r1 s1' r2 s2' r3 s3'
      obtain ⟨ns, hns⟩ : ∃ k, st.length = k := ⟨_, rfl⟩
      obtain ⟨ne, hne⟩ : ∃ k, dl.length = k := ⟨_, rfl⟩
      obtain ⟨ny, hny⟩ : ∃ k, xl.length = k := ⟨_, rfl⟩
      rw [hns] at hbd x1 p1 g1' y1 r1 s1'
      rw [hne] at hbd x2 p2 g2' y2 r2 s2'
      rw [hny] at hbd x3 p3 g3' y3 r3 s3'
      rw [Int.toNat_natCast] at x0 x1 x2 x3 y0 y1 y2 y3
      obtain ⟨sz, hsz⟩ : ∃ k, (R.take N).length = k := ⟨_, rfl⟩
      obtain ⟨rb, hrb⟩ : ∃ l, (R.take N).map (ob old) = l := ⟨_, rfl⟩
      have hrbl : rb.length = sz := by rw [← hrb, List.length_map, hsz]
      have hszm : sz = min N rl := by rw [← hsz, List.length_take, HR.out.2.2]
      obtain ⟨pb, hpb⟩ : ∃ b, rdB no (R.take N) = b := ⟨_, rfl⟩
      rw [hon, hpb, hsz, hrb] at hap
      have HNX : Hd (X.drop (j + 1) = cutL N (R.drop N) ∧ LL = (P ++ R.take N) ++ R.drop N ∧ (R.drop N).length = rl - sz) := ⟨hd2, by rw [List.append_assoc, List.take_append_drop]; exact HR.out.2.1, by rw [List.length_drop, HR.out.2.2]; omega⟩
      have hbw : no ≤ co := HOC.out.2
      have HCAP : Hd (∀ W (s : Nat), s = sz → Below wr.heap.size wr W → Calls Try.prog 23 #[.slice Ao no co, .agg #[.int .i64 p, .slice C1 ns k1, .slice C2 ne k2, .slice C3 ny k3], .int .i64 (s : Int)] W fun e w' => ∃ v, e = .returned (.tuple #[v, .int .i64 (if pb = true then (rb, (0 : Int)) else ([], 171)).2]) ∧ OB w' W.heap.size v (if pb = true then (rb, (0 : Int)) else ([], 171)).1 ∧ Below W.heap.size W w') := ⟨by
        rintro W s rfl hW
        have hO : (Kd.int .u8).C W Ao no old := Kd.C_below (Kd.C_below (Kd.C_below HOC.out.1 HB9.out) HBL.out) hW
        have := capply_c (Ao := Ao) (co := co) (old := old) (A0 := C1) (c0 := k1) (st := st) (A1 := C2) (c1 := k2) (d := dl) (A2 := C3) (c2 := k3) (x := xl) (w := W) p (s : Int) (by rw [hon]; exact hO) (by rw [hon]; exact hbw) ⟨by rw [hns]; exact Kd.C_below g1' hW, by rw [hne]; exact Kd.C_below g2' hW, by rw [hny]; exact Kd.C_below g3' hW, by rw [hns]; exact p1, by rw [hne]; exact p2, by rw [hny]; exact p3⟩
        rw [hap, hon, hns, hne, hny] at this
        exact this⟩
      have hba := (Below.refl wr.heap.size wr).alloc (Nat.le_refl _) (.cells #[.int .i64 p, .slice C1 ns k1, .slice C2 ne k2, .slice C3 ny k3] 43)
      have hbn := blk_new wr (.cells #[.int .i64 p, .slice C1 ns k1, .slice C2 ne k2, .slice C3 ny k3] 43)
      obtain ⟨gb, hgb⟩ : ∃ g, wr.heap.size = g := ⟨_, rfl⟩
      rw [hgb] at hbn
      obtain ⟨w1, hw1⟩ : ∃ v, wr.alloc (.cells #[.int .i64 p, .slice C1 ns k1, .slice C2 ne k2, .slice C3 ny k3] 43) = v := ⟨_, rfl⟩
      have hp0 := pw_cell_below hba y0
      have hp1 := pw_cell_below hba y1
      have hp2 := pw_cell_below hba y2
      have hp3 := pw_cell_below hba y3
      rw [hw1] at hba hbn hp0 hp1 hp2 hp3
      have HW1 := Hd.mk hw1
      have HGB := Hd.mk hgb
      have HBA := Hd.mk hba
      have c0' := blk_cell hbn 0
      have c1' := blk_cell hbn 1
      have c2' := blk_cell hbn 2
      have c3' := blk_cell hbn 3
      simp at c0' c1' c2' c3'
      have HBD := Hd.mk (Below.drew' w1)
      have HPL : Hd (∀ W, Below w1.heap.size w1 W → Calls Try.prog 17 #[.agg #[.slice C1 ns k1, .slice C2 ne k2, .slice C3 ny k3]] W fun e w' => ∃ B b, e = .returned (.agg #[.slice B ns b, .slice C2 ne k2, .slice C3 ny k3]) ∧ (Kd.C k81 w' B ns (st.map t81) ∧ ns ≤ b) ∧ Below W.heap.size W w') := ⟨fun W hW => plain_r (Kd.C_below (Kd.C_below g1' hba) hW) (by omega)⟩
      have HPE : Hd (∀ W, Below w1.heap.size w1 W → Calls Try.prog 17 #[.agg #[.slice E1 ns f1, .slice E2 ne f2, .slice E3 ny f3]] W fun e w' => ∃ B b, e = .returned (.agg #[.slice B ns b, .slice E2 ne f2, .slice E3 ny f3]) ∧ (Kd.C k81 w' B ns (st.map t81) ∧ ns ≤ b) ∧ Below W.heap.size W w') := ⟨fun W hW => plain_r (Kd.C_below (Kd.C_below s1' hba) hW) (by omega)⟩
      have HDL : Hd (∀ W, Below w1.heap.size w1 W → ((Kd.int .u8).C W C2 ne dl ∧ (Kd.int .u8).C W C3 ny xl) ∧ (Kd.int .u8).C W E2 ne dl ∧ (Kd.int .u8).C W E3 ny xl) := ⟨fun W hW => ⟨⟨Kd.C_below (Kd.C_below g2' hba) hW, Kd.C_below (Kd.C_below g3' hba) hW⟩, Kd.C_below (Kd.C_below s2' hba) hW, Kd.C_below (Kd.C_below s3' hba) hW⟩⟩
      have hnl : ns ≤ 9223372036854775806 := by omega
      have hpp : (p != p) = false := by simp
      have HNUM := Hd.mk (And.intro hsz (And.intro hrbl hrb))
      have HPB := Hd.mk hpb
      clear hw1 hba hbn hgb hap hbd p1 g1' p2 g2' p3 g3' r1 s1' r2 s2' r3 s3' y0 y1 y2 y3 hns hne hny hsz hrbl hrb hpb hd2
      go_upto_region 22 with fail
      rw [HW1.out]
      simp only [HGB.out]
      clear HW1 x0 x1 x2 x3
      refine start_ (n := 21) (S := fun w' => w'.cell? ⟨gb, 0, none⟩ = some (.int .i64 p) ∧ w'.cell? ⟨gb, 1, none⟩ = some (.slice C1 ns k1) ∧ w'.cell? ⟨gb, 2, none⟩ = some (.slice C2 ne k2) ∧ w'.cell? ⟨gb, 3, none⟩ = some (.slice C3 ny k3) ∧ w'.cell? (bd.add (j * 4)) = some (.int .i64 p) ∧ w'.cell? ⟨(bd.add (j * 4)).block, (bd.add (j * 4)).off + 1, none⟩ = some (.slice E1 ns f1) ∧ w'.cell? ⟨(bd.add (j * 4)).block, (bd.add (j * 4)).off + 2, none⟩ = some (.slice E2 ne f2) ∧ w'.cell? ⟨(bd.add (j * 4)).block, (bd.add (j * 4)).off + 3, none⟩ = some (.slice E3 ny f3)) (ds := []) #[false, false, false, false, false, false, false, false, false, false, false, false, false, false, false, false, false, false, false, false, false] (by kernel_rfl) rfl rfl ⟨c0', c1', c2', c3', hp0, hp1, hp2, hp3⟩ (fun hHeld => ?_)
      refine pure_ (i := 0) (N := some 115) (v := ?_) (a' := ?_) #[true, false, false, false, false, false, false, false, false, false, false, false, false, false, false, false, false, false, false, false, false] rfl rfl (by kernel_rfl) (fun _ _ _ h => h) (Or.inl ⟨by rfl, ?_⟩) ?_ ?_
      rotate_left
      · intro w'
        go_simp
        with_reducible rfl
      rotate_left
      · simp only [Act.put, List.setIfInBounds_toArray, List.set_cons_zero, List.set_cons_succ, i64_w, i32_w]
        rfl
      refine pure_ (i := 2) (N := some 117) (v := ?_) (a' := ?_) #[true, false, true, false, false, false, false, false, false, false, false, false, false, false, false, false, false, false, false, false, false] rfl rfl (by kernel_rfl) (fun _ _ _ h => h) (Or.inl ⟨by rfl, ?_⟩) ?_ ?_
      rotate_left
      · intro w'
        go_simp
        with_reducible rfl
      rotate_left
      · simp only [Act.put, List.setIfInBounds_toArray, List.set_cons_zero, List.set_cons_succ, i64_w, i32_w]
        rfl
      refine pure_ (i := 3) (N := some 118) (v := ?_) (a' := ?_) #[true, false, true, true, false, false, false, false, false, false, false, false, false, false, false, false, false, false, false, false, false] rfl rfl (by kernel_rfl) (fun _ _ _ h => h) (Or.inl ⟨by rfl, ?_⟩) ?_ ?_
      rotate_left
      · intro w'
        go_simp
        with_reducible rfl
      rotate_left
      · simp only [Act.put, List.setIfInBounds_toArray, List.set_cons_zero, List.set_cons_succ, i64_w, i32_w]
        rfl
      refine pure_ (i := 4) (N := some 119) (v := ?_) (a' := ?_) #[true, false, true, true, true, false, false, false, false, false, false, false, false, false, false, false, false, false, false, false, false] rfl rfl (by kernel_rfl) (fun _ _ _ h => h) (Or.inl ⟨by rfl, ?_⟩) ?_ ?_
      rotate_left
      · intro w'
        go_simp
        with_reducible rfl
      rotate_left
      · simp only [Act.put, List.setIfInBounds_toArray, List.set_cons_zero, List.set_cons_succ, i64_w, i32_w]
        rfl
      refine pure_ (i := 5) (N := some 120) (v := ?_) (a' := ?_) #[true, false, true, true, true, true, false, false, false, false, false, false, false, false, false, false, false, false, false, false, false] rfl rfl (by kernel_rfl) (fun _ _ _ h => h) (Or.inl ⟨by rfl, ?_⟩) ?_ ?_
      rotate_left
      · intro w'
        go_simp
        with_reducible rfl
      rotate_left
      · simp only [Act.put, List.setIfInBounds_toArray, List.set_cons_zero, List.set_cons_succ, i64_w, i32_w]
        rfl
      refine take_ (i := 1) (N := some 116) (v := ?_) (a' := ?_) #[true, true, true, true, true, true, false, false, false, false, false, false, false, false, false, false, false, false, false, false, false] rfl rfl (by kernel_rfl) (fun _ _ _ h => h) (Or.inl ⟨by rfl, ?_⟩) hHeld ?_ ?_
      rotate_left
      · rintro w' ⟨s0, s1, s2, s3, s4, s5, s6, s7⟩
        go_simp
        with_reducible rfl
      rotate_left
      · simp only [Act.put, List.setIfInBounds_toArray, List.set_cons_zero, List.set_cons_succ, i64_w, i32_w]
        rfl
      refine take_ (i := 6) (N := some 121) (v := ?_) (a' := ?_) #[true, true, true, true, true, true, true, false, false, false, false, false, false, false, false, false, false, false, false, false, false] rfl rfl (by kernel_rfl) (fun _ _ _ h => h) (Or.inl ⟨by rfl, ?_⟩) hHeld ?_ ?_
      rotate_left
      · rintro w' ⟨s0, s1, s2, s3, s4, s5, s6, s7⟩
        go_simp
        with_reducible rfl
      rotate_left
      · simp only [Act.put, List.setIfInBounds_toArray, List.set_cons_zero, List.set_cons_succ, i64_w, i32_w]
        rfl
      refine pure_ (i := 7) (N := some 122) (v := ?_) (a' := ?_) #[true, true, true, true, true, true, true, true, false, false, false, false, false, false, false, false, false, false, false, false, false] rfl rfl (by kernel_rfl) (fun _ _ _ h => h) (Or.inl ⟨by rfl, ?_⟩) ?_ ?_
      rotate_left
      · intro w'
        go_simp
        with_reducible rfl
      rotate_left
      · simp only [Act.put, List.setIfInBounds_toArray, List.set_cons_zero, List.set_cons_succ, i64_w, i32_w]
        rfl
      refine pure_ (i := 8) (N := some 123) (v := ?_) (a' := ?_) #[true, true, true, true, true, true, true, true, true, false, false, false, false, false, false, false, false, false, false, false, false] rfl rfl (by kernel_rfl) (fun _ _ _ h => h) (Or.inl ⟨by rfl, ?_⟩) ?_ ?_
      rotate_left
      · intro w'
        go_simp
        with_reducible rfl
      rotate_left
      · simp only [Act.put, List.setIfInBounds_toArray, List.set_cons_zero, List.set_cons_succ, i64_w, i32_w]
        rfl
      refine pure_ (i := 9) (N := some 124) (v := ?_) (a' := ?_) #[true, true, true, true, true, true, true, true, true, true, false, false, false, false, false, false, false, false, false, false, false] rfl rfl (by kernel_rfl) (fun _ _ _ h => h) (Or.inl ⟨by rfl, ?_⟩) ?_ ?_
      rotate_left
      · intro w'
        go_simp
        with_reducible rfl
      rotate_left
      · simp only [Act.put, List.setIfInBounds_toArray, List.set_cons_zero, List.set_cons_succ, i64_w, i32_w]
        rfl
      refine pure_ (i := 12) (N := some 127) (v := ?_) (a' := ?_) #[true, true, true, true, true, true, true, true, true, true, false, false, true, false, false, false, false, false, false, false, false] rfl rfl (by kernel_rfl) (fun _ _ _ h => h) (Or.inl ⟨by rfl, ?_⟩) ?_ ?_
      rotate_left
      · intro w'
        go_simp
        with_reducible rfl
      rotate_left
      · simp only [Act.put, List.setIfInBounds_toArray, List.set_cons_zero, List.set_cons_succ, i64_w, i32_w]
        rfl
      refine pure_ (i := 13) (N := some 128) (v := ?_) (a' := ?_) #[true, true, true, true, true, true, true, true, true, true, false, false, true, true, false, false, false, false, false, false, false] rfl rfl (by kernel_rfl) (fun _ _ _ h => h) (Or.inl ⟨by rfl, ?_⟩) ?_ ?_
      rotate_left
      · intro w'
        go_simp
        with_reducible rfl
      rotate_left
      · simp only [Act.put, List.setIfInBounds_toArray, List.set_cons_zero, List.set_cons_succ, i64_w, i32_w]
        rfl
      refine pure_ (i := 14) (N := some 129) (v := ?_) (a' := ?_) #[true, true, true, true, true, true, true, true, true, true, false, false, true, true, true, false, false, false, false, false, false] rfl rfl (by kernel_rfl) (fun _ _ _ h => h) (Or.inl ⟨by rfl, ?_⟩) ?_ ?_
      rotate_left
      · intro w'
        go_simp
        with_reducible rfl
      rotate_left
      · simp only [Act.put, List.setIfInBounds_toArray, List.set_cons_zero, List.set_cons_succ, i64_w, i32_w]
        rfl
      refine pure_ (i := 15) (N := some 130) (v := ?_) (a' := ?_) #[true, true, true, true, true, true, true, true, true, true, false, false, true, true, true, true, false, false, false, false, false] rfl rfl (by kernel_rfl) (fun _ _ _ h => h) (Or.inl ⟨by rfl, ?_⟩) ?_ ?_
      rotate_left
      · intro w'
        go_simp
        with_reducible rfl
      rotate_left
      · simp only [Act.put, List.setIfInBounds_toArray, List.set_cons_zero, List.set_cons_succ, i64_w, i32_w]
        rfl
      refine take_ (i := 10) (N := some 125) (v := ?_) (a' := ?_) #[true, true, true, true, true, true, true, true, true, true, true, false, true, true, true, true, false, false, false, false, false] rfl rfl (by kernel_rfl) (fun _ _ _ h => h) (Or.inl ⟨by rfl, ?_⟩) hHeld ?_ ?_
      rotate_left
      · rintro w' ⟨s0, s1, s2, s3, s4, s5, s6, s7⟩
        go_simp
        with_reducible rfl
      rotate_left
      · simp only [Act.put, List.setIfInBounds_toArray, List.set_cons_zero, List.set_cons_succ, i64_w, i32_w]
        rfl
      refine take_ (i := 16) (N := some 131) (v := ?_) (a' := ?_) #[true, true, true, true, true, true, true, true, true, true, true, false, true, true, true, true, true, false, false, false, false] rfl rfl (by kernel_rfl) (fun _ _ _ h => h) (Or.inl ⟨by rfl, ?_⟩) hHeld ?_ ?_
      rotate_left
      · rintro w' ⟨s0, s1, s2, s3, s4, s5, s6, s7⟩
        go_simp
        with_reducible rfl
      rotate_left
      · simp only [Act.put, List.setIfInBounds_toArray, List.set_cons_zero, List.set_cons_succ, i64_w, i32_w]
        rfl
      refine one_ (i := 11) (N := some 126) #[true, true, true, true, true, true, true, true, true, true, true, true, true, true, true, true, true, false, false, false, false] rfl rfl (by kernel_rfl) (by decide) (fun K hK => ?_)
      refine goes_ Try.func17 (by kernel_rfl) rfl #[.agg #[.slice C1 ns k1, .slice C2 ne k2, .slice C3 ny k3]] (by rfl) rfl rfl (by simp only [List.map_toArray, List.map_cons, List.map_nil]; rfl) ?_
      with_reducible refine (HPL.out _ HBD.out).mono ?_
      rintro e z1 ⟨Bp, bp, rfl, hP, hb2⟩
      refine ⟨_, rfl, ?_⟩
      have HD2 := Hd.mk (below_step HBD.out hb2)
      have HP := Hd.mk hP
      have hbx := HD2.out
      clear hb2 hP
      refine hK.out _ _ ⟨pw_cell_below hbx c0', pw_cell_below hbx c1', pw_cell_below hbx c2', pw_cell_below hbx c3', pw_cell_below hbx hp0, pw_cell_below hbx hp1, pw_cell_below hbx hp2, pw_cell_below hbx hp3⟩ (fun hHeld => ?_)
      clear hK K
      refine norm_ (a' := ?_) ?_ ?_
      rotate_left
      · show Act.put _ (some 126) _ = _
        simp only [Act.put, List.setIfInBounds_toArray, List.set_cons_zero, List.set_cons_succ, i64_w, i32_w]
        rfl
      refine one_ (i := 17) (N := some 132) #[true, true, true, true, true, true, true, true, true, true, true, true, true, true, true, true, true, true, false, false, false] rfl rfl (by kernel_rfl) (by decide) (fun K hK => ?_)
      refine goes_ Try.func17 (by kernel_rfl) rfl #[.agg #[.slice E1 ns f1, .slice E2 ne f2, .slice E3 ny f3]] (by rfl) rfl rfl (by simp only [List.map_toArray, List.map_cons, List.map_nil]; rfl) ?_
      with_reducible refine (HPE.out _ HD2.out).mono ?_
      rintro e z2 ⟨Bq, bq, rfl, hQ, hb3⟩
      refine ⟨_, rfl, ?_⟩
      have HP3 := Hd.mk (And.intro (Kd.C_below HP.out.1 hb3) HP.out.2)
      have HD3 := Hd.mk (below_step HD2.out hb3)
      have HQ3 := Hd.mk hQ
      have hbx3 := HD3.out
      clear hb3 hQ
      refine hK.out _ _ ⟨pw_cell_below hbx3 c0', pw_cell_below hbx3 c1', pw_cell_below hbx3 c2', pw_cell_below hbx3 c3', pw_cell_below hbx3 hp0, pw_cell_below hbx3 hp1, pw_cell_below hbx3 hp2, pw_cell_below hbx3 hp3⟩ (fun hHeld => ?_)
      clear hK K
      refine norm_ (a' := ?_) ?_ ?_
      rotate_left
      · show Act.put _ (some 132) _ = _
        simp only [Act.put, List.setIfInBounds_toArray, List.set_cons_zero, List.set_cons_succ, i64_w, i32_w]
        rfl
      refine one_ (i := 18) (N := some 133) #[true, true, true, true, true, true, true, true, true, true, true, true, true, true, true, true, true, true, true, false, false] rfl rfl (by kernel_rfl) (by decide) (fun K hK => ?_)
      refine goes_ Try.func16 (by kernel_rfl) rfl #[.agg #[.slice Bp ns bp, .slice C2 ne k2, .slice C3 ny k3], .agg #[.slice Bq ns bq, .slice E2 ne f2, .slice E3 ny f3]] (by rfl) rfl rfl (by simp only [List.map_toArray, List.map_cons, List.map_nil]; rfl) ?_
      with_reducible refine (same17_c ⟨HP3.out.1, (HDL.out _ HD3.out).1.1, (HDL.out _ HD3.out).1.2, HP3.out.2⟩ ⟨HQ3.out.1, (HDL.out _ HD3.out).2.1, (HDL.out _ HD3.out).2.2, HQ3.out.2⟩ hnl).mono ?_
      rintro e z3 ⟨rfl, hb4⟩
      refine ⟨_, rfl, ?_⟩
      have HD4 := Hd.mk (below_step HD3.out hb4)
      have hbx4 := HD4.out
      clear hb4
      refine hK.out _ _ ⟨pw_cell_below hbx4 c0', pw_cell_below hbx4 c1', pw_cell_below hbx4 c2', pw_cell_below hbx4 c3', pw_cell_below hbx4 hp0, pw_cell_below hbx4 hp1, pw_cell_below hbx4 hp2, pw_cell_below hbx4 hp3⟩ (fun hHeld => ?_)
      clear hK K
      refine norm_ (a' := ?_) ?_ ?_
      rotate_left
      · show Act.put _ (some 133) _ = _
        simp only [Act.put, List.setIfInBounds_toArray, List.set_cons_zero, List.set_cons_succ, i64_w, i32_w]
        rfl
      refine pure_ (i := 19) (N := some 134) (v := ?_) (a' := ?_) #[true, true, true, true, true, true, true, true, true, true, true, true, true, true, true, true, true, true, true, true, false] rfl rfl (by kernel_rfl) (fun _ _ _ h => h) (Or.inl ⟨by rfl, ?_⟩) ?_ ?_
      rotate_left
      · intro w'
        go_simp
        with_reducible rfl
      rotate_left
      · simp only [Act.put, List.setIfInBounds_toArray, List.set_cons_zero, List.set_cons_succ, i64_w, i32_w]
        rfl
      refine pure_ (i := 20) (N := some 135) (v := ?_) (a' := ?_) #[true, true, true, true, true, true, true, true, true, true, true, true, true, true, true, true, true, true, true, true, true] rfl rfl (by kernel_rfl) (fun _ _ _ h => h) (Or.inl ⟨by rfl, ?_⟩) ?_ ?_
      rotate_left
      · intro w'
        go_simp
        with_reducible rfl
      rotate_left
      · simp only [Act.put, List.setIfInBounds_toArray, List.set_cons_zero, List.set_cons_succ, i64_w, i32_w]
        rfl
      refine done_ (by kernel_rfl) ?_
      have u0 := pw_cell_below HD4.out c0'
      have u1 := pw_cell_below HD4.out c1'
      have u2 := pw_cell_below HD4.out c2'
      have u3 := pw_cell_below HD4.out c3'
      have HBZ := Hd.mk (below_step HBA.out HD4.out)
      clear hHeld c0' c1' c2' c3' hp0 hp1 hp2 hp3 HBD HD2 HP HD3 HP3 HQ3 hbx hbx3 hbx4 HPL HPE HDL HD4 HBA hpp
      have hszc : (decide ((rl : Int) < (N : Int)) = true ∧ rl = sz ∧ (rl : Int) < (N : Int)) ∨ (decide ((rl : Int) < (N : Int)) = false ∧ N = sz ∧ (N : Int) ≤ (rl : Int)) := by
        by_cases hh : rl < N
        · exact .inl ⟨decide_eq_true (by omega), by omega, by omega⟩
        · exact .inr ⟨decide_eq_false (by omega), by omega, by omega⟩
      have hsle : sz ≤ rl := by omega
      have hrlb : rl ≤ 3000000 := by have h1 := HR.out.2.2; have h2 := HLL.out.2; have h3 := congrArg List.length HR.out.2.1; rw [List.length_append] at h3; omega
      have hPb : P.length + sz ≤ 3000000 := by have h1 := HR.out.2.2; have h2 := HLL.out.2; have h3 := congrArg List.length HR.out.2.1; rw [List.length_append] at h3; omega
      rcases hszc with ⟨hd, hsE, hdn⟩ | ⟨hd, hsE, hdn⟩
      all_goals
        have HSE := Hd.mk hsE
        clear hsE hszm
        go_upto_region 28 with fail
        go_wp2_with fail
        refine (HCAP.out _ _ HSE.out HBZ.out).mono ?_
        rintro e z4 ⟨v6, rfl, hv6, hb6⟩
        have HB6 := Hd.mk (below_step HBZ.out hb6)
        have HV6 := Hd.mk hv6
        clear hv6 hb6 u0 u1 u2 u3
        have HOO6 := Hd.mk (pw_own_below HOO.out HB6.out)
        have HBL6 := Hd.mk (below_step HBL.out HB6.out)
        cases pb with
        | false =>
          have hne2 : ((171 : Int) != 0) = true := rfl
          simp only [Bool.false_eq_true, if_false]
          clear HCAP HOO HBL HBZ
          go_wp2
          have hsE := HSE.out
          go_roundg q
          case measure => omega
          case rel => exact ⟨j + 1, rl - sz, R.drop N, P ++ R.take N, ol, Ag, cg, by go_num, rfl, by rw [rdB_app, HPB.out, Bool.and_false], by go_num, by omega, HNX, ⟨fun h => by rw [rdB_app, HPB.out, Bool.and_false] at h; cases h⟩, ⟨by rw [List.length_append]; have := HOLn.out; omega⟩, HOO6, HBL6⟩
        | true =>
          have hne2 : ((0 : Int) != 0) = false := rfl
          simp only [if_true]
          have HV7 : Hd (OB z4 z3.heap.size v6 rb) := ⟨by have := HV6.out; rwa [if_pos rfl] at this⟩
          obtain ⟨A6, c6, e6⟩ := own_slice' HV7.out HNUM.out.2.1
          subst e6
          obtain ⟨v7, w7, hrun, ho7, hg7, _, _⟩ := run_app (P := Try.prog) z4 w9.heap.size 24 24 5 (.int .u8 0) 1 1 eltB (.slice Ag ol.length cg) ol.length (nums .u8 ol) HOO6.out A6 sz c6 _ (Src.of_C (own_C8' HV7.out HNUM.out.2.1)) (by have := HOLn.out; omega) HBL6.out.size
          have HO7 : Hd (OB w7 w9.heap.size v7 (ol ++ rb)) := ⟨OB.snoc ho7 (by rw [HNUM.out.2.1])⟩
          have HB7 := Hd.mk (HBL6.out.grown hg7 HBL6.out.size (own_base HOO6.out))
          obtain ⟨A7, c7, e7⟩ := own_slice HO7.out
          subst e7
          clear HCAP HOO HBL HBZ HV6 HV7 ho7 hg7 HOO6 HBL6 HB6
          go_wp2
          have hsE := HSE.out
          go_roundg q
          case measure => omega
          case rel => exact ⟨j + 1, rl - sz, R.drop N, P ++ R.take N, ol ++ rb, A7, c7, by go_num, by rw [List.length_append], by rw [rdB_app, HPB.out, Bool.and_true], by go_num, by omega, HNX, ⟨fun h => by rw [rdB_app, HPB.out, Bool.and_true] at h; rw [HOL.out h, List.map_append, HNUM.out.2.2]⟩, ⟨by rw [List.length_append, List.length_append, HNUM.out.2.1, HNUM.out.1]; have := HOLn.out; omega⟩, HO7, HB7⟩
end Go.Proofs.Ytinlfoblpgpikaa
