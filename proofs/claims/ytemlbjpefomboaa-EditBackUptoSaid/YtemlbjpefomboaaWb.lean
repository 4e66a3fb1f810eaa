/- edit: the walk of EditBack. -/
import Derived.Test.YtemlbjpefomboaaBp
import Derived.Test.YtemlbjpefomboaaFi
import Derived.Test.YtemlbjpefomboaaOe
import Derived.Test.YtemlbjpefomboaaEj
namespace Go.Proofs.Ytemlbjpefomboaa
open Go.RowKit Go.Shelf Go.Proofs.YtemlbjpefomboaaW.PrintWords Go.Proofs.YtemlbjpefomboaaW.PrintLast Go.Proofs.YtemlbjpefomboaaW.PrintMore Go.Proofs.Ytemlbjpefomboaa.Pr
set_option linter.unusedVariables false
set_option linter.unusedSimpArgs false
theorem same_cb {A : Option Addr} {c : Nat} {B : Option Addr} {e : Nat} {l : List Int} {w : World} (h : Kd.C (Kd.int .u8) w A l.length l) (hc : l.length ≤ c) (k : Kd.C (Kd.int .u8) w B l.length l) (hk : l.length ≤ e) :
    Calls Try.prog 26 #[.slice A l.length c, .slice B l.length e] w fun e w' => e = .returned (.bool true) ∧ Below w.heap.size w w' :=
  (sapperlaw16_same.calls A c l B e l true w h hc k hk (by simp [sapperlaw16_same.f])).mono fun e w' h => ⟨h.1, h.2.below⟩
/-- Apply, its answer read. -/
theorem apply_r {Ao : Option Addr} {co : Nat} {old : List Int} {A0 : Option Addr} {c0 : Nat} {st : List S80} {A1 : Option Addr} {c1 : Nat} {d : List Int} {A2 : Option Addr} {c2 : Nat} {x : List Int} {w : World} {r : List Int} {er : Int}
    (hO : Kd.C (Kd.int .u8) w Ao old.length old) (hoc : old.length ≤ co) (hE : EdC w A0 c0 st A1 c1 d A2 c2 x) (hf : st.length ≤ 34359738368) (hr : applied old st d x = r) (he : appliedE old st d x = er) :
    Calls Try.prog 24 #[.slice Ao old.length co, .agg #[.slice A0 st.length c0, .slice A1 d.length c1, .slice A2 x.length c2]] w fun e w' => ∃ B b, e = .returned (.tuple #[.slice B r.length b, .int .i64 er]) ∧ Kd.C (Kd.int .u8) w' B r.length r ∧ r.length ≤ b ∧ Below w.heap.size w w' := by
  have h := apply_c Ao co old A0 c0 st A1 c1 d A2 c2 x w hO hoc hE (inn_applied2 hf)
  unfold EdV at h
  rw [hr, he] at h
  refine h.mono ?_
  rintro e w' ⟨v, rfl, hv, hb⟩
  obtain ⟨B, b, rfl⟩ := own_slice hv
  exact ⟨B, b, rfl, own_C8 hv, own_le hv, hb⟩
theorem reverse_r {Ao : Option Addr} {co : Nat} {old : List Int} {A0 : Option Addr} {c0 : Nat} {st : List S80} {A1 : Option Addr} {c1 : Nat} {d : List Int} {A2 : Option Addr} {c2 : Nat} {x : List Int} {w : World} {S : List S80} {D X : List Int} {er : Int}
    (hO : Kd.C (Kd.int .u8) w Ao old.length old) (hoc : old.length ≤ co) (hE : EdC w A0 c0 st A1 c1 d A2 c2 x) (hf : st.length ≤ 34359738368) (hr : reverseE old st d x = (S, D, X, er)) :
    Calls Try.prog 42 #[.slice Ao old.length co, .agg #[.slice A0 st.length c0, .slice A1 d.length c1, .slice A2 x.length c2]] w fun e w' => ∃ B0 b0 B1 b1 B2 b2, e = .returned (.tuple #[.agg #[.slice B0 S.length b0, .slice B1 D.length b1, .slice B2 X.length b2], .int .i64 er]) ∧ EdC w' B0 b0 S B1 b1 D B2 b2 X ∧ Below w.heap.size w w' := by
  have h := reverse_c hO hoc hE hf
  unfold EdV at h
  rw [hr] at h
  refine h.mono ?_
  intro e w' h
  obtain ⟨B0, b0, B1, b1, B2, b2, he, h3, hb⟩ := h.ed3
  exact ⟨B0, b0, B1, b1, B2, b2, he, h3.edc, hb⟩
theorem compose_r {A0 : Option Addr} {c0 : Nat} {st : List S80} {A1 : Option Addr} {c1 : Nat} {d : List Int} {A2 : Option Addr} {c2 : Nat} {x : List Int} {D0 : Option Addr} {g0 : Nat} {sb : List S80} {D1 : Option Addr} {g1 : Nat} {db : List Int} {D2 : Option Addr} {g2 : Nat} {xb : List Int} {w : World} {S : List S80} {D X : List Int} {er : Int}
    (hE : EdC w A0 c0 st A1 c1 d A2 c2 x) (hG : EdC w D0 g0 sb D1 g1 db D2 g2 xb) (hf : sb.length ≤ 34359738368) (hr : composeE st d x sb db xb = (S, D, X, er)) :
    Calls Try.prog 45 #[.agg #[.slice A0 st.length c0, .slice A1 d.length c1, .slice A2 x.length c2], .agg #[.slice D0 sb.length g0, .slice D1 db.length g1, .slice D2 xb.length g2]] w fun e w' => ∃ B0 b0 B1 b1 B2 b2, e = .returned (.tuple #[.agg #[.slice B0 S.length b0, .slice B1 D.length b1, .slice B2 X.length b2], .int .i64 er]) ∧ EdC w' B0 b0 S B1 b1 D B2 b2 X ∧ Below w.heap.size w w' := by
  have h := compose_c hE hG hf
  unfold EdV at h
  rw [hr] at h
  refine h.mono ?_
  intro e w' h
  obtain ⟨B0, b0, B1, b1, B2, b2, he, h3, hb⟩ := h.ed3
  exact ⟨B0, b0, B1, b1, B2, b2, he, h3.edc, hb⟩
set_option maxRecDepth 100000 in
set_option maxHeartbeats 8000000 in
theorem walk_editBack (Ao : Option Addr) (co : Nat) (old : List Int) (A0 : Option Addr) (c0 : Nat) (st : List S80) (A1 : Option Addr) (c1 : Nat) (d : List Int) (A2 : Option Addr) (c2 : Nat) (x : List Int) (w : World)
    (HO : Bys w Ao co old ∧ old.length ≤ 1048576) (H : EdI w A0 c0 st A1 c1 d A2 c2 x ∧ st.length ≤ 1048576 ∧ d.length ≤ 1048576 ∧ x.length ≤ 1048576) :
    Calls Try.prog 18 #[.slice Ao old.length co, .agg #[.slice A0 st.length c0, .slice A1 d.length c1, .slice A2 x.length c2]] w fun e w' => e = .returned (.bool true) ∧ Below w.heap.size w w' := by
  obtain ⟨⟨hE, _, _, _⟩, hf, hdl, hxl⟩ := H
  obtain ⟨⟨hO, hoc, hby⟩, hol⟩ := HO
  have hb0 : Below w.heap.size w (w.alloc (.cells #[.slice A0 st.length c0, .slice A1 d.length c1, .slice A2 x.length c2] 28)) := (Below.refl _ _).alloc (Nat.le_refl _) _
  have HE := Hd.mk (hE.below hb0)
  have HO := Hd.mk (Kd.C_below hO hb0)
  have HOC := Hd.mk hoc
  have HB := Hd.mk hb0
  have HY := Hd.mk (blk_new w (.cells #[.slice A0 st.length c0, .slice A1 d.length c1, .slice A2 x.length c2] 28))
  have HF := Hd.mk (show st.length ≤ 34359738368 by omega)
  have HBY := Hd.mk hby
  clear hb0 hE hf hdl hxl hO hoc hby hol
  obtain ⟨er, her⟩ : ∃ r, appliedE old st d x = r := ⟨_, rfl⟩
  obtain ⟨nx, hnx⟩ : ∃ r, applied old st d x = r := ⟨_, rfl⟩
  have HER := Hd.mk her
  have HNX := Hd.mk hnx
  by_cases h0 : er = 0
  rotate_left
  · have hrv : reverseE old st d x = ([], [], [], er) := by
      unfold reverseE
      rw [if_pos (by rw [her]; exact h0), her]
    have HRV := Hd.mk hrv
    have hne : (er != 0) = true := by simpa using h0
    have H0 := Hd.mk h0
    clear her hnx hrv h0
    have cHY0 := blk_cell HY.out 0
    have cHY1 := blk_cell HY.out 1
    have cHY2 := blk_cell HY.out 2
    simp at cHY0 cHY1 cHY2
    go_enter Try.func18, Try.ntmps18
    go_wp2_with fail
    refine (apply_r HO.out HOC.out HE.out HF.out HNX.out HER.out).mono ?_
    rintro e w1 ⟨An, cn, rfl, hn, hcn, hb1⟩
    clear cHY0 cHY1 cHY2
    replace HB := Hd.mk (below_step HB.out hb1)
    replace HE := Hd.mk (HE.out.below hb1)
    replace HO := Hd.mk (Kd.C_below HO.out hb1)
    replace HY := Hd.mk (blk_below HY.out hb1)
    have cHY0 := blk_cell HY.out 0
    have cHY1 := blk_cell HY.out 1
    have cHY2 := blk_cell HY.out 2
    simp at cHY0 cHY1 cHY2
    clear hb1 hn
    go_wp2_with fail
    refine (reverse_r HO.out HOC.out HE.out HF.out HRV.out).mono ?_
    rintro e w2 ⟨E0, f0, E1, f1, E2, f2, rfl, hK, hb2⟩
    clear cHY0 cHY1 cHY2
    replace HB := Hd.mk (below_step HB.out hb2)
    replace HE := Hd.mk (HE.out.below hb2)
    replace HO := Hd.mk (Kd.C_below HO.out hb2)
    replace HY := Hd.mk (blk_below HY.out hb2)
    have cHY0 := blk_cell HY.out 0
    have cHY1 := blk_cell HY.out 1
    have cHY2 := blk_cell HY.out 2
    simp at cHY0 cHY1 cHY2
    clear hK hb2
    have hbA : Below w2.heap.size w2 (w2.alloc (.cells #[.slice E0 ([] : List S80).length f0, .slice E1 ([] : List Int).length f1, .slice E2 ([] : List Int).length f2] 28)) := (Below.refl _ _).alloc (Nat.le_refl _) _
    have HBA := Hd.mk (below_step HB.out hbA)
    clear hbA
    go_wp2_with fail
    refine (awake_c _).mono ?_
    rintro e w3 ⟨rfl, hb3⟩
    have H3 := Hd.mk (below_step HBA.out hb3)
    clear hb3
    go_wp2
    go_ret
    exact ⟨by simp, H3.out⟩
  subst h0
  obtain ⟨S, D, X, P, Q, R, k1, k2, k3, k4, k5, k6, k7, k8⟩ := back_all HBY.out HF.out her
  rw [hnx] at k3 k4
  have K1 := Hd.mk k1
  have K2 := Hd.mk (show S.length ≤ 34359738368 by omega)
  have K3 := Hd.mk k3
  have K4 := Hd.mk k4
  have K5 := Hd.mk k5
  have K6 := Hd.mk (show P.length ≤ 34359738368 by omega)
  have K7 := Hd.mk k7
  have K8 := Hd.mk k8
  clear her hnx k1 k2 k3 k4 k5 k6 k7 k8
  have cHY0 := blk_cell HY.out 0
  have cHY1 := blk_cell HY.out 1
  have cHY2 := blk_cell HY.out 2
  simp at cHY0 cHY1 cHY2
  go_enter Try.func18, Try.ntmps18
  go_wp2_with fail
  refine (apply_r HO.out HOC.out HE.out HF.out HNX.out HER.out).mono ?_
  rintro e w1 ⟨An, cn, rfl, hn, hcn, hb1⟩
  have HN := Hd.mk hn
  have HNC := Hd.mk hcn
  clear cHY0 cHY1 cHY2
  replace HB := Hd.mk (below_step HB.out hb1)
  replace HE := Hd.mk (HE.out.below hb1)
  replace HO := Hd.mk (Kd.C_below HO.out hb1)
  replace HY := Hd.mk (blk_below HY.out hb1)
  have cHY0 := blk_cell HY.out 0
  have cHY1 := blk_cell HY.out 1
  have cHY2 := blk_cell HY.out 2
  simp at cHY0 cHY1 cHY2
  clear hb1 hn hcn
  go_wp2_with fail
  refine (reverse_r HO.out HOC.out HE.out HF.out K1.out).mono ?_
  rintro e w2 ⟨E0, f0, E1, f1, E2, f2, rfl, hK, hb2⟩
  have HK := Hd.mk hK
  clear cHY0 cHY1 cHY2
  replace HB := Hd.mk (below_step HB.out hb2)
  replace HE := Hd.mk (HE.out.below hb2)
  replace HO := Hd.mk (Kd.C_below HO.out hb2)
  replace HY := Hd.mk (blk_below HY.out hb2)
  replace HN := Hd.mk (Kd.C_below HN.out hb2)
  have cHY0 := blk_cell HY.out 0
  have cHY1 := blk_cell HY.out 1
  have cHY2 := blk_cell HY.out 2
  simp at cHY0 cHY1 cHY2
  clear hK hb2
  have hbA : Below w2.heap.size w2 (w2.alloc (.cells #[.slice E0 S.length f0, .slice E1 D.length f1, .slice E2 X.length f2] 28)) := (Below.refl _ _).alloc (Nat.le_refl _) _
  have hlt1 := blk_lt HY.out
  go_wp2_with fail
  clear cHY0 cHY1 cHY2
  replace HB := Hd.mk (below_step HB.out hbA)
  replace HE := Hd.mk (HE.out.below hbA)
  replace HO := Hd.mk (Kd.C_below HO.out hbA)
  replace HY := Hd.mk (blk_below HY.out hbA)
  replace HN := Hd.mk (Kd.C_below HN.out hbA)
  replace HK := Hd.mk (HK.out.below hbA)
  have cHY0 := blk_cell HY.out 0
  have cHY1 := blk_cell HY.out 1
  have cHY2 := blk_cell HY.out 2
  simp at cHY0 cHY1 cHY2
  have HT := Hd.mk (blk_new w2 (.cells #[.slice E0 S.length f0, .slice E1 D.length f1, .slice E2 X.length f2] 28))
  clear hbA hlt1
  refine (apply_r HN.out HNC.out HK.out K2.out K4.out K3.out).mono ?_
  rintro e w3 ⟨F0, g0, rfl, hr, hrc, hb3⟩
  have HR := Hd.mk hr
  have HRC := Hd.mk hrc
  have cHT0 := blk_cell HT.out 0
  have cHT1 := blk_cell HT.out 1
  have cHT2 := blk_cell HT.out 2
  simp at cHT0 cHT1 cHT2
  clear cHY0 cHY1 cHY2 cHT0 cHT1 cHT2
  replace HB := Hd.mk (below_step HB.out hb3)
  replace HE := Hd.mk (HE.out.below hb3)
  replace HO := Hd.mk (Kd.C_below HO.out hb3)
  replace HY := Hd.mk (blk_below HY.out hb3)
  replace HN := Hd.mk (Kd.C_below HN.out hb3)
  replace HK := Hd.mk (HK.out.below hb3)
  replace HT := Hd.mk (blk_below HT.out hb3)
  have cHY0 := blk_cell HY.out 0
  have cHY1 := blk_cell HY.out 1
  have cHY2 := blk_cell HY.out 2
  have cHT0 := blk_cell HT.out 0
  have cHT1 := blk_cell HT.out 1
  have cHT2 := blk_cell HT.out 2
  simp at cHY0 cHY1 cHY2 cHT0 cHT1 cHT2
  clear hb3 hr hrc
  go_wp2_with fail
  refine (compose_r HE.out HK.out K2.out K5.out).mono ?_
  rintro e w4 ⟨G0, p0, G1, p1, G2, p2, rfl, hP, hb4⟩
  have HP := Hd.mk hP
  clear cHY0 cHY1 cHY2 cHT0 cHT1 cHT2
  replace HB := Hd.mk (below_step HB.out hb4)
  replace HE := Hd.mk (HE.out.below hb4)
  replace HO := Hd.mk (Kd.C_below HO.out hb4)
  replace HY := Hd.mk (blk_below HY.out hb4)
  replace HN := Hd.mk (Kd.C_below HN.out hb4)
  replace HK := Hd.mk (HK.out.below hb4)
  replace HT := Hd.mk (blk_below HT.out hb4)
  replace HR := Hd.mk (Kd.C_below HR.out hb4)
  have cHY0 := blk_cell HY.out 0
  have cHY1 := blk_cell HY.out 1
  have cHY2 := blk_cell HY.out 2
  have cHT0 := blk_cell HT.out 0
  have cHT1 := blk_cell HT.out 1
  have cHT2 := blk_cell HT.out 2
  simp at cHY0 cHY1 cHY2 cHT0 cHT1 cHT2
  clear hP hb4
  have hbA : Below w4.heap.size w4 (w4.alloc (.cells #[.slice G0 P.length p0, .slice G1 Q.length p1, .slice G2 R.length p2] 28)) := (Below.refl _ _).alloc (Nat.le_refl _) _
  have hlt1 := blk_lt HY.out
  have hlt2 := blk_lt HT.out
  go_wp2_with fail
  clear cHY0 cHY1 cHY2 cHT0 cHT1 cHT2
  replace HB := Hd.mk (below_step HB.out hbA)
  replace HE := Hd.mk (HE.out.below hbA)
  replace HO := Hd.mk (Kd.C_below HO.out hbA)
  replace HY := Hd.mk (blk_below HY.out hbA)
  replace HN := Hd.mk (Kd.C_below HN.out hbA)
  replace HK := Hd.mk (HK.out.below hbA)
  replace HT := Hd.mk (blk_below HT.out hbA)
  replace HR := Hd.mk (Kd.C_below HR.out hbA)
  replace HP := Hd.mk (HP.out.below hbA)
  have cHY0 := blk_cell HY.out 0
  have cHY1 := blk_cell HY.out 1
  have cHY2 := blk_cell HY.out 2
  have cHT0 := blk_cell HT.out 0
  have cHT1 := blk_cell HT.out 1
  have cHT2 := blk_cell HT.out 2
  simp at cHY0 cHY1 cHY2 cHT0 cHT1 cHT2
  clear hbA hlt1 hlt2
  refine (apply_r HO.out HOC.out HP.out K6.out K8.out K7.out).mono ?_
  rintro e w5 ⟨M0, m0, rfl, hm, hmc, hb5⟩
  have HM := Hd.mk hm
  have HMC := Hd.mk hmc
  clear cHY0 cHY1 cHY2 cHT0 cHT1 cHT2
  replace HB := Hd.mk (below_step HB.out hb5)
  replace HE := Hd.mk (HE.out.below hb5)
  replace HO := Hd.mk (Kd.C_below HO.out hb5)
  replace HY := Hd.mk (blk_below HY.out hb5)
  replace HN := Hd.mk (Kd.C_below HN.out hb5)
  replace HK := Hd.mk (HK.out.below hb5)
  replace HT := Hd.mk (blk_below HT.out hb5)
  replace HR := Hd.mk (Kd.C_below HR.out hb5)
  replace HP := Hd.mk (HP.out.below hb5)
  have cHY0 := blk_cell HY.out 0
  have cHY1 := blk_cell HY.out 1
  have cHY2 := blk_cell HY.out 2
  have cHT0 := blk_cell HT.out 0
  have cHT1 := blk_cell HT.out 1
  have cHT2 := blk_cell HT.out 2
  simp at cHY0 cHY1 cHY2 cHT0 cHT1 cHT2
  clear hb5 hm hmc
  go_wp2_with fail
  refine (same_cb HR.out HRC.out HO.out HOC.out).mono ?_
  rintro e w6 ⟨rfl, hb6⟩
  clear cHY0 cHY1 cHY2 cHT0 cHT1 cHT2
  replace HB := Hd.mk (below_step HB.out hb6)
  replace HE := Hd.mk (HE.out.below hb6)
  replace HO := Hd.mk (Kd.C_below HO.out hb6)
  replace HY := Hd.mk (blk_below HY.out hb6)
  replace HN := Hd.mk (Kd.C_below HN.out hb6)
  replace HK := Hd.mk (HK.out.below hb6)
  replace HT := Hd.mk (blk_below HT.out hb6)
  replace HR := Hd.mk (Kd.C_below HR.out hb6)
  replace HP := Hd.mk (HP.out.below hb6)
  replace HM := Hd.mk (Kd.C_below HM.out hb6)
  have cHY0 := blk_cell HY.out 0
  have cHY1 := blk_cell HY.out 1
  have cHY2 := blk_cell HY.out 2
  have cHT0 := blk_cell HT.out 0
  have cHT1 := blk_cell HT.out 1
  have cHT2 := blk_cell HT.out 2
  simp at cHY0 cHY1 cHY2 cHT0 cHT1 cHT2
  clear hb6
  go_wp2_with fail
  refine (same_cb HM.out HMC.out HO.out HOC.out).mono ?_
  rintro e w7 ⟨rfl, hb7⟩
  clear cHY0 cHY1 cHY2 cHT0 cHT1 cHT2
  replace HB := Hd.mk (below_step HB.out hb7)
  replace HE := Hd.mk (HE.out.below hb7)
  replace HO := Hd.mk (Kd.C_below HO.out hb7)
  replace HY := Hd.mk (blk_below HY.out hb7)
  replace HN := Hd.mk (Kd.C_below HN.out hb7)
  replace HK := Hd.mk (HK.out.below hb7)
  replace HT := Hd.mk (blk_below HT.out hb7)
  replace HR := Hd.mk (Kd.C_below HR.out hb7)
  replace HP := Hd.mk (HP.out.below hb7)
  replace HM := Hd.mk (Kd.C_below HM.out hb7)
  have cHY0 := blk_cell HY.out 0
  have cHY1 := blk_cell HY.out 1
  have cHY2 := blk_cell HY.out 2
  have cHT0 := blk_cell HT.out 0
  have cHT1 := blk_cell HT.out 1
  have cHT2 := blk_cell HT.out 2
  simp at cHY0 cHY1 cHY2 cHT0 cHT1 cHT2
  clear hb7
  go_wp2_with fail
  refine (awake_c _).mono ?_
  rintro e w8 ⟨rfl, hb8⟩
  have H8 := Hd.mk (below_step HB.out hb8)
  clear hb8
  go_wp2
  go_ret
  exact ⟨by simp, H8.out⟩
end Go.Proofs.Ytemlbjpefomboaa
