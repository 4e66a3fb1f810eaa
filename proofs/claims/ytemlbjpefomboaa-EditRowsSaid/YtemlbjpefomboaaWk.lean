/- edit: the walk of EditRows. -/
import Derived.Test.YtemlbjpefomboaaJm
import Derived.Test.YtemlbjpefomboaaOq
namespace Go.Proofs.Ytemlbjpefomboaa
open Go.RowKit Go.Shelf Go.Proofs.YtemlbjpefomboaaW.PrintWords Go.Proofs.YtemlbjpefomboaaW.PrintLast Go.Proofs.YtemlbjpefomboaaW.PrintMore Go.Proofs.Ytemlbjpefomboaa.Pr
set_option linter.unusedVariables false
set_option linter.unusedSimpArgs false
/-- Two rows of bytes made one, behind nothing. -/
theorem cat_run (W : World) (l m : List Int) {A : Option Addr} {c : Nat} {B : Option Addr} {e : Nat} (hC : Kd.C (Kd.int .u8) W A l.length l) (hD : Kd.C (Kd.int .u8) W B m.length m) (hl : l.length ≤ 16777216) (hm : m.length ≤ 16777216) :
    ∃ A6 c6 w1 A10 c10 w2, (Builtin.append_ #[25, 25] 25 #[.slice none 0 0, .slice A l.length c]).run Try.prog W = .ok (.slice A6 l.length c6) w1 ∧
      (Builtin.append_ #[25, 25] 25 #[.slice A6 l.length c6, .slice B m.length e]).run Try.prog w1 = .ok (.slice A10 (l ++ m).length c10) w2 ∧
      Kd.C (Kd.int .u8) w2 A10 (l ++ m).length (l ++ m) ∧ (l ++ m).length ≤ c10 ∧ Below W.heap.size W w2 := by
  obtain ⟨v1, w1, hr1, ho1, hg1, _, _⟩ := run_app (P := Try.prog) W W.heap.size 25 25 5 (.int .u8 0) 1 1 eltB (.slice none 0 0) 0 [] (own_nil _ _ _ _) A l.length c (nums .u8 l) (Src.of_C hC) (by omega) (Nat.le_refl _)
  rw [Nat.zero_add, List.nil_append] at ho1
  obtain ⟨A6, c6, rfl⟩ := own_slice ho1
  have hb1 : Below W.heap.size W w1 := (Below.refl _ _).grown hg1 (Nat.le_refl _) (fun k e => by cases e)
  obtain ⟨v2, w2, hr2, ho2, hg2, _, _⟩ := run_app (P := Try.prog) w1 W.heap.size 25 25 5 (.int .u8 0) 1 1 eltB (.slice A6 l.length c6) l.length (nums .u8 l) ho1 B m.length e (nums .u8 m) (Src.of_C (Kd.C_below hD hb1)) (by omega) hb1.size
  have hn : nums .u8 l ++ nums .u8 m = nums .u8 (l ++ m) := by simp [nums]
  rw [hn, ← List.length_append] at ho2
  obtain ⟨A10, c10, rfl⟩ := own_slice ho2
  exact ⟨A6, c6, w1, A10, c10, w2, hr1, hr2, own_C8 ho2, own_le ho2, hb1.grown hg2 hb1.size (own_base ho1)⟩
attribute [-go_sem] Builtin.append_
set_option maxRecDepth 100000 in
set_option maxHeartbeats 8000000 in
theorem walk_editRows (Ao : Option Addr) (co : Nat) (old : List Int) (A0 : Option Addr) (c0 : Nat) (st : List S80) (A1 : Option Addr) (c1 : Nat) (d : List Int) (A2 : Option Addr) (c2 : Nat) (x : List Int)
    (D0 : Option Addr) (g0 : Nat) (sb : List S80) (D1 : Option Addr) (g1 : Nat) (db : List Int) (D2 : Option Addr) (g2 : Nat) (xb : List Int) (F0 : Option Addr) (h0 : Nat) (sc : List S80) (F1 : Option Addr) (h1 : Nat) (dc : List Int) (F2 : Option Addr) (h2 : Nat) (xc : List Int) (w : World)
    (HO : Bys w Ao co old) (H : EdI w A0 c0 st A1 c1 d A2 c2 x ∧ EdI w D0 g0 sb D1 g1 db D2 g2 xb ∧ EdI w F0 h0 sc F1 h1 dc F2 h2 xc) :
    Calls Try.prog 20 #[.slice Ao old.length co, .agg #[.slice A0 st.length c0, .slice A1 d.length c1, .slice A2 x.length c2, .slice D0 sb.length g0, .slice D1 db.length g1, .slice D2 xb.length g2, .slice F0 sc.length h0, .slice F1 dc.length h1, .slice F2 xc.length h2]] w
      fun e w' => e = .returned (.bool true) ∧ Below w.heap.size w w' := by
  obtain ⟨⟨hE, _, _, _⟩, ⟨hG, _, _, _⟩, ⟨hH, _, _, _⟩⟩ := H
  obtain ⟨hO, hoc, _⟩ := HO
  have hb0 : Below w.heap.size w (w.alloc (.cells #[.slice A0 st.length c0, .slice A1 d.length c1, .slice A2 x.length c2, .slice D0 sb.length g0, .slice D1 db.length g1, .slice D2 xb.length g2, .slice F0 sc.length h0, .slice F1 dc.length h1, .slice F2 xc.length h2] 75)) := (Below.refl _ _).alloc (Nat.le_refl _) _
  have HE := Hd.mk (hE.below hb0)
  have HG := Hd.mk (hG.below hb0)
  have HH := Hd.mk (hH.below hb0)
  have HO := Hd.mk (Kd.C_below hO hb0)
  have HOC := Hd.mk hoc
  have HB := Hd.mk hb0
  have HY := Hd.mk (blk_new w (.cells #[.slice A0 st.length c0, .slice A1 d.length c1, .slice A2 x.length c2, .slice D0 sb.length g0, .slice D1 db.length g1, .slice D2 xb.length g2, .slice F0 sc.length h0, .slice F1 dc.length h1, .slice F2 xc.length h2] 75))
  clear hb0 hE hG hH hO hoc
  obtain ⟨⟨S, D, X, er⟩, hq⟩ : ∃ q, joinE [⟨st, d, x⟩, ⟨sb, db, xb⟩] = q := ⟨_, rfl⟩
  have HQ := Hd.mk hq
  obtain ⟨wa, hwa⟩ : ∃ v, w.alloc (.cells #[.slice A0 st.length c0, .slice A1 d.length c1, .slice A2 x.length c2, .slice D0 sb.length g0, .slice D1 db.length g1, .slice D2 xb.length g2, .slice F0 sc.length h0, .slice F1 dc.length h1, .slice F2 xc.length h2] 75) = v := ⟨_, rfl⟩
  have hJ := join2_m (blk_new wa (.cells #[.slice A0 st.length c0, .slice A1 d.length c1, .slice A2 x.length c2, .slice D0 sb.length g0, .slice D1 db.length g1, .slice D2 xb.length g2] 28)) (EdC.below (hwa ▸ HE.out) ((Below.refl _ _).alloc (Nat.le_refl _) _)) (EdC.below (hwa ▸ HG.out) ((Below.refl _ _).alloc (Nat.le_refl _) _)) hq
  have HJ := Hd.mk hJ
  clear hJ
  go_enter Try.func20, Try.ntmps20
  rw [hwa] at HE HG HH HO HB HY
  have hbA : Below wa.heap.size wa (wa.alloc (.cells #[.slice A0 st.length c0, .slice A1 d.length c1, .slice A2 x.length c2, .slice D0 sb.length g0, .slice D1 db.length g1, .slice D2 xb.length g2] 28)) := (Below.refl _ _).alloc (Nat.le_refl _) _
  have HBA := Hd.mk hbA
  clear hbA
  have cHY0 := blk_cell HY.out 0
  have cHY1 := blk_cell HY.out 1
  have cHY2 := blk_cell HY.out 2
  have cHY3 := blk_cell HY.out 3
  have cHY4 := blk_cell HY.out 4
  have cHY5 := blk_cell HY.out 5
  have cHY6 := blk_cell HY.out 6
  have cHY7 := blk_cell HY.out 7
  have cHY8 := blk_cell HY.out 8
  simp at cHY0 cHY1 cHY2 cHY3 cHY4 cHY5 cHY6 cHY7 cHY8
  go_wp2_with fail
  refine (JoinA.run HJ.out).mono ?_
  rintro e w1 ⟨E0, f0, E1, f1, E2, f2, rfl, hK, hb1⟩
  have HK := Hd.mk hK
  clear cHY0 cHY1 cHY2 cHY3 cHY4 cHY5 cHY6 cHY7 cHY8
  replace HB := Hd.mk (below_step HB.out HBA.out)
  replace HE := Hd.mk (HE.out.below HBA.out)
  replace HG := Hd.mk (HG.out.below HBA.out)
  replace HH := Hd.mk (HH.out.below HBA.out)
  replace HO := Hd.mk (Kd.C_below HO.out HBA.out)
  replace HY := Hd.mk (blk_below HY.out HBA.out)
  have cHY0 := blk_cell HY.out 0
  have cHY1 := blk_cell HY.out 1
  have cHY2 := blk_cell HY.out 2
  have cHY3 := blk_cell HY.out 3
  have cHY4 := blk_cell HY.out 4
  have cHY5 := blk_cell HY.out 5
  have cHY6 := blk_cell HY.out 6
  have cHY7 := blk_cell HY.out 7
  have cHY8 := blk_cell HY.out 8
  simp at cHY0 cHY1 cHY2 cHY3 cHY4 cHY5 cHY6 cHY7 cHY8
  clear cHY0 cHY1 cHY2 cHY3 cHY4 cHY5 cHY6 cHY7 cHY8
  replace HB := Hd.mk (below_step HB.out hb1)
  replace HE := Hd.mk (HE.out.below hb1)
  replace HG := Hd.mk (HG.out.below hb1)
  replace HH := Hd.mk (HH.out.below hb1)
  replace HO := Hd.mk (Kd.C_below HO.out hb1)
  replace HY := Hd.mk (blk_below HY.out hb1)
  have cHY0 := blk_cell HY.out 0
  have cHY1 := blk_cell HY.out 1
  have cHY2 := blk_cell HY.out 2
  have cHY3 := blk_cell HY.out 3
  have cHY4 := blk_cell HY.out 4
  have cHY5 := blk_cell HY.out 5
  have cHY6 := blk_cell HY.out 6
  have cHY7 := blk_cell HY.out 7
  have cHY8 := blk_cell HY.out 8
  simp at cHY0 cHY1 cHY2 cHY3 cHY4 cHY5 cHY6 cHY7 cHY8
  clear hK hb1 HBA HJ
  by_cases he0 : er = 0
  rotate_left
  · have hS := joinE_bad hq he0
    subst hS
    have hne : (er != 0) = true := by simpa using he0
    have H0 := Hd.mk he0
    clear hq he0 HK
    have hbA : Below w1.heap.size w1 (w1.alloc (.cells #[.slice E0 ([] : List S80).length f0, .slice E1 D.length f1, .slice E2 X.length f2] 28)) := (Below.refl _ _).alloc (Nat.le_refl _) _
    have HBX := Hd.mk (below_step HB.out hbA)
    clear hbA
    go_wp2_with fail
    refine (awake_c _).mono ?_
    rintro e w3 ⟨rfl, hb3⟩
    have H3 := Hd.mk (below_step HBX.out hb3)
    clear hb3
    go_wp2
    go_ret
    exact ⟨by simp, H3.out⟩
  subst he0
  obtain ⟨ho, hi, hm, hee⟩ := join_means hq
  obtain ⟨hia, hma⟩ := hee ⟨st, d, x⟩ (by simp)
  obtain ⟨hib, hmb⟩ := hee ⟨sb, db, xb⟩ (by simp)
  simp only at hia hma hib hmb
  have hjap := fun ha hb => join_apply (old := old) hq ha hb
  simp only at hjap
  have hsa := fun h => appliedE_ok (old := old) (st := st) (d := d) (x := x) h
  obtain ⟨ra, hra⟩ : ∃ r, applied old st d x = r := ⟨_, rfl⟩
  obtain ⟨ea, hea⟩ : ∃ r, appliedE old st d x = r := ⟨_, rfl⟩
  obtain ⟨rb, hrb⟩ : ∃ r, applied old sb db xb = r := ⟨_, rfl⟩
  obtain ⟨eb, heb⟩ : ∃ r, appliedE old sb db xb = r := ⟨_, rfl⟩
  obtain ⟨rc, hrc⟩ : ∃ r, applied old S D X = r := ⟨_, rfl⟩
  obtain ⟨ec, hec⟩ : ∃ r, appliedE old S D X = r := ⟨_, rfl⟩
  have hlen : ea = 0 → eb = 0 → ra.length ≤ 16777216 ∧ rb.length ≤ 16777216 := by
    intro h1 h2
    rw [← hea] at h1
    rw [← heb] at h2
    rw [← hra, ← hrb, applied_ok h1, applied_ok h2, List.length_map, List.length_map]
    exact ⟨og_fit hia, og_fit hib⟩
  rw [hea, heb, hec, hrc, hra, hrb] at hjap
  have HJAP := Hd.mk hjap
  have HLEN := Hd.mk hlen
  have HRA := Hd.mk (And.intro hra hea)
  have HRB := Hd.mk (And.intro hrb heb)
  have HRC := Hd.mk (And.intro hrc hec)
  have HMA := Hd.mk hma
  have HMB := Hd.mk hmb
  have HMC := Hd.mk (show Mid (og S D X 0) by rw [ho]; exact hm)
  clear ho hi hm hee hia hma hib hmb hjap hsa hra hea hrb heb hrc hec hlen hq
  have hbA : Below w1.heap.size w1 (w1.alloc (.cells #[.slice E0 S.length f0, .slice E1 D.length f1, .slice E2 X.length f2] 28)) := (Below.refl _ _).alloc (Nat.le_refl _) _
  have hnw := blk_new w1 (.cells #[.slice E0 S.length f0, .slice E1 D.length f1, .slice E2 X.length f2] 28)
  have hlt1 := blk_lt HY.out
  go_wp2_with fail
  clear cHY0 cHY1 cHY2 cHY3 cHY4 cHY5 cHY6 cHY7 cHY8
  replace HB := Hd.mk (below_step HB.out hbA)
  replace HE := Hd.mk (HE.out.below hbA)
  replace HG := Hd.mk (HG.out.below hbA)
  replace HH := Hd.mk (HH.out.below hbA)
  replace HO := Hd.mk (Kd.C_below HO.out hbA)
  replace HY := Hd.mk (blk_below HY.out hbA)
  replace HK := Hd.mk (HK.out.below hbA)
  have cHY0 := blk_cell HY.out 0
  have cHY1 := blk_cell HY.out 1
  have cHY2 := blk_cell HY.out 2
  have cHY3 := blk_cell HY.out 3
  have cHY4 := blk_cell HY.out 4
  have cHY5 := blk_cell HY.out 5
  have cHY6 := blk_cell HY.out 6
  have cHY7 := blk_cell HY.out 7
  have cHY8 := blk_cell HY.out 8
  simp at cHY0 cHY1 cHY2 cHY3 cHY4 cHY5 cHY6 cHY7 cHY8
  have HT := Hd.mk hnw
  clear hbA hnw hlt1
  have cHT0 := blk_cell HT.out 0
  have cHT1 := blk_cell HT.out 1
  have cHT2 := blk_cell HT.out 2
  simp at cHT0 cHT1 cHT2
  refine (apply_m HO.out HOC.out HE.out HMA.out HRA.out.1 HRA.out.2).mono ?_
  rintro e w2 ⟨P0, p0, rfl, hr, hrl, hb2⟩
  have HP := Hd.mk hr
  have HPC := Hd.mk hrl
  clear cHY0 cHY1 cHY2 cHY3 cHY4 cHY5 cHY6 cHY7 cHY8 cHT0 cHT1 cHT2
  replace HB := Hd.mk (below_step HB.out hb2)
  replace HE := Hd.mk (HE.out.below hb2)
  replace HG := Hd.mk (HG.out.below hb2)
  replace HH := Hd.mk (HH.out.below hb2)
  replace HO := Hd.mk (Kd.C_below HO.out hb2)
  replace HY := Hd.mk (blk_below HY.out hb2)
  replace HK := Hd.mk (HK.out.below hb2)
  replace HT := Hd.mk (blk_below HT.out hb2)
  have cHY0 := blk_cell HY.out 0
  have cHY1 := blk_cell HY.out 1
  have cHY2 := blk_cell HY.out 2
  have cHY3 := blk_cell HY.out 3
  have cHY4 := blk_cell HY.out 4
  have cHY5 := blk_cell HY.out 5
  have cHY6 := blk_cell HY.out 6
  have cHY7 := blk_cell HY.out 7
  have cHY8 := blk_cell HY.out 8
  have cHT0 := blk_cell HT.out 0
  have cHT1 := blk_cell HT.out 1
  have cHT2 := blk_cell HT.out 2
  simp at cHY0 cHY1 cHY2 cHY3 cHY4 cHY5 cHY6 cHY7 cHY8 cHT0 cHT1 cHT2
  clear hb2 hr hrl
  go_wp2_with fail
  refine (apply_m HO.out HOC.out HG.out HMB.out HRB.out.1 HRB.out.2).mono ?_
  rintro e w3 ⟨Q0, q0, rfl, hr, hrl, hb3⟩
  have HQ0 := Hd.mk hr
  have HQC := Hd.mk hrl
  clear cHY0 cHY1 cHY2 cHY3 cHY4 cHY5 cHY6 cHY7 cHY8 cHT0 cHT1 cHT2
  replace HB := Hd.mk (below_step HB.out hb3)
  replace HE := Hd.mk (HE.out.below hb3)
  replace HG := Hd.mk (HG.out.below hb3)
  replace HH := Hd.mk (HH.out.below hb3)
  replace HO := Hd.mk (Kd.C_below HO.out hb3)
  replace HY := Hd.mk (blk_below HY.out hb3)
  replace HK := Hd.mk (HK.out.below hb3)
  replace HT := Hd.mk (blk_below HT.out hb3)
  replace HP := Hd.mk (Kd.C_below HP.out hb3)
  have cHY0 := blk_cell HY.out 0
  have cHY1 := blk_cell HY.out 1
  have cHY2 := blk_cell HY.out 2
  have cHY3 := blk_cell HY.out 3
  have cHY4 := blk_cell HY.out 4
  have cHY5 := blk_cell HY.out 5
  have cHY6 := blk_cell HY.out 6
  have cHY7 := blk_cell HY.out 7
  have cHY8 := blk_cell HY.out 8
  have cHT0 := blk_cell HT.out 0
  have cHT1 := blk_cell HT.out 1
  have cHT2 := blk_cell HT.out 2
  simp at cHY0 cHY1 cHY2 cHY3 cHY4 cHY5 cHY6 cHY7 cHY8 cHT0 cHT1 cHT2
  clear hb3 hr hrl
  go_wp2_with fail
  refine (apply_m HO.out HOC.out HK.out HMC.out HRC.out.1 HRC.out.2).mono ?_
  rintro e w4 ⟨R0, r0, rfl, hr, hrl, hb4⟩
  have HR0 := Hd.mk hr
  have HRL := Hd.mk hrl
  clear cHY0 cHY1 cHY2 cHY3 cHY4 cHY5 cHY6 cHY7 cHY8 cHT0 cHT1 cHT2
  replace HB := Hd.mk (below_step HB.out hb4)
  replace HE := Hd.mk (HE.out.below hb4)
  replace HG := Hd.mk (HG.out.below hb4)
  replace HH := Hd.mk (HH.out.below hb4)
  replace HO := Hd.mk (Kd.C_below HO.out hb4)
  replace HY := Hd.mk (blk_below HY.out hb4)
  replace HK := Hd.mk (HK.out.below hb4)
  replace HT := Hd.mk (blk_below HT.out hb4)
  replace HP := Hd.mk (Kd.C_below HP.out hb4)
  replace HQ0 := Hd.mk (Kd.C_below HQ0.out hb4)
  have cHY0 := blk_cell HY.out 0
  have cHY1 := blk_cell HY.out 1
  have cHY2 := blk_cell HY.out 2
  have cHY3 := blk_cell HY.out 3
  have cHY4 := blk_cell HY.out 4
  have cHY5 := blk_cell HY.out 5
  have cHY6 := blk_cell HY.out 6
  have cHY7 := blk_cell HY.out 7
  have cHY8 := blk_cell HY.out 8
  have cHT0 := blk_cell HT.out 0
  have cHT1 := blk_cell HT.out 1
  have cHT2 := blk_cell HT.out 2
  simp at cHY0 cHY1 cHY2 cHY3 cHY4 cHY5 cHY6 cHY7 cHY8 cHT0 cHT1 cHT2
  clear hb4 hr hrl
  go_upto_region 7 with fail
  go_cut [77] (fun v77 W => v77 = .bool false ∧ Hd (Below w4.heap.size w4 W))
  case first =>
    by_cases ha0 : ea = 0
    · by_cases hb0 : eb = 0
      · obtain ⟨hc0, hcr⟩ := HJAP.out ha0 hb0
        obtain ⟨l1, l2⟩ := HLEN.out ha0 hb0
        subst ha0
        subst hb0
        subst hc0
        obtain ⟨A6, c6, wx, A10, c10, wy, hr1, hr2, hcat, hcc, hby⟩ := cat_run w4 ra rb (c := p0) (e := q0) HP.out HQ0.out l1 l2
        rw [← hcr] at hr2 hcat hcc
        have HSC := Hd.mk (same_cm (Kd.C_below HR0.out hby) HRL.out hcat hcc)
        have HBY := Hd.mk hby
        clear hcat hcc hby l1 l2 hcr
        go_wp2_with fail
        refine HSC.out.mono ?_
        rintro e wz ⟨rfl, hbz⟩
        have HBZ := Hd.mk hbz
        clear hbz
        go_wp2_with fail
        go_meet
        case rel => exact ⟨rfl, ⟨below_step HBY.out HBZ.out⟩⟩
      · have hne : (eb == 0) = false := by simpa using hb0
        have H0 := Hd.mk hb0
        subst ha0
        clear hb0
        go_wp2_with fail
        go_meet
        case rel => exact ⟨by simp [hne], ⟨Below.refl _ _⟩⟩
    · have hne : (ea == 0) = false := by simpa using ha0
      have H0 := Hd.mk ha0
      clear ha0
      go_wp2_with fail
      go_meet
      case rel => exact ⟨by simp [hne], ⟨Below.refl _ _⟩⟩
  case rest =>
    obtain ⟨rfl, HBC⟩ := hcut
    obtain ⟨w5, hw5⟩ : ∃ v, v = wc := ⟨_, rfl⟩
    subst hw5
    clear cHY0 cHY1 cHY2 cHY3 cHY4 cHY5 cHY6 cHY7 cHY8 cHT0 cHT1 cHT2
    replace HB := Hd.mk (below_step HB.out HBC.out)
    replace HE := Hd.mk (HE.out.below HBC.out)
    replace HG := Hd.mk (HG.out.below HBC.out)
    replace HH := Hd.mk (HH.out.below HBC.out)
    replace HO := Hd.mk (Kd.C_below HO.out HBC.out)
    replace HY := Hd.mk (blk_below HY.out HBC.out)
    replace HK := Hd.mk (HK.out.below HBC.out)
    replace HT := Hd.mk (blk_below HT.out HBC.out)
    replace HP := Hd.mk (Kd.C_below HP.out HBC.out)
    replace HQ0 := Hd.mk (Kd.C_below HQ0.out HBC.out)
    replace HR0 := Hd.mk (Kd.C_below HR0.out HBC.out)
    have cHY0 := blk_cell HY.out 0
    have cHY1 := blk_cell HY.out 1
    have cHY2 := blk_cell HY.out 2
    have cHY3 := blk_cell HY.out 3
    have cHY4 := blk_cell HY.out 4
    have cHY5 := blk_cell HY.out 5
    have cHY6 := blk_cell HY.out 6
    have cHY7 := blk_cell HY.out 7
    have cHY8 := blk_cell HY.out 8
    have cHT0 := blk_cell HT.out 0
    have cHT1 := blk_cell HT.out 1
    have cHT2 := blk_cell HT.out 2
    simp at cHY0 cHY1 cHY2 cHY3 cHY4 cHY5 cHY6 cHY7 cHY8 cHT0 cHT1 cHT2
    clear HBC HP HQ0 HR0 HPC HQC HRL HJAP HLEN HRA HRB HRC HMA HMB HMC
    obtain ⟨⟨T, E, Y, et⟩, hq1⟩ : ∃ q, joinE [⟨st, d, x⟩] = q := ⟨_, rfl⟩
    have hn1 := (join_one ⟨st, d, x⟩).symm.trans hq1
    simp only at hn1
    have HN1 := Hd.mk hn1
    have hbA : Below w5.heap.size w5 (w5.alloc (.cells #[.slice A0 st.length c0, .slice A1 d.length c1, .slice A2 x.length c2] 28)) := (Below.refl _ _).alloc (Nat.le_refl _) _
    have HJ1 := Hd.mk (join1_m (blk_new w5 (.cells #[.slice A0 st.length c0, .slice A1 d.length c1, .slice A2 x.length c2] 28)) (EdC.below HE.out hbA) hq1)
    have HBA := Hd.mk hbA
    clear hbA hq1 hn1
    go_wp2_with fail
    refine (JoinA.run HJ1.out).mono ?_
    rintro e w6 ⟨K0, k0, K1, k1, K2, k2, rfl, hK, hb6⟩
    have HO1 := Hd.mk hK
    clear cHY0 cHY1 cHY2 cHY3 cHY4 cHY5 cHY6 cHY7 cHY8 cHT0 cHT1 cHT2
    replace HB := Hd.mk (below_step HB.out HBA.out)
    replace HE := Hd.mk (HE.out.below HBA.out)
    replace HG := Hd.mk (HG.out.below HBA.out)
    replace HH := Hd.mk (HH.out.below HBA.out)
    replace HO := Hd.mk (Kd.C_below HO.out HBA.out)
    replace HY := Hd.mk (blk_below HY.out HBA.out)
    replace HK := Hd.mk (HK.out.below HBA.out)
    replace HT := Hd.mk (blk_below HT.out HBA.out)
    have cHY0 := blk_cell HY.out 0
    have cHY1 := blk_cell HY.out 1
    have cHY2 := blk_cell HY.out 2
    have cHY3 := blk_cell HY.out 3
    have cHY4 := blk_cell HY.out 4
    have cHY5 := blk_cell HY.out 5
    have cHY6 := blk_cell HY.out 6
    have cHY7 := blk_cell HY.out 7
    have cHY8 := blk_cell HY.out 8
    have cHT0 := blk_cell HT.out 0
    have cHT1 := blk_cell HT.out 1
    have cHT2 := blk_cell HT.out 2
    simp at cHY0 cHY1 cHY2 cHY3 cHY4 cHY5 cHY6 cHY7 cHY8 cHT0 cHT1 cHT2
    clear cHY0 cHY1 cHY2 cHY3 cHY4 cHY5 cHY6 cHY7 cHY8 cHT0 cHT1 cHT2
    replace HB := Hd.mk (below_step HB.out hb6)
    replace HE := Hd.mk (HE.out.below hb6)
    replace HG := Hd.mk (HG.out.below hb6)
    replace HH := Hd.mk (HH.out.below hb6)
    replace HO := Hd.mk (Kd.C_below HO.out hb6)
    replace HY := Hd.mk (blk_below HY.out hb6)
    replace HK := Hd.mk (HK.out.below hb6)
    replace HT := Hd.mk (blk_below HT.out hb6)
    have cHY0 := blk_cell HY.out 0
    have cHY1 := blk_cell HY.out 1
    have cHY2 := blk_cell HY.out 2
    have cHY3 := blk_cell HY.out 3
    have cHY4 := blk_cell HY.out 4
    have cHY5 := blk_cell HY.out 5
    have cHY6 := blk_cell HY.out 6
    have cHY7 := blk_cell HY.out 7
    have cHY8 := blk_cell HY.out 8
    have cHT0 := blk_cell HT.out 0
    have cHT1 := blk_cell HT.out 1
    have cHT2 := blk_cell HT.out 2
    simp at cHY0 cHY1 cHY2 cHY3 cHY4 cHY5 cHY6 cHY7 cHY8 cHT0 cHT1 cHT2
    clear hK hb6 HBA HJ1
    have hbA : Below w6.heap.size w6 (w6.alloc (.cells #[.slice K0 T.length k0, .slice K1 E.length k1, .slice K2 Y.length k2] 28)) := (Below.refl _ _).alloc (Nat.le_refl _) _
    have hnw := blk_new w6 (.cells #[.slice K0 T.length k0, .slice K1 E.length k1, .slice K2 Y.length k2] 28)
    have hlt1 := blk_lt HY.out
    have hlt2 := blk_lt HT.out
    go_wp2_with fail
    clear cHY0 cHY1 cHY2 cHY3 cHY4 cHY5 cHY6 cHY7 cHY8 cHT0 cHT1 cHT2
    replace HB := Hd.mk (below_step HB.out hbA)
    replace HE := Hd.mk (HE.out.below hbA)
    replace HG := Hd.mk (HG.out.below hbA)
    replace HH := Hd.mk (HH.out.below hbA)
    replace HO := Hd.mk (Kd.C_below HO.out hbA)
    replace HY := Hd.mk (blk_below HY.out hbA)
    replace HK := Hd.mk (HK.out.below hbA)
    replace HT := Hd.mk (blk_below HT.out hbA)
    replace HO1 := Hd.mk (HO1.out.below hbA)
    have cHY0 := blk_cell HY.out 0
    have cHY1 := blk_cell HY.out 1
    have cHY2 := blk_cell HY.out 2
    have cHY3 := blk_cell HY.out 3
    have cHY4 := blk_cell HY.out 4
    have cHY5 := blk_cell HY.out 5
    have cHY6 := blk_cell HY.out 6
    have cHY7 := blk_cell HY.out 7
    have cHY8 := blk_cell HY.out 8
    have cHT0 := blk_cell HT.out 0
    have cHT1 := blk_cell HT.out 1
    have cHT2 := blk_cell HT.out 2
    simp at cHY0 cHY1 cHY2 cHY3 cHY4 cHY5 cHY6 cHY7 cHY8 cHT0 cHT1 cHT2
    have HU := Hd.mk hnw
    clear hbA hnw hlt1 hlt2
    have cHU0 := blk_cell HU.out 0
    have cHU1 := blk_cell HU.out 1
    have cHU2 := blk_cell HU.out 2
    simp at cHU0 cHU1 cHU2
    refine (normal_m HE.out HN1.out).mono ?_
    rintro e w7 ⟨L0, l0, L1, l1, L2, l2, rfl, hK, hb7⟩
    have HO2 := Hd.mk hK
    clear cHY0 cHY1 cHY2 cHY3 cHY4 cHY5 cHY6 cHY7 cHY8 cHT0 cHT1 cHT2 cHU0 cHU1 cHU2
    replace HB := Hd.mk (below_step HB.out hb7)
    replace HE := Hd.mk (HE.out.below hb7)
    replace HG := Hd.mk (HG.out.below hb7)
    replace HH := Hd.mk (HH.out.below hb7)
    replace HO := Hd.mk (Kd.C_below HO.out hb7)
    replace HY := Hd.mk (blk_below HY.out hb7)
    replace HK := Hd.mk (HK.out.below hb7)
    replace HT := Hd.mk (blk_below HT.out hb7)
    replace HO1 := Hd.mk (HO1.out.below hb7)
    replace HU := Hd.mk (blk_below HU.out hb7)
    have cHY0 := blk_cell HY.out 0
    have cHY1 := blk_cell HY.out 1
    have cHY2 := blk_cell HY.out 2
    have cHY3 := blk_cell HY.out 3
    have cHY4 := blk_cell HY.out 4
    have cHY5 := blk_cell HY.out 5
    have cHY6 := blk_cell HY.out 6
    have cHY7 := blk_cell HY.out 7
    have cHY8 := blk_cell HY.out 8
    have cHT0 := blk_cell HT.out 0
    have cHT1 := blk_cell HT.out 1
    have cHT2 := blk_cell HT.out 2
    have cHU0 := blk_cell HU.out 0
    have cHU1 := blk_cell HU.out 1
    have cHU2 := blk_cell HU.out 2
    simp at cHY0 cHY1 cHY2 cHY3 cHY4 cHY5 cHY6 cHY7 cHY8 cHT0 cHT1 cHT2 cHU0 cHU1 cHU2
    clear hK hb7
    have hbA : Below w7.heap.size w7 (w7.alloc (.cells #[.slice L0 T.length l0, .slice L1 E.length l1, .slice L2 Y.length l2] 28)) := (Below.refl _ _).alloc (Nat.le_refl _) _
    have hnw := blk_new w7 (.cells #[.slice L0 T.length l0, .slice L1 E.length l1, .slice L2 Y.length l2] 28)
    have hlt1 := blk_lt HY.out
    have hlt2 := blk_lt HT.out
    have hlt3 := blk_lt HU.out
    have HAL := Hd.mk (alikeA_c (HO1.out.below hbA) (HO2.out.below hbA) (show sameE T E Y T E Y = true by simp [sameE]))
    go_wp2_with fail
    clear cHY0 cHY1 cHY2 cHY3 cHY4 cHY5 cHY6 cHY7 cHY8 cHT0 cHT1 cHT2 cHU0 cHU1 cHU2
    replace HB := Hd.mk (below_step HB.out hbA)
    replace HE := Hd.mk (HE.out.below hbA)
    replace HG := Hd.mk (HG.out.below hbA)
    replace HH := Hd.mk (HH.out.below hbA)
    replace HO := Hd.mk (Kd.C_below HO.out hbA)
    replace HY := Hd.mk (blk_below HY.out hbA)
    replace HK := Hd.mk (HK.out.below hbA)
    replace HT := Hd.mk (blk_below HT.out hbA)
    replace HO1 := Hd.mk (HO1.out.below hbA)
    replace HU := Hd.mk (blk_below HU.out hbA)
    replace HO2 := Hd.mk (HO2.out.below hbA)
    have cHY0 := blk_cell HY.out 0
    have cHY1 := blk_cell HY.out 1
    have cHY2 := blk_cell HY.out 2
    have cHY3 := blk_cell HY.out 3
    have cHY4 := blk_cell HY.out 4
    have cHY5 := blk_cell HY.out 5
    have cHY6 := blk_cell HY.out 6
    have cHY7 := blk_cell HY.out 7
    have cHY8 := blk_cell HY.out 8
    have cHT0 := blk_cell HT.out 0
    have cHT1 := blk_cell HT.out 1
    have cHT2 := blk_cell HT.out 2
    have cHU0 := blk_cell HU.out 0
    have cHU1 := blk_cell HU.out 1
    have cHU2 := blk_cell HU.out 2
    simp at cHY0 cHY1 cHY2 cHY3 cHY4 cHY5 cHY6 cHY7 cHY8 cHT0 cHT1 cHT2 cHU0 cHU1 cHU2
    have HV := Hd.mk hnw
    clear hbA hnw hlt1 hlt2 hlt3
    refine HAL.out.mono ?_
    rintro e w8 ⟨rfl, hb8⟩
    clear cHY0 cHY1 cHY2 cHY3 cHY4 cHY5 cHY6 cHY7 cHY8 cHT0 cHT1 cHT2 cHU0 cHU1 cHU2
    replace HB := Hd.mk (below_step HB.out hb8)
    replace HE := Hd.mk (HE.out.below hb8)
    replace HG := Hd.mk (HG.out.below hb8)
    replace HH := Hd.mk (HH.out.below hb8)
    replace HO := Hd.mk (Kd.C_below HO.out hb8)
    replace HY := Hd.mk (blk_below HY.out hb8)
    replace HK := Hd.mk (HK.out.below hb8)
    replace HT := Hd.mk (blk_below HT.out hb8)
    replace HO1 := Hd.mk (HO1.out.below hb8)
    replace HU := Hd.mk (blk_below HU.out hb8)
    replace HO2 := Hd.mk (HO2.out.below hb8)
    replace HV := Hd.mk (blk_below HV.out hb8)
    have cHY0 := blk_cell HY.out 0
    have cHY1 := blk_cell HY.out 1
    have cHY2 := blk_cell HY.out 2
    have cHY3 := blk_cell HY.out 3
    have cHY4 := blk_cell HY.out 4
    have cHY5 := blk_cell HY.out 5
    have cHY6 := blk_cell HY.out 6
    have cHY7 := blk_cell HY.out 7
    have cHY8 := blk_cell HY.out 8
    have cHT0 := blk_cell HT.out 0
    have cHT1 := blk_cell HT.out 1
    have cHT2 := blk_cell HT.out 2
    have cHU0 := blk_cell HU.out 0
    have cHU1 := blk_cell HU.out 1
    have cHU2 := blk_cell HU.out 2
    simp at cHY0 cHY1 cHY2 cHY3 cHY4 cHY5 cHY6 cHY7 cHY8 cHT0 cHT1 cHT2 cHU0 cHU1 cHU2
    clear cHY0 cHY1 cHY2 cHY3 cHY4 cHY5 cHY6 cHY7 cHY8 cHT0 cHT1 cHT2 cHU0 cHU1 cHU2
    clear hb8 HAL HU HV HO1 HO2 HN1
    have cHY0 := blk_cell HY.out 0
    have cHY1 := blk_cell HY.out 1
    have cHY2 := blk_cell HY.out 2
    have cHY3 := blk_cell HY.out 3
    have cHY4 := blk_cell HY.out 4
    have cHY5 := blk_cell HY.out 5
    have cHY6 := blk_cell HY.out 6
    have cHY7 := blk_cell HY.out 7
    have cHY8 := blk_cell HY.out 8
    have cHT0 := blk_cell HT.out 0
    have cHT1 := blk_cell HT.out 1
    have cHT2 := blk_cell HT.out 2
    simp at cHY0 cHY1 cHY2 cHY3 cHY4 cHY5 cHY6 cHY7 cHY8 cHT0 cHT1 cHT2
    -- the three, joined in two orders
    obtain ⟨⟨P, Q, R, ep⟩, hq2⟩ : ∃ q, joinE [⟨S, D, X⟩, ⟨sc, dc, xc⟩] = q := ⟨_, rfl⟩
    obtain ⟨⟨U, V, Z, eq⟩, hq3⟩ : ∃ q, joinE [⟨st, d, x⟩, ⟨sb, db, xb⟩, ⟨sc, dc, xc⟩] = q := ⟨_, rfl⟩
    have HQ3 := Hd.mk hq3
    have HGR : Hd (ep = 0 → eq = 0 → P = U ∧ Q = V ∧ R = Z) := ⟨fun h1 h2 => by
      subst h1
      subst h2
      exact join_groups HQ.out hq2 hq3⟩
    have hbA : Below w8.heap.size w8 (w8.alloc (.cells #[.slice E0 S.length f0, .slice E1 D.length f1, .slice E2 X.length f2, .slice F0 sc.length h0, .slice F1 dc.length h1, .slice F2 xc.length h2] 28)) := (Below.refl _ _).alloc (Nat.le_refl _) _
    have HJ2 := Hd.mk (join2_m (blk_new w8 (.cells #[.slice E0 S.length f0, .slice E1 D.length f1, .slice E2 X.length f2, .slice F0 sc.length h0, .slice F1 dc.length h1, .slice F2 xc.length h2] 28)) (EdC.below HK.out hbA) (EdC.below HH.out hbA) hq2)
    have HBA := Hd.mk hbA
    clear hbA hq2 hq3
    go_wp2_with fail
    refine (JoinA.run HJ2.out).mono ?_
    rintro e w9 ⟨M0, m0, M1, m1, M2, m2, rfl, hK, hb9⟩
    have HO1 := Hd.mk hK
    clear cHY0 cHY1 cHY2 cHY3 cHY4 cHY5 cHY6 cHY7 cHY8 cHT0 cHT1 cHT2
    replace HB := Hd.mk (below_step HB.out HBA.out)
    replace HE := Hd.mk (HE.out.below HBA.out)
    replace HG := Hd.mk (HG.out.below HBA.out)
    replace HH := Hd.mk (HH.out.below HBA.out)
    replace HO := Hd.mk (Kd.C_below HO.out HBA.out)
    replace HY := Hd.mk (blk_below HY.out HBA.out)
    replace HK := Hd.mk (HK.out.below HBA.out)
    replace HT := Hd.mk (blk_below HT.out HBA.out)
    have cHY0 := blk_cell HY.out 0
    have cHY1 := blk_cell HY.out 1
    have cHY2 := blk_cell HY.out 2
    have cHY3 := blk_cell HY.out 3
    have cHY4 := blk_cell HY.out 4
    have cHY5 := blk_cell HY.out 5
    have cHY6 := blk_cell HY.out 6
    have cHY7 := blk_cell HY.out 7
    have cHY8 := blk_cell HY.out 8
    have cHT0 := blk_cell HT.out 0
    have cHT1 := blk_cell HT.out 1
    have cHT2 := blk_cell HT.out 2
    simp at cHY0 cHY1 cHY2 cHY3 cHY4 cHY5 cHY6 cHY7 cHY8 cHT0 cHT1 cHT2
    clear cHY0 cHY1 cHY2 cHY3 cHY4 cHY5 cHY6 cHY7 cHY8 cHT0 cHT1 cHT2
    replace HB := Hd.mk (below_step HB.out hb9)
    replace HE := Hd.mk (HE.out.below hb9)
    replace HG := Hd.mk (HG.out.below hb9)
    replace HH := Hd.mk (HH.out.below hb9)
    replace HO := Hd.mk (Kd.C_below HO.out hb9)
    replace HY := Hd.mk (blk_below HY.out hb9)
    replace HK := Hd.mk (HK.out.below hb9)
    replace HT := Hd.mk (blk_below HT.out hb9)
    have cHY0 := blk_cell HY.out 0
    have cHY1 := blk_cell HY.out 1
    have cHY2 := blk_cell HY.out 2
    have cHY3 := blk_cell HY.out 3
    have cHY4 := blk_cell HY.out 4
    have cHY5 := blk_cell HY.out 5
    have cHY6 := blk_cell HY.out 6
    have cHY7 := blk_cell HY.out 7
    have cHY8 := blk_cell HY.out 8
    have cHT0 := blk_cell HT.out 0
    have cHT1 := blk_cell HT.out 1
    have cHT2 := blk_cell HT.out 2
    simp at cHY0 cHY1 cHY2 cHY3 cHY4 cHY5 cHY6 cHY7 cHY8 cHT0 cHT1 cHT2
    clear hK hb9 HBA HJ2
    have hbA : Below w9.heap.size w9 (w9.alloc (.cells #[.slice M0 P.length m0, .slice M1 Q.length m1, .slice M2 R.length m2] 28)) := (Below.refl _ _).alloc (Nat.le_refl _) _
    have hnw := blk_new w9 (.cells #[.slice M0 P.length m0, .slice M1 Q.length m1, .slice M2 R.length m2] 28)
    have hbB : Below (w9.alloc (.cells #[.slice M0 P.length m0, .slice M1 Q.length m1, .slice M2 R.length m2] 28)).heap.size (w9.alloc (.cells #[.slice M0 P.length m0, .slice M1 Q.length m1, .slice M2 R.length m2] 28)) ((w9.alloc (.cells #[.slice M0 P.length m0, .slice M1 Q.length m1, .slice M2 R.length m2] 28)).alloc (.cells #[.slice A0 st.length c0, .slice A1 d.length c1, .slice A2 x.length c2, .slice D0 sb.length g0, .slice D1 db.length g1, .slice D2 xb.length g2, .slice F0 sc.length h0, .slice F1 dc.length h1, .slice F2 xc.length h2] 28)) := (Below.refl _ _).alloc (Nat.le_refl _) _
    have hj3 := (join3_m (blk_new (w9.alloc (.cells #[.slice M0 P.length m0, .slice M1 Q.length m1, .slice M2 R.length m2] 28)) (.cells #[.slice A0 st.length c0, .slice A1 d.length c1, .slice A2 x.length c2, .slice D0 sb.length g0, .slice D1 db.length g1, .slice D2 xb.length g2, .slice F0 sc.length h0, .slice F1 dc.length h1, .slice F2 xc.length h2] 28)) (EdC.below (EdC.below HE.out hbA) hbB) (EdC.below (EdC.below HG.out hbA) hbB) (EdC.below (EdC.below HH.out hbA) hbB) HQ3.out)
    rw [World.size_alloc] at hj3
    have HJ3 := Hd.mk hj3
    have HBA := Hd.mk hbA
    have HBB := Hd.mk hbB
    clear hj3
    have HU := Hd.mk (blk_below hnw hbB)
    have hlt1 := blk_lt HY.out
    have hlt2 := blk_lt HT.out
    clear hbA hbB hnw
    go_wp2_with fail
    refine (JoinA.run HJ3.out).mono ?_
    rintro e w10 ⟨N0, n0, N1, n1, N2, n2, rfl, hK, hb10⟩
    have HO2 := Hd.mk hK
    clear cHY0 cHY1 cHY2 cHY3 cHY4 cHY5 cHY6 cHY7 cHY8 cHT0 cHT1 cHT2
    replace HB := Hd.mk (below_step HB.out HBA.out)
    replace HE := Hd.mk (HE.out.below HBA.out)
    replace HG := Hd.mk (HG.out.below HBA.out)
    replace HH := Hd.mk (HH.out.below HBA.out)
    replace HO := Hd.mk (Kd.C_below HO.out HBA.out)
    replace HY := Hd.mk (blk_below HY.out HBA.out)
    replace HK := Hd.mk (HK.out.below HBA.out)
    replace HT := Hd.mk (blk_below HT.out HBA.out)
    replace HO1 := Hd.mk (HO1.out.below HBA.out)
    have cHY0 := blk_cell HY.out 0
    have cHY1 := blk_cell HY.out 1
    have cHY2 := blk_cell HY.out 2
    have cHY3 := blk_cell HY.out 3
    have cHY4 := blk_cell HY.out 4
    have cHY5 := blk_cell HY.out 5
    have cHY6 := blk_cell HY.out 6
    have cHY7 := blk_cell HY.out 7
    have cHY8 := blk_cell HY.out 8
    have cHT0 := blk_cell HT.out 0
    have cHT1 := blk_cell HT.out 1
    have cHT2 := blk_cell HT.out 2
    simp at cHY0 cHY1 cHY2 cHY3 cHY4 cHY5 cHY6 cHY7 cHY8 cHT0 cHT1 cHT2
    clear cHY0 cHY1 cHY2 cHY3 cHY4 cHY5 cHY6 cHY7 cHY8 cHT0 cHT1 cHT2
    replace HB := Hd.mk (below_step HB.out HBB.out)
    replace HE := Hd.mk (HE.out.below HBB.out)
    replace HG := Hd.mk (HG.out.below HBB.out)
    replace HH := Hd.mk (HH.out.below HBB.out)
    replace HO := Hd.mk (Kd.C_below HO.out HBB.out)
    replace HY := Hd.mk (blk_below HY.out HBB.out)
    replace HK := Hd.mk (HK.out.below HBB.out)
    replace HT := Hd.mk (blk_below HT.out HBB.out)
    replace HO1 := Hd.mk (HO1.out.below HBB.out)
    have cHY0 := blk_cell HY.out 0
    have cHY1 := blk_cell HY.out 1
    have cHY2 := blk_cell HY.out 2
    have cHY3 := blk_cell HY.out 3
    have cHY4 := blk_cell HY.out 4
    have cHY5 := blk_cell HY.out 5
    have cHY6 := blk_cell HY.out 6
    have cHY7 := blk_cell HY.out 7
    have cHY8 := blk_cell HY.out 8
    have cHT0 := blk_cell HT.out 0
    have cHT1 := blk_cell HT.out 1
    have cHT2 := blk_cell HT.out 2
    simp at cHY0 cHY1 cHY2 cHY3 cHY4 cHY5 cHY6 cHY7 cHY8 cHT0 cHT1 cHT2
    clear cHY0 cHY1 cHY2 cHY3 cHY4 cHY5 cHY6 cHY7 cHY8 cHT0 cHT1 cHT2
    replace HB := Hd.mk (below_step HB.out hb10)
    replace HE := Hd.mk (HE.out.below hb10)
    replace HG := Hd.mk (HG.out.below hb10)
    replace HH := Hd.mk (HH.out.below hb10)
    replace HO := Hd.mk (Kd.C_below HO.out hb10)
    replace HY := Hd.mk (blk_below HY.out hb10)
    replace HK := Hd.mk (HK.out.below hb10)
    replace HT := Hd.mk (blk_below HT.out hb10)
    replace HO1 := Hd.mk (HO1.out.below hb10)
    replace HU := Hd.mk (blk_below HU.out hb10)
    have cHY0 := blk_cell HY.out 0
    have cHY1 := blk_cell HY.out 1
    have cHY2 := blk_cell HY.out 2
    have cHY3 := blk_cell HY.out 3
    have cHY4 := blk_cell HY.out 4
    have cHY5 := blk_cell HY.out 5
    have cHY6 := blk_cell HY.out 6
    have cHY7 := blk_cell HY.out 7
    have cHY8 := blk_cell HY.out 8
    have cHT0 := blk_cell HT.out 0
    have cHT1 := blk_cell HT.out 1
    have cHT2 := blk_cell HT.out 2
    simp at cHY0 cHY1 cHY2 cHY3 cHY4 cHY5 cHY6 cHY7 cHY8 cHT0 cHT1 cHT2
    clear hK hb10 HBA HBB HJ3 hlt1 hlt2
    clear cHY0 cHY1 cHY2 cHY3 cHY4 cHY5 cHY6 cHY7 cHY8 cHT0 cHT1 cHT2
    have hbA : Below w10.heap.size w10 (w10.alloc (.cells #[.slice N0 U.length n0, .slice N1 V.length n1, .slice N2 Z.length n2] 28)) := (Below.refl _ _).alloc (Nat.le_refl _) _
    have hnw := blk_new w10 (.cells #[.slice N0 U.length n0, .slice N1 V.length n1, .slice N2 Z.length n2] 28)
    have hlt3 := blk_lt HU.out
    have HBX := Hd.mk HB.out
    have HV := Hd.mk hnw
    have HAL : Hd (ep = 0 → eq = 0 → Calls Try.prog 32 #[.agg #[.slice M0 P.length m0, .slice M1 Q.length m1, .slice M2 R.length m2], .agg #[.slice N0 U.length n0, .slice N1 V.length n1, .slice N2 Z.length n2]] (w10.alloc (.cells #[.slice N0 U.length n0, .slice N1 V.length n1, .slice N2 Z.length n2] 28)) fun e w' => e = .returned (.bool true) ∧ Below (w10.alloc (.cells #[.slice N0 U.length n0, .slice N1 V.length n1, .slice N2 Z.length n2] 28)).heap.size (w10.alloc (.cells #[.slice N0 U.length n0, .slice N1 V.length n1, .slice N2 Z.length n2] 28)) w') := ⟨fun h1 h2 => by
      obtain ⟨rfl, rfl, rfl⟩ := HGR.out h1 h2
      exact alikeA_c (HO1.out.below hbA) (HO2.out.below hbA) (by simp [sameE])⟩
    have cU0 := pw_cell_below hbA (blk_cell HU.out 0)
    have cU1 := pw_cell_below hbA (blk_cell HU.out 1)
    have cU2 := pw_cell_below hbA (blk_cell HU.out 2)
    have cV0 := blk_cell HV.out 0
    have cV1 := blk_cell HV.out 1
    have cV2 := blk_cell HV.out 2
    simp at cU0 cU1 cU2 cV0 cV1 cV2
    have HBA := Hd.mk hbA
    clear hbA hnw
    clear HY HT HB HE HG HH HO HK HO1 HO2
    go_upto_region 15 with fail
    clear HU HV hlt3
    go_cut [130] (fun v130 W => v130 = .bool false ∧ Hd (Below w10.heap.size w10 W))
    case first =>
      by_cases hp0 : ep = 0
      · by_cases hq0 : eq = 0
        · have hal := HAL.out hp0 hq0
          obtain ⟨rfl, rfl, rfl⟩ := HGR.out hp0 hq0
          have HA2 := Hd.mk hal
          subst hp0
          subst hq0
          clear hal HAL
          go_wp2_with fail
          refine HA2.out.mono ?_
          rintro e wz ⟨rfl, hbz⟩
          have HBZ := Hd.mk hbz
          clear hbz
          go_wp2_with fail
          go_meet
          case rel => exact ⟨rfl, ⟨below_step HBA.out HBZ.out⟩⟩
        · have hne : (eq == 0) = false := by simpa using hq0
          have H0 := Hd.mk hq0
          subst hp0
          clear hq0
          go_wp2_with fail
          go_meet
          case rel => exact ⟨by simp [hne], HBA⟩
      · have hne : (ep == 0) = false := by simpa using hp0
        have H0 := Hd.mk hp0
        clear hp0
        go_wp2_with fail
        go_meet
        case rel => exact ⟨by simp [hne], HBA⟩
    case rest =>
      obtain ⟨rfl, HBC⟩ := hcut
      obtain ⟨wg, hwg⟩ : ∃ v, v = wc := ⟨_, rfl⟩
      subst hwg
      go_wp2_with fail
      refine (awake_c _).mono ?_
      rintro e wh ⟨rfl, hbh⟩
      have H8 := Hd.mk (below_step (below_step HBX.out HBC.out) hbh)
      clear hbh
      go_wp2
      go_ret
      exact ⟨by simp, H8.out⟩
end Go.Proofs.Ytemlbjpefomboaa
