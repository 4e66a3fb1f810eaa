/- edit: the walk of EditNormal. -/
import Derived.Test.YtemlbjpefomboaaLt
import Derived.Test.YtemlbjpefomboaaCb
namespace Go.Proofs.Ytemlbjpefomboaa
open Go.RowKit Go.Shelf Go.Proofs.YtemlbjpefomboaaW.PrintWords Go.Proofs.YtemlbjpefomboaaW.PrintLast Go.Proofs.YtemlbjpefomboaaW.PrintMore Go.Proofs.Ytemlbjpefomboaa.Pr
attribute [local go_sem] max2_int min2_int max_two min_two
set_option linter.unusedVariables false
set_option linter.unusedSimpArgs false
set_option maxRecDepth 100000 in
set_option maxHeartbeats 8000000 in
theorem walk_editNormal (Ao : Option Addr) (co : Nat) (old : List Int) (A0 : Option Addr) (c0 : Nat) (st : List S80) (A1 : Option Addr) (c1 : Nat) (d : List Int) (A2 : Option Addr) (c2 : Nat) (x : List Int) (w : World)
    (HO : Bys w Ao co old) (H : EdI w A0 c0 st A1 c1 d A2 c2 x ∧ st.length * 24 ≤ 140737488351232 ∧ d.length * 1 ≤ 140737488351232 ∧ x.length * 1 ≤ 140737488351232) :
    Calls Try.prog 13 #[.slice Ao old.length co, .agg #[.slice A0 st.length c0, .slice A1 d.length c1, .slice A2 x.length c2]] w fun e w' => e = .returned (.bool true) ∧ Below w.heap.size w w' := by
  obtain ⟨⟨hE, _, _, _⟩, _, _, _⟩ := H
  obtain ⟨hO, hoc, _⟩ := HO
  have hb0 : Below w.heap.size w (w.alloc (.cells #[.slice A0 st.length c0, .slice A1 d.length c1, .slice A2 x.length c2] 28)) := (Below.refl _ _).alloc (Nat.le_refl _) _
  have HE := Hd.mk (hE.below hb0)
  have HO := Hd.mk (Kd.C_below hO hb0)
  have HOC := Hd.mk hoc
  have HB := Hd.mk hb0
  have HY := Hd.mk (blk_new w (.cells #[.slice A0 st.length c0, .slice A1 d.length c1, .slice A2 x.length c2] 28))
  clear hb0 hE hO hoc
  obtain ⟨⟨S, D, X, er⟩, hq⟩ : ∃ q, normalE st d x = q := ⟨_, rfl⟩
  have HQ := Hd.mk hq
  by_cases h0 : er = 0
  rotate_left
  · have hS := normalE_bad hq h0
    subst hS
    have hne : (er != 0) = true := by simpa using h0
    have H0 := Hd.mk h0
    clear hq h0
    have cHY0 := blk_cell HY.out 0
    have cHY1 := blk_cell HY.out 1
    have cHY2 := blk_cell HY.out 2
    simp at cHY0 cHY1 cHY2
    go_enter Try.func13, Try.ntmps13
    go_wp2_with fail
    refine (normal_m HE.out HQ.out).mono ?_
    rintro e w1 ⟨E0, f0, E1, f1, E2, f2, rfl, hK, hb1⟩
    clear cHY0 cHY1 cHY2
    replace HB := Hd.mk (below_step HB.out hb1)
    replace HE := Hd.mk (HE.out.below hb1)
    replace HO := Hd.mk (Kd.C_below HO.out hb1)
    replace HY := Hd.mk (blk_below HY.out hb1)
    have cHY0 := blk_cell HY.out 0
    have cHY1 := blk_cell HY.out 1
    have cHY2 := blk_cell HY.out 2
    simp at cHY0 cHY1 cHY2
    clear hK hb1
    have hbA : Below w1.heap.size w1 (w1.alloc (.cells #[.slice E0 ([] : List S80).length f0, .slice E1 D.length f1, .slice E2 X.length f2] 28)) := (Below.refl _ _).alloc (Nat.le_refl _) _
    have HBA := Hd.mk (below_step HB.out hbA)
    clear hbA
    go_wp2_with fail
    refine (awake_c _).mono ?_
    rintro e w3 ⟨rfl, hb3⟩
    have H3 := Hd.mk (below_step HBA.out hb3)
    clear hb3
    go_wp2
    go_ret
    exact ⟨by simp, H3.out⟩
  subst h0
  obtain ⟨hok, hno⟩ := normalE_ok hq
  obtain ⟨ho, hi2, hi1, hm, hnn, hap⟩ := norm_same hok hno
  obtain ⟨hs1, hs2⟩ := norm_steps hok hno
  have hst := (ited_all hok).1
  have hlS : S.length ≤ 16777217 := by have := normOf_st (L := og st d x 0) (og_fit hok); rw [hno] at this; exact this
  obtain ⟨r, hr⟩ : ∃ r, applied old st d x = r := ⟨_, rfl⟩
  obtain ⟨ea, hea⟩ : ∃ r, appliedE old st d x = r := ⟨_, rfl⟩
  have HN2 := Hd.mk (normalE_mk hi2 hnn)
  have HR := Hd.mk (And.intro hr (And.intro hea (And.intro ((hap old).2.trans hr) ((hap old).1.trans hea))))
  have HM := Hd.mk (And.intro hm (show Mid (og S D X 0) by rw [ho]; exact hm))
  have HS1 := Hd.mk (And.intro hst (And.intro hs1 hlS))
  have hle : decide ((S.length : Int) ≤ (st.length : Int)) = true := decide_eq_true (by omega)
  have hle2 : decide ((S.length : Int) ≤ if (st.length : Int) < 0 then 0 else (st.length : Int)) = true := decide_eq_true (by rw [if_neg (by omega)]; omega)
  have hnl : ((st.length : Int) < 0) = False := eq_false (by omega)
  have HLE := Hd.mk hs2
  have HSM := Hd.mk (show sameE S D X S D X = true by simp [sameE])
  clear hq hok hno ho hi2 hi1 hm hnn hap hs1 hs2 hst hlS hr hea
  have cHY0 := blk_cell HY.out 0
  have cHY1 := blk_cell HY.out 1
  have cHY2 := blk_cell HY.out 2
  simp at cHY0 cHY1 cHY2
  go_enter Try.func13, Try.ntmps13
  go_wp2_with fail
  refine (normal_m HE.out HQ.out).mono ?_
  rintro e w1 ⟨E0, f0, E1, f1, E2, f2, rfl, hK, hb1⟩
  have HK := Hd.mk hK
  clear cHY0 cHY1 cHY2
  replace HB := Hd.mk (below_step HB.out hb1)
  replace HE := Hd.mk (HE.out.below hb1)
  replace HO := Hd.mk (Kd.C_below HO.out hb1)
  replace HY := Hd.mk (blk_below HY.out hb1)
  have cHY0 := blk_cell HY.out 0
  have cHY1 := blk_cell HY.out 1
  have cHY2 := blk_cell HY.out 2
  simp at cHY0 cHY1 cHY2
  clear hK hb1
  have hbA : Below w1.heap.size w1 (w1.alloc (.cells #[.slice E0 S.length f0, .slice E1 D.length f1, .slice E2 X.length f2] 28)) := (Below.refl _ _).alloc (Nat.le_refl _) _
  have hlt1 := blk_lt HY.out
  go_wp2_with fail
  clear cHY0 cHY1 cHY2
  replace HB := Hd.mk (below_step HB.out hbA)
  replace HE := Hd.mk (HE.out.below hbA)
  replace HO := Hd.mk (Kd.C_below HO.out hbA)
  replace HY := Hd.mk (blk_below HY.out hbA)
  replace HK := Hd.mk (HK.out.below hbA)
  have cHY0 := blk_cell HY.out 0
  have cHY1 := blk_cell HY.out 1
  have cHY2 := blk_cell HY.out 2
  simp at cHY0 cHY1 cHY2
  have HT := Hd.mk (blk_new w1 (.cells #[.slice E0 S.length f0, .slice E1 D.length f1, .slice E2 X.length f2] 28))
  clear hbA hlt1
  have cHT0 := blk_cell HT.out 0
  have cHT1 := blk_cell HT.out 1
  have cHT2 := blk_cell HT.out 2
  simp at cHT0 cHT1 cHT2
  refine (normal_m HK.out HN2.out).mono ?_
  rintro e w2 ⟨G0, p0, G1, p1, G2, p2, rfl, hP, hb2⟩
  have HP := Hd.mk hP
  clear cHY0 cHY1 cHY2 cHT0 cHT1 cHT2
  replace HB := Hd.mk (below_step HB.out hb2)
  replace HE := Hd.mk (HE.out.below hb2)
  replace HO := Hd.mk (Kd.C_below HO.out hb2)
  replace HY := Hd.mk (blk_below HY.out hb2)
  replace HK := Hd.mk (HK.out.below hb2)
  replace HT := Hd.mk (blk_below HT.out hb2)
  have cHY0 := blk_cell HY.out 0
  have cHY1 := blk_cell HY.out 1
  have cHY2 := blk_cell HY.out 2
  have cHT0 := blk_cell HT.out 0
  have cHT1 := blk_cell HT.out 1
  have cHT2 := blk_cell HT.out 2
  simp at cHY0 cHY1 cHY2 cHT0 cHT1 cHT2
  clear hP hb2
  have hbA : Below w2.heap.size w2 (w2.alloc (.cells #[.slice G0 S.length p0, .slice G1 D.length p1, .slice G2 X.length p2] 28)) := (Below.refl _ _).alloc (Nat.le_refl _) _
  have hlt1 := blk_lt HY.out
  have hlt2 := blk_lt HT.out
  go_wp2_with fail
  clear cHY0 cHY1 cHY2 cHT0 cHT1 cHT2
  replace HB := Hd.mk (below_step HB.out hbA)
  replace HE := Hd.mk (HE.out.below hbA)
  replace HO := Hd.mk (Kd.C_below HO.out hbA)
  replace HY := Hd.mk (blk_below HY.out hbA)
  replace HK := Hd.mk (HK.out.below hbA)
  replace HT := Hd.mk (blk_below HT.out hbA)
  replace HP := Hd.mk (HP.out.below hbA)
  have cHY0 := blk_cell HY.out 0
  have cHY1 := blk_cell HY.out 1
  have cHY2 := blk_cell HY.out 2
  have cHT0 := blk_cell HT.out 0
  have cHT1 := blk_cell HT.out 1
  have cHT2 := blk_cell HT.out 2
  simp at cHY0 cHY1 cHY2 cHT0 cHT1 cHT2
  have HU := Hd.mk (blk_new w2 (.cells #[.slice G0 S.length p0, .slice G1 D.length p1, .slice G2 X.length p2] 28))
  clear hbA hlt1 hlt2
  have cHU0 := blk_cell HU.out 0
  have cHU1 := blk_cell HU.out 1
  have cHU2 := blk_cell HU.out 2
  simp at cHU0 cHU1 cHU2
  refine (apply_m HO.out HOC.out HE.out HM.out.1 HR.out.1 HR.out.2.1).mono ?_
  rintro e w3 ⟨F0, g0, rfl, hr, hrc, hb3⟩
  have HF := Hd.mk hr
  have HFC := Hd.mk hrc
  clear cHY0 cHY1 cHY2 cHT0 cHT1 cHT2 cHU0 cHU1 cHU2
  replace HB := Hd.mk (below_step HB.out hb3)
  replace HE := Hd.mk (HE.out.below hb3)
  replace HO := Hd.mk (Kd.C_below HO.out hb3)
  replace HY := Hd.mk (blk_below HY.out hb3)
  replace HK := Hd.mk (HK.out.below hb3)
  replace HT := Hd.mk (blk_below HT.out hb3)
  replace HP := Hd.mk (HP.out.below hb3)
  replace HU := Hd.mk (blk_below HU.out hb3)
  have cHY0 := blk_cell HY.out 0
  have cHY1 := blk_cell HY.out 1
  have cHY2 := blk_cell HY.out 2
  have cHT0 := blk_cell HT.out 0
  have cHT1 := blk_cell HT.out 1
  have cHT2 := blk_cell HT.out 2
  have cHU0 := blk_cell HU.out 0
  have cHU1 := blk_cell HU.out 1
  have cHU2 := blk_cell HU.out 2
  simp at cHY0 cHY1 cHY2 cHT0 cHT1 cHT2 cHU0 cHU1 cHU2
  clear hb3 hr hrc
  go_wp2_with fail
  refine (apply_m HO.out HOC.out HK.out HM.out.2 HR.out.2.2.1 HR.out.2.2.2).mono ?_
  rintro e w4 ⟨M0, m0, rfl, hr, hrc, hb4⟩
  have HG := Hd.mk hr
  have HGC := Hd.mk hrc
  clear cHY0 cHY1 cHY2 cHT0 cHT1 cHT2 cHU0 cHU1 cHU2
  replace HB := Hd.mk (below_step HB.out hb4)
  replace HE := Hd.mk (HE.out.below hb4)
  replace HO := Hd.mk (Kd.C_below HO.out hb4)
  replace HY := Hd.mk (blk_below HY.out hb4)
  replace HK := Hd.mk (HK.out.below hb4)
  replace HT := Hd.mk (blk_below HT.out hb4)
  replace HP := Hd.mk (HP.out.below hb4)
  replace HU := Hd.mk (blk_below HU.out hb4)
  replace HF := Hd.mk (Kd.C_below HF.out hb4)
  have cHY0 := blk_cell HY.out 0
  have cHY1 := blk_cell HY.out 1
  have cHY2 := blk_cell HY.out 2
  have cHT0 := blk_cell HT.out 0
  have cHT1 := blk_cell HT.out 1
  have cHT2 := blk_cell HT.out 2
  have cHU0 := blk_cell HU.out 0
  have cHU1 := blk_cell HU.out 1
  have cHU2 := blk_cell HU.out 2
  simp at cHY0 cHY1 cHY2 cHT0 cHT1 cHT2 cHU0 cHU1 cHU2
  clear hb4 hr hrc
  obtain ⟨b1, hb1⟩ : ∃ b, w1.heap.size = b := ⟨_, rfl⟩
  obtain ⟨b2, hb2⟩ : ∃ b, w2.heap.size = b := ⟨_, rfl⟩
  clear cHY0 cHY1 cHY2 cHT0 cHT1 cHT2 cHU0 cHU1 cHU2
  rw [hb1] at HT ⊢
  rw [hb2] at HU ⊢
  clear hb1 hb2
  go_wp2_with fail
  have cHY0 := blk_cell HY.out 0
  have cHY1 := blk_cell HY.out 1
  have cHY2 := blk_cell HY.out 2
  have cHT0 := blk_cell HT.out 0
  have cHT1 := blk_cell HT.out 1
  have cHT2 := blk_cell HT.out 2
  have cHU0 := blk_cell HU.out 0
  have cHU1 := blk_cell HU.out 1
  have cHU2 := blk_cell HU.out 2
  simp at cHY0 cHY1 cHY2 cHT0 cHT1 cHT2 cHU0 cHU1 cHU2
  clear cHY0 cHY1 cHY2 cHT0 cHT1 cHT2 cHU0 cHU1 cHU2
  replace HB := Hd.mk (below_step HB.out (Below.drew' w4))
  replace HE := Hd.mk (HE.out.below (Below.drew' w4))
  replace HO := Hd.mk (Kd.C_below HO.out (Below.drew' w4))
  replace HY := Hd.mk (blk_below HY.out (Below.drew' w4))
  replace HK := Hd.mk (HK.out.below (Below.drew' w4))
  replace HP := Hd.mk (HP.out.below (Below.drew' w4))
  replace HF := Hd.mk (Kd.C_below HF.out (Below.drew' w4))
  replace HG := Hd.mk (Kd.C_below HG.out (Below.drew' w4))
  replace HT := Hd.mk (blk_below HT.out (Below.drew' w4))
  replace HU := Hd.mk (blk_below HU.out (Below.drew' w4))
  have cHY0 := blk_cell HY.out 0
  have cHY1 := blk_cell HY.out 1
  have cHY2 := blk_cell HY.out 2
  have cHT0 := blk_cell HT.out 0
  have cHT1 := blk_cell HT.out 1
  have cHT2 := blk_cell HT.out 2
  have cHU0 := blk_cell HU.out 0
  have cHU1 := blk_cell HU.out 1
  have cHU2 := blk_cell HU.out 2
  simp at cHY0 cHY1 cHY2 cHT0 cHT1 cHT2 cHU0 cHU1 cHU2
  refine start_ (n := 39) (S := fun w' => w'.cell? ⟨w.heap.size, 0, none⟩ = some (.slice A0 st.length c0) ∧ w'.cell? ⟨w.heap.size, 1, none⟩ = some (.slice A1 d.length c1) ∧ w'.cell? ⟨w.heap.size, 2, none⟩ = some (.slice A2 x.length c2) ∧ w'.cell? ⟨b1, 0, none⟩ = some (.slice E0 S.length f0) ∧ w'.cell? ⟨b1, 1, none⟩ = some (.slice E1 D.length f1) ∧ w'.cell? ⟨b1, 2, none⟩ = some (.slice E2 X.length f2) ∧ w'.cell? ⟨b2, 0, none⟩ = some (.slice G0 S.length p0) ∧ w'.cell? ⟨b2, 1, none⟩ = some (.slice G1 D.length p1) ∧ w'.cell? ⟨b2, 2, none⟩ = some (.slice G2 X.length p2)) (ds := []) #[F,F,F,F,F,F,F,F,F,F,F,F,F,F,F,F,F,F,F,F,F,F,F,F,F,F,F,F,F,F,F,F,F,F,F,F,F,F,F] (by kernel_rfl) rfl rfl ⟨cHY0, cHY1, cHY2, cHT0, cHT1, cHT2, cHU0, cHU1, cHU2⟩ (fun hHeld => ?_)
  refine pure_ (i := 0) (N := some 44) (v := ?_) (a' := ?_) #[T,F,F,F,F,F,F,F,F,F,F,F,F,F,F,F,F,F,F,F,F,F,F,F,F,F,F,F,F,F,F,F,F,F,F,F,F,F,F] rfl rfl (by kernel_rfl) (fun _ _ _ h => h) (Or.inl ⟨by rfl, ?_⟩) ?_ ?_
  rotate_left
  · intro w'
    go_simp
    with_reducible rfl
  rotate_left
  · go_simp
    rfl
  refine pure_ (i := 1) (N := some 45) (v := ?_) (a' := ?_) #[T,T,F,F,F,F,F,F,F,F,F,F,F,F,F,F,F,F,F,F,F,F,F,F,F,F,F,F,F,F,F,F,F,F,F,F,F,F,F] rfl rfl (by kernel_rfl) (fun _ _ _ h => h) (Or.inl ⟨by rfl, ?_⟩) ?_ ?_
  rotate_left
  · intro w'
    go_simp
    with_reducible rfl
  rotate_left
  · go_simp
    rfl
  refine pure_ (i := 2) (N := some 46) (v := ?_) (a' := ?_) #[T,T,T,F,F,F,F,F,F,F,F,F,F,F,F,F,F,F,F,F,F,F,F,F,F,F,F,F,F,F,F,F,F,F,F,F,F,F,F] rfl rfl (by kernel_rfl) (fun _ _ _ h => h) (Or.inl ⟨by rfl, ?_⟩) ?_ ?_
  rotate_left
  · intro w'
    go_simp
    with_reducible rfl
  rotate_left
  · go_simp
    rfl
  refine take_ (i := 3) (N := some 47) (v := ?_) (a' := ?_) #[T,T,T,T,F,F,F,F,F,F,F,F,F,F,F,F,F,F,F,F,F,F,F,F,F,F,F,F,F,F,F,F,F,F,F,F,F,F,F] rfl rfl (by kernel_rfl) (fun _ _ _ h => h) (Or.inl ⟨by rfl, ?_⟩) hHeld ?_ ?_
  rotate_left
  · rintro w' ⟨s0, s1, s2, s3, s4, s5, s6, s7, s8⟩
    go_simp
    with_reducible rfl
  rotate_left
  · go_simp
    rfl
  refine take_ (i := 4) (N := some 48) (v := ?_) (a' := ?_) #[T,T,T,T,T,F,F,F,F,F,F,F,F,F,F,F,F,F,F,F,F,F,F,F,F,F,F,F,F,F,F,F,F,F,F,F,F,F,F] rfl rfl (by kernel_rfl) (fun _ _ _ h => h) (Or.inl ⟨by rfl, ?_⟩) hHeld ?_ ?_
  rotate_left
  · rintro w' ⟨s0, s1, s2, s3, s4, s5, s6, s7, s8⟩
    go_simp
    with_reducible rfl
  rotate_left
  · go_simp
    rfl
  refine one_ (i := 5) (N := some 49) #[T,T,T,T,T,T,F,F,F,F,F,F,F,F,F,F,F,F,F,F,F,F,F,F,F,F,F,F,F,F,F,F,F,F,F,F,F,F,F] rfl rfl (by kernel_rfl) (by decide) (fun K hK => ?_)
  refine goes_ Try.func32 (by kernel_rfl) rfl #[.agg #[.slice E0 S.length f0, .slice E1 D.length f1, .slice E2 X.length f2], .agg #[.slice G0 S.length p0, .slice G1 D.length p1, .slice G2 X.length p2]] (by rfl) rfl rfl (by simp only [List.map_toArray, List.map_cons, List.map_nil]; rfl) ?_
  with_reducible refine (alikeA_c HK.out HP.out HSM.out).mono ?_
  rintro e w5 ⟨rfl, hb5⟩
  refine ⟨_, rfl, ?_⟩
  clear cHY0 cHY1 cHY2 cHT0 cHT1 cHT2 cHU0 cHU1 cHU2
  replace HB := Hd.mk (below_step HB.out hb5)
  replace HE := Hd.mk (HE.out.below hb5)
  replace HO := Hd.mk (Kd.C_below HO.out hb5)
  replace HY := Hd.mk (blk_below HY.out hb5)
  replace HK := Hd.mk (HK.out.below hb5)
  replace HP := Hd.mk (HP.out.below hb5)
  replace HF := Hd.mk (Kd.C_below HF.out hb5)
  replace HG := Hd.mk (Kd.C_below HG.out hb5)
  replace HT := Hd.mk (blk_below HT.out hb5)
  replace HU := Hd.mk (blk_below HU.out hb5)
  have cHY0 := blk_cell HY.out 0
  have cHY1 := blk_cell HY.out 1
  have cHY2 := blk_cell HY.out 2
  have cHT0 := blk_cell HT.out 0
  have cHT1 := blk_cell HT.out 1
  have cHT2 := blk_cell HT.out 2
  have cHU0 := blk_cell HU.out 0
  have cHU1 := blk_cell HU.out 1
  have cHU2 := blk_cell HU.out 2
  simp at cHY0 cHY1 cHY2 cHT0 cHT1 cHT2 cHU0 cHU1 cHU2
  clear hb5
  refine hK.out _ _ ⟨cHY0, cHY1, cHY2, cHT0, cHT1, cHT2, cHU0, cHU1, cHU2⟩ (fun hHeld => ?_)
  clear hK K
  refine norm_ (a' := ?_) ?_ ?_
  rotate_left
  · show Act.put _ (some 49) _ = _
    go_simp
    rfl
  refine pure_ (i := 6) (N := some 50) (v := ?_) (a' := ?_) #[T,T,T,T,T,T,T,F,F,F,F,F,F,F,F,F,F,F,F,F,F,F,F,F,F,F,F,F,F,F,F,F,F,F,F,F,F,F,F] rfl rfl (by kernel_rfl) (fun _ _ _ h => h) (Or.inl ⟨by rfl, ?_⟩) ?_ ?_
  rotate_left
  · intro w'
    go_simp
    with_reducible rfl
  rotate_left
  · go_simp
    rfl
  refine pure_ (i := 7) (N := some 51) (v := ?_) (a' := ?_) #[T,T,T,T,T,T,T,T,F,F,F,F,F,F,F,F,F,F,F,F,F,F,F,F,F,F,F,F,F,F,F,F,F,F,F,F,F,F,F] rfl rfl (by kernel_rfl) (fun _ _ _ h => h) (Or.inl ⟨by rfl, ?_⟩) ?_ ?_
  rotate_left
  · intro w'
    go_simp
    with_reducible rfl
  rotate_left
  · go_simp
    rfl
  refine pure_ (i := 8) (N := some 52) (v := ?_) (a' := ?_) #[T,T,T,T,T,T,T,T,T,F,F,F,F,F,F,F,F,F,F,F,F,F,F,F,F,F,F,F,F,F,F,F,F,F,F,F,F,F,F] rfl rfl (by kernel_rfl) (fun _ _ _ h => h) (Or.inl ⟨by rfl, ?_⟩) ?_ ?_
  rotate_left
  · intro w'
    go_simp
    with_reducible rfl
  rotate_left
  · go_simp
    rfl
  refine pure_ (i := 9) (N := some 53) (v := ?_) (a' := ?_) #[T,T,T,T,T,T,T,T,T,T,F,F,F,F,F,F,F,F,F,F,F,F,F,F,F,F,F,F,F,F,F,F,F,F,F,F,F,F,F] rfl rfl (by kernel_rfl) (fun _ _ _ h => h) (Or.inl ⟨by rfl, ?_⟩) ?_ ?_
  rotate_left
  · intro w'
    go_simp
    with_reducible rfl
  rotate_left
  · go_simp
    rfl
  refine pure_ (i := 10) (N := some 54) (v := ?_) (a' := ?_) #[T,T,T,T,T,T,T,T,T,T,T,F,F,F,F,F,F,F,F,F,F,F,F,F,F,F,F,F,F,F,F,F,F,F,F,F,F,F,F] rfl rfl (by kernel_rfl) (fun _ _ _ h => h) (Or.inl ⟨by rfl, ?_⟩) ?_ ?_
  rotate_left
  · intro w'
    go_simp
    with_reducible rfl
  rotate_left
  · go_simp
    rfl
  refine pure_ (i := 11) (N := some 55) (v := ?_) (a' := ?_) #[T,T,T,T,T,T,T,T,T,T,T,T,F,F,F,F,F,F,F,F,F,F,F,F,F,F,F,F,F,F,F,F,F,F,F,F,F,F,F] rfl rfl (by kernel_rfl) (fun _ _ _ h => h) (Or.inl ⟨by rfl, ?_⟩) ?_ ?_
  rotate_left
  · intro w'
    go_simp
    with_reducible rfl
  rotate_left
  · go_simp
    rfl
  refine pure_ (i := 12) (N := some 56) (v := ?_) (a' := ?_) #[T,T,T,T,T,T,T,T,T,T,T,T,T,F,F,F,F,F,F,F,F,F,F,F,F,F,F,F,F,F,F,F,F,F,F,F,F,F,F] rfl rfl (by kernel_rfl) (fun _ _ _ h => h) (Or.inl ⟨by rfl, ?_⟩) ?_ ?_
  rotate_left
  · intro w'
    go_simp
    with_reducible rfl
  rotate_left
  · go_simp
    rfl
  refine pure_ (i := 13) (N := some 57) (v := ?_) (a' := ?_) #[T,T,T,T,T,T,T,T,T,T,T,T,T,T,F,F,F,F,F,F,F,F,F,F,F,F,F,F,F,F,F,F,F,F,F,F,F,F,F] rfl rfl (by kernel_rfl) (fun _ _ _ h => h) (Or.inl ⟨by rfl, ?_⟩) ?_ ?_
  rotate_left
  · intro w'
    go_simp
    with_reducible rfl
  rotate_left
  · go_simp
    rfl
  refine pure_ (i := 14) (N := some 58) (v := ?_) (a' := ?_) #[T,T,T,T,T,T,T,T,T,T,T,T,T,T,T,F,F,F,F,F,F,F,F,F,F,F,F,F,F,F,F,F,F,F,F,F,F,F,F] rfl rfl (by kernel_rfl) (fun _ _ _ h => h) (Or.inl ⟨by rfl, ?_⟩) ?_ ?_
  rotate_left
  · intro w'
    go_simp
    with_reducible rfl
  rotate_left
  · go_simp
    rfl
  refine one_ (i := 15) (N := some 59) #[T,T,T,T,T,T,T,T,T,T,T,T,T,T,T,T,F,F,F,F,F,F,F,F,F,F,F,F,F,F,F,F,F,F,F,F,F,F,F] rfl rfl (by kernel_rfl) (by decide) (fun K hK => ?_)
  refine goes_ Try.func26 (by kernel_rfl) rfl #[.slice F0 r.length g0, .slice M0 r.length m0] (by rfl) rfl rfl (by simp only [List.map_toArray, List.map_cons, List.map_nil]; rfl) ?_
  with_reducible refine (same_cm HF.out HFC.out HG.out HGC.out).mono ?_
  rintro e w6 ⟨rfl, hb6⟩
  refine ⟨_, rfl, ?_⟩
  clear cHY0 cHY1 cHY2 cHT0 cHT1 cHT2 cHU0 cHU1 cHU2
  replace HB := Hd.mk (below_step HB.out hb6)
  replace HE := Hd.mk (HE.out.below hb6)
  replace HO := Hd.mk (Kd.C_below HO.out hb6)
  replace HY := Hd.mk (blk_below HY.out hb6)
  replace HK := Hd.mk (HK.out.below hb6)
  replace HP := Hd.mk (HP.out.below hb6)
  replace HF := Hd.mk (Kd.C_below HF.out hb6)
  replace HG := Hd.mk (Kd.C_below HG.out hb6)
  replace HT := Hd.mk (blk_below HT.out hb6)
  replace HU := Hd.mk (blk_below HU.out hb6)
  have cHY0 := blk_cell HY.out 0
  have cHY1 := blk_cell HY.out 1
  have cHY2 := blk_cell HY.out 2
  have cHT0 := blk_cell HT.out 0
  have cHT1 := blk_cell HT.out 1
  have cHT2 := blk_cell HT.out 2
  have cHU0 := blk_cell HU.out 0
  have cHU1 := blk_cell HU.out 1
  have cHU2 := blk_cell HU.out 2
  simp at cHY0 cHY1 cHY2 cHT0 cHT1 cHT2 cHU0 cHU1 cHU2
  clear hb6
  refine hK.out _ _ ⟨cHY0, cHY1, cHY2, cHT0, cHT1, cHT2, cHU0, cHU1, cHU2⟩ (fun hHeld => ?_)
  clear hK K
  refine norm_ (a' := ?_) ?_ ?_
  rotate_left
  · show Act.put _ (some 59) _ = _
    go_simp
    rfl
  refine pure_ (i := 16) (N := some 60) (v := ?_) (a' := ?_) #[T,T,T,T,T,T,T,T,T,T,T,T,T,T,T,T,T,F,F,F,F,F,F,F,F,F,F,F,F,F,F,F,F,F,F,F,F,F,F] rfl rfl (by kernel_rfl) (fun _ _ _ h => h) (Or.inl ⟨by rfl, ?_⟩) ?_ ?_
  rotate_left
  · intro w'
    go_simp
    with_reducible rfl
  rotate_left
  · go_simp
    rfl
  refine pure_ (i := 17) (N := some 61) (v := ?_) (a' := ?_) #[T,T,T,T,T,T,T,T,T,T,T,T,T,T,T,T,T,T,F,F,F,F,F,F,F,F,F,F,F,F,F,F,F,F,F,F,F,F,F] rfl rfl (by kernel_rfl) (fun _ _ _ h => h) (Or.inl ⟨by rfl, ?_⟩) ?_ ?_
  rotate_left
  · intro w'
    go_simp
    with_reducible rfl
  rotate_left
  · go_simp
    rfl
  refine pure_ (i := 18) (N := some 62) (v := ?_) (a' := ?_) #[T,T,T,T,T,T,T,T,T,T,T,T,T,T,T,T,T,T,T,F,F,F,F,F,F,F,F,F,F,F,F,F,F,F,F,F,F,F,F] rfl rfl (by kernel_rfl) (fun _ _ _ h => h) (Or.inl ⟨by rfl, ?_⟩) ?_ ?_
  rotate_left
  · intro w'
    go_simp
    with_reducible rfl
  rotate_left
  · go_simp
    rfl
  refine take_ (i := 19) (N := some 63) (v := ?_) (a' := ?_) #[T,T,T,T,T,T,T,T,T,T,T,T,T,T,T,T,T,T,T,T,F,F,F,F,F,F,F,F,F,F,F,F,F,F,F,F,F,F,F] rfl rfl (by kernel_rfl) (fun _ _ _ h => h) (Or.inl ⟨by rfl, ?_⟩) hHeld ?_ ?_
  rotate_left
  · rintro w' ⟨s0, s1, s2, s3, s4, s5, s6, s7, s8⟩
    go_simp
    with_reducible rfl
  rotate_left
  · go_simp
    rfl
  refine pure_ (i := 20) (N := some 64) (v := ?_) (a' := ?_) #[T,T,T,T,T,T,T,T,T,T,T,T,T,T,T,T,T,T,T,T,T,F,F,F,F,F,F,F,F,F,F,F,F,F,F,F,F,F,F] rfl rfl (by kernel_rfl) (fun _ _ _ h => h) (Or.inl ⟨by rfl, ?_⟩) ?_ ?_
  rotate_left
  · intro w'
    go_simp
    with_reducible rfl
  rotate_left
  · go_simp
    rfl
  refine take_ (i := 21) (N := some 65) (v := ?_) (a' := ?_) #[T,T,T,T,T,T,T,T,T,T,T,T,T,T,T,T,T,T,T,T,T,T,F,F,F,F,F,F,F,F,F,F,F,F,F,F,F,F,F] rfl rfl (by kernel_rfl) (fun _ _ _ h => h) (Or.inl ⟨by rfl, ?_⟩) hHeld ?_ ?_
  rotate_left
  · rintro w' ⟨s0, s1, s2, s3, s4, s5, s6, s7, s8⟩
    go_simp
    with_reducible rfl
  rotate_left
  · go_simp
    rfl
  refine one_ (i := 22) (N := some 66) #[T,T,T,T,T,T,T,T,T,T,T,T,T,T,T,T,T,T,T,T,T,T,T,F,F,F,F,F,F,F,F,F,F,F,F,F,F,F,F] rfl rfl (by kernel_rfl) (by decide) (fun K hK => ?_)
  refine goes_ Try.func43 (by kernel_rfl) rfl #[.agg #[.slice A0 st.length c0, .slice A1 d.length c1, .slice A2 x.length c2]] (by rfl) rfl rfl (by simp only [List.map_toArray, List.map_cons, List.map_nil]; rfl) ?_
  with_reducible refine (bounds_m HE.out HS1.out.1 HS1.out.2.1 HS1.out.2.2).mono ?_
  rintro e w7 ⟨rfl, hb7⟩
  refine ⟨_, rfl, ?_⟩
  clear cHY0 cHY1 cHY2 cHT0 cHT1 cHT2 cHU0 cHU1 cHU2
  replace HB := Hd.mk (below_step HB.out hb7)
  replace HE := Hd.mk (HE.out.below hb7)
  replace HO := Hd.mk (Kd.C_below HO.out hb7)
  replace HY := Hd.mk (blk_below HY.out hb7)
  replace HK := Hd.mk (HK.out.below hb7)
  replace HP := Hd.mk (HP.out.below hb7)
  replace HF := Hd.mk (Kd.C_below HF.out hb7)
  replace HG := Hd.mk (Kd.C_below HG.out hb7)
  replace HT := Hd.mk (blk_below HT.out hb7)
  replace HU := Hd.mk (blk_below HU.out hb7)
  have cHY0 := blk_cell HY.out 0
  have cHY1 := blk_cell HY.out 1
  have cHY2 := blk_cell HY.out 2
  have cHT0 := blk_cell HT.out 0
  have cHT1 := blk_cell HT.out 1
  have cHT2 := blk_cell HT.out 2
  have cHU0 := blk_cell HU.out 0
  have cHU1 := blk_cell HU.out 1
  have cHU2 := blk_cell HU.out 2
  simp at cHY0 cHY1 cHY2 cHT0 cHT1 cHT2 cHU0 cHU1 cHU2
  clear hb7
  refine hK.out _ _ ⟨cHY0, cHY1, cHY2, cHT0, cHT1, cHT2, cHU0, cHU1, cHU2⟩ (fun hHeld => ?_)
  clear hK K
  refine norm_ (a' := ?_) ?_ ?_
  rotate_left
  · show Act.put _ (some 66) _ = _
    go_simp
    rfl
  refine pure_ (i := 23) (N := some 67) (v := ?_) (a' := ?_) #[T,T,T,T,T,T,T,T,T,T,T,T,T,T,T,T,T,T,T,T,T,T,T,T,F,F,F,F,F,F,F,F,F,F,F,F,F,F,F] rfl rfl (by kernel_rfl) (fun _ _ _ h => h) (Or.inl ⟨by rfl, ?_⟩) ?_ ?_
  rotate_left
  · intro w'
    go_simp
    with_reducible rfl
  rotate_left
  · go_simp
    rfl
  refine pure_ (i := 24) (N := some 68) (v := ?_) (a' := ?_) #[T,T,T,T,T,T,T,T,T,T,T,T,T,T,T,T,T,T,T,T,T,T,T,T,T,F,F,F,F,F,F,F,F,F,F,F,F,F,F] rfl rfl (by kernel_rfl) (fun _ _ _ h => h) (Or.inl ⟨by rfl, ?_⟩) ?_ ?_
  rotate_left
  · intro w'
    go_simp
    with_reducible rfl
  rotate_left
  · go_simp
    rfl
  refine pure_ (i := 25) (N := some 69) (v := ?_) (a' := ?_) #[T,T,T,T,T,T,T,T,T,T,T,T,T,T,T,T,T,T,T,T,T,T,T,T,T,T,F,F,F,F,F,F,F,F,F,F,F,F,F] rfl rfl (by kernel_rfl) (fun _ _ _ h => h) (Or.inl ⟨by rfl, ?_⟩) ?_ ?_
  rotate_left
  · intro w'
    go_simp
    with_reducible rfl
  rotate_left
  · go_simp
    rfl
  refine pure_ (i := 26) (N := some 70) (v := ?_) (a' := ?_) #[T,T,T,T,T,T,T,T,T,T,T,T,T,T,T,T,T,T,T,T,T,T,T,T,T,T,T,F,F,F,F,F,F,F,F,F,F,F,F] rfl rfl (by kernel_rfl) (fun _ _ _ h => h) (Or.inl ⟨by rfl, ?_⟩) ?_ ?_
  rotate_left
  · intro w'
    go_simp
    with_reducible rfl
  rotate_left
  · go_simp
    rfl
  refine pure_ (i := 29) (N := some 73) (v := ?_) (a' := ?_) #[T,T,T,T,T,T,T,T,T,T,T,T,T,T,T,T,T,T,T,T,T,T,T,T,T,T,T,F,F,T,F,F,F,F,F,F,F,F,F] rfl rfl (by kernel_rfl) (fun _ _ _ h => h) (Or.inl ⟨by rfl, ?_⟩) ?_ ?_
  rotate_left
  · intro w'
    go_simp
    with_reducible rfl
  rotate_left
  · go_simp
    rfl
  refine take_ (i := 27) (N := some 71) (v := ?_) (a' := ?_) #[T,T,T,T,T,T,T,T,T,T,T,T,T,T,T,T,T,T,T,T,T,T,T,T,T,T,T,T,F,T,F,F,F,F,F,F,F,F,F] rfl rfl (by kernel_rfl) (fun _ _ _ h => h) (Or.inl ⟨by rfl, ?_⟩) hHeld ?_ ?_
  rotate_left
  · rintro w' ⟨s0, s1, s2, s3, s4, s5, s6, s7, s8⟩
    go_simp
    with_reducible rfl
  rotate_left
  · go_simp
    rfl
  refine pure_ (i := 28) (N := some 72) (v := ?_) (a' := ?_) #[T,T,T,T,T,T,T,T,T,T,T,T,T,T,T,T,T,T,T,T,T,T,T,T,T,T,T,T,T,T,F,F,F,F,F,F,F,F,F] rfl rfl (by kernel_rfl) (fun _ _ _ h => h) (Or.inl ⟨by rfl, ?_⟩) ?_ ?_
  rotate_left
  · intro w'
    go_simp
    with_reducible rfl
  rotate_left
  · go_simp
    rfl
  refine take_ (i := 30) (N := some 74) (v := ?_) (a' := ?_) #[T,T,T,T,T,T,T,T,T,T,T,T,T,T,T,T,T,T,T,T,T,T,T,T,T,T,T,T,T,T,T,F,F,F,F,F,F,F,F] rfl rfl (by kernel_rfl) (fun _ _ _ h => h) (Or.inl ⟨by rfl, ?_⟩) hHeld ?_ ?_
  rotate_left
  · rintro w' ⟨s0, s1, s2, s3, s4, s5, s6, s7, s8⟩
    go_simp
    with_reducible rfl
  rotate_left
  · go_simp
    rfl
  refine pure_ (i := 31) (N := some 75) (v := ?_) (a' := ?_) #[T,T,T,T,T,T,T,T,T,T,T,T,T,T,T,T,T,T,T,T,T,T,T,T,T,T,T,T,T,T,T,T,F,F,F,F,F,F,F] rfl rfl (by kernel_rfl) (fun _ _ _ h => h) (Or.inl ⟨by rfl, ?_⟩) ?_ ?_
  rotate_left
  · intro w'
    go_simp
    with_reducible rfl
  rotate_left
  · go_simp
    rfl
  refine pure_ (i := 32) (N := some 76) (v := ?_) (a' := ?_) #[T,T,T,T,T,T,T,T,T,T,T,T,T,T,T,T,T,T,T,T,T,T,T,T,T,T,T,T,T,T,T,T,T,F,F,F,F,F,F] rfl rfl (by kernel_rfl) (fun _ _ _ h => h) (Or.inl ⟨by rfl, ?_⟩) ?_ ?_
  rotate_left
  · intro w'
    go_simp
    with_reducible rfl
  rotate_left
  · go_simp
    rfl
  refine pure_ (i := 33) (N := some 77) (v := ?_) (a' := ?_) #[T,T,T,T,T,T,T,T,T,T,T,T,T,T,T,T,T,T,T,T,T,T,T,T,T,T,T,T,T,T,T,T,T,T,F,F,F,F,F] rfl rfl (by kernel_rfl) (fun _ _ _ h => h) (Or.inl ⟨by rfl, ?_⟩) ?_ ?_
  rotate_left
  · intro w'
    go_simp
    have hde := decide_eq_true HLE.out; simp only [hde]
    with_reducible rfl
  rotate_left
  · go_simp
    rfl
  refine pure_ (i := 34) (N := some 78) (v := ?_) (a' := ?_) #[T,T,T,T,T,T,T,T,T,T,T,T,T,T,T,T,T,T,T,T,T,T,T,T,T,T,T,T,T,T,T,T,T,T,T,F,F,F,F] rfl rfl (by kernel_rfl) (fun _ _ _ h => h) (Or.inl ⟨by rfl, ?_⟩) ?_ ?_
  rotate_left
  · intro w'
    go_simp
    with_reducible rfl
  rotate_left
  · go_simp
    rfl
  refine pure_ (i := 35) (N := some 79) (v := ?_) (a' := ?_) #[T,T,T,T,T,T,T,T,T,T,T,T,T,T,T,T,T,T,T,T,T,T,T,T,T,T,T,T,T,T,T,T,T,T,T,T,F,F,F] rfl rfl (by kernel_rfl) (fun _ _ _ h => h) (Or.inl ⟨by rfl, ?_⟩) ?_ ?_
  rotate_left
  · intro w'
    go_simp
    with_reducible rfl
  rotate_left
  · go_simp
    rfl
  refine one_ (i := 36) (N := some 80) #[T,T,T,T,T,T,T,T,T,T,T,T,T,T,T,T,T,T,T,T,T,T,T,T,T,T,T,T,T,T,T,T,T,T,T,T,T,F,F] rfl rfl (by kernel_rfl) (by decide) (fun K hK => ?_)
  refine goes_ Try.func22 (by kernel_rfl) rfl #[] (by rfl) rfl rfl (by simp only [List.map_toArray, List.map_nil]) ?_
  refine (awake_c _).mono ?_
  rintro e w9 ⟨rfl, hb9⟩
  refine ⟨_, rfl, ?_⟩
  clear cHY0 cHY1 cHY2 cHT0 cHT1 cHT2 cHU0 cHU1 cHU2
  replace HB := Hd.mk (below_step HB.out hb9)
  replace HE := Hd.mk (HE.out.below hb9)
  replace HO := Hd.mk (Kd.C_below HO.out hb9)
  replace HY := Hd.mk (blk_below HY.out hb9)
  replace HK := Hd.mk (HK.out.below hb9)
  replace HP := Hd.mk (HP.out.below hb9)
  replace HF := Hd.mk (Kd.C_below HF.out hb9)
  replace HG := Hd.mk (Kd.C_below HG.out hb9)
  replace HT := Hd.mk (blk_below HT.out hb9)
  replace HU := Hd.mk (blk_below HU.out hb9)
  have cHY0 := blk_cell HY.out 0
  have cHY1 := blk_cell HY.out 1
  have cHY2 := blk_cell HY.out 2
  have cHT0 := blk_cell HT.out 0
  have cHT1 := blk_cell HT.out 1
  have cHT2 := blk_cell HT.out 2
  have cHU0 := blk_cell HU.out 0
  have cHU1 := blk_cell HU.out 1
  have cHU2 := blk_cell HU.out 2
  simp at cHY0 cHY1 cHY2 cHT0 cHT1 cHT2 cHU0 cHU1 cHU2
  clear hb9
  refine hK.out _ _ ⟨cHY0, cHY1, cHY2, cHT0, cHT1, cHT2, cHU0, cHU1, cHU2⟩ (fun hHeld => ?_)
  clear hK K
  refine norm_ (a' := ?_) ?_ ?_
  rotate_left
  · show Act.put _ (some 80) _ = _
    go_simp
    rfl
  refine pure_ (i := 37) (N := some 81) (v := ?_) (a' := ?_) #[T,T,T,T,T,T,T,T,T,T,T,T,T,T,T,T,T,T,T,T,T,T,T,T,T,T,T,T,T,T,T,T,T,T,T,T,T,T,F] rfl rfl (by kernel_rfl) (fun _ _ _ h => h) (Or.inl ⟨by rfl, ?_⟩) ?_ ?_
  rotate_left
  · intro w'
    go_simp
    with_reducible rfl
  rotate_left
  · go_simp
    rfl
  refine pure_ (i := 38) (N := some 4) (v := ?_) (a' := ?_) #[T,T,T,T,T,T,T,T,T,T,T,T,T,T,T,T,T,T,T,T,T,T,T,T,T,T,T,T,T,T,T,T,T,T,T,T,T,T,T] rfl rfl (by kernel_rfl) (fun _ _ _ h => h) (Or.inl ⟨by rfl, ?_⟩) ?_ ?_
  rotate_left
  · intro w'
    go_simp
    with_reducible rfl
  rotate_left
  · go_simp
    rfl
  refine done_ (by kernel_rfl) ?_
  go_wp2
  go_ret
  exact ⟨by have := HLE.out; simp <;> omega, HB.out⟩
end Go.Proofs.Ytemlbjpefomboaa
