/- edit: the walk of EditNothing. -/
import Derived.Test.YtemlbjpefomboaaLt
import Derived.Test.YtemlbjpefomboaaCd
import Derived.Test.YtemlbjpefomboaaLs
namespace Go.Proofs.Ytemlbjpefomboaa
open Go.RowKit Go.Shelf Go.Proofs.YtemlbjpefomboaaW.PrintWords Go.Proofs.YtemlbjpefomboaaW.PrintLast Go.Proofs.YtemlbjpefomboaaW.PrintMore Go.Proofs.Ytemlbjpefomboaa.Pr
attribute [local go_sem] max2_int min2_int max_two min_two
set_option linter.unusedVariables false
set_option linter.unusedSimpArgs false
theorem EdC.set {W : World} {A0 : Option Addr} {c0 : Nat} {st : List S80} {A1 : Option Addr} {c1 : Nat} {d : List Int} {A2 : Option Addr} {c2 : Nat} {x : List Int} {b j : Nat} (h : EdC W A0 c0 st A1 c1 d A2 c2 x) (hb : Box3 W b) (v : Value) : EdC (W.setCell ⟨b, j, none⟩ v) A0 c0 st A1 c1 d A2 c2 x := by
  have hi : ∀ (z : Int) (cs : List Value), (Kd.int .u8).K W z cs → ∀ u ∈ cs, ∃ k z, u = .int k z := by
    intro z cs hz u hu
    have hz : cs = [.int .u8 z] := hz
    rw [hz] at hu
    simp at hu
    exact ⟨_, _, hu⟩
  refine ⟨C_set h.s hb (fun _ _ => k80_ints) (fun x cs W' hx => ?_) v, C_set h.di hb hi (fun x cs W' hx => hx) v, C_set h.ex hb hi (fun x cs W' hx => hx) v, h.hs, h.hd, h.hx⟩
  obtain rfl := k80_open hx
  exact k80_mk W' x
theorem EdC.set3 {W : World} {A0 : Option Addr} {c0 : Nat} {st : List S80} {A1 : Option Addr} {c1 : Nat} {d : List Int} {A2 : Option Addr} {c2 : Nat} {x : List Int} {b : Nat} (h : EdC W A0 c0 st A1 c1 d A2 c2 x) (hb : W.heap[b]? = some (.cells #[.slice none 0 0, .slice none 0 0, .slice none 0 0] 28 (0, 0)))
    (B0 : Option Addr) (n0 e0 : Nat) (B1 : Option Addr) (n1 e1 : Nat) (B2 : Option Addr) (n2 e2 : Nat) : EdC (((W.setCell ⟨b, 0, none⟩ (.slice B0 n0 e0)).setCell ⟨b, 1, none⟩ (.slice B1 n1 e1)).setCell ⟨b, 2, none⟩ (.slice B2 n2 e2)) A0 c0 st A1 c1 d A2 c2 x := by
  have b0 : Box3 W b := ⟨_, _, _, _, _, _, _, _, _, hb⟩
  have b1 := b0.set (j := 0) (by decide) B0 n0 e0
  have b2 := b1.set (j := 1) (by decide) B1 n1 e1
  exact ((h.set b0 _).set b1 _).set b2 _
set_option maxRecDepth 100000 in
set_option maxHeartbeats 8000000 in
theorem walk_editNothing (A0 : Option Addr) (c0 : Nat) (st : List S80) (A1 : Option Addr) (c1 : Nat) (d : List Int) (A2 : Option Addr) (c2 : Nat) (x : List Int) (m : Int) (w : World)
    (H : EdI w A0 c0 st A1 c1 d A2 c2 x ∧ st.length * 24 ≤ 140737488351232 ∧ d.length * 1 ≤ 140737488351232 ∧ x.length * 1 ≤ 140737488351232) (hmw : (Lit.int .u64 m).wf = true) :
    Calls Try.prog 19 #[.agg #[.slice A0 st.length c0, .slice A1 d.length c1, .slice A2 x.length c2], .int .u64 m] w fun e w' => e = .returned (.bool true) ∧ Below w.heap.size w w' := by
  obtain ⟨⟨hE, _, hwd, hwx⟩, _, _, _⟩ := H
  have hm0 : 0 ≤ m ∧ m ≤ 18446744073709551615 := by
    have := bounds_u64 hmw
    omega
  have hb0 : Below w.heap.size w (w.alloc (.cells #[.slice A0 st.length c0, .slice A1 d.length c1, .slice A2 x.length c2] 28)) := (Below.refl _ _).alloc (Nat.le_refl _) _
  have HE := Hd.mk (hE.below hb0)
  have HB := Hd.mk hb0
  have HY := Hd.mk (blk_new w (.cells #[.slice A0 st.length c0, .slice A1 d.length c1, .slice A2 x.length c2] 28))
  clear hb0 hE hmw
  obtain ⟨⟨S, D, X, er⟩, hq⟩ : ∃ q, normalE st d x = q := ⟨_, rfl⟩
  have HQ := Hd.mk hq
  obtain ⟨nn, hnn⟩ : ∃ r, (ited st d x).1 = r := ⟨_, rfl⟩
  obtain ⟨gg, hgg⟩ : ∃ r, (ited st d x).2 = r := ⟨_, rfl⟩
  have HSZ := Hd.mk (And.intro hnn hgg)
  have HMM := Hd.mk hm0
  clear hm0
  have cHY0 := blk_cell HY.out 0
  have cHY1 := blk_cell HY.out 1
  have cHY2 := blk_cell HY.out 2
  simp at cHY0 cHY1 cHY2
  go_enter Try.func19, Try.ntmps19
  go_wp2_with fail
  refine (normal_m HE.out HQ.out).mono ?_
  rintro e w1 ⟨E0, f0, E1, f1, E2, f2, rfl, hK, hb1⟩
  have HK := Hd.mk hK
  clear cHY0 cHY1 cHY2
  replace HB := Hd.mk (below_step HB.out hb1)
  replace HE := Hd.mk (HE.out.below hb1)
  replace HY := Hd.mk (blk_below HY.out hb1)
  have cHY0 := blk_cell HY.out 0
  have cHY1 := blk_cell HY.out 1
  have cHY2 := blk_cell HY.out 2
  simp at cHY0 cHY1 cHY2
  clear hK hb1
  have hbA : Below w1.heap.size w1 (w1.alloc (.cells #[.slice E0 S.length f0, .slice E1 D.length f1, .slice E2 X.length f2] 28)) := (Below.refl _ _).alloc (Nat.le_refl _) _
  have hlt1 := blk_lt HY.out
  go_wp2_with fail
  clear cHY0 cHY1 cHY2
  replace HB := Hd.mk (below_step HB.out hbA)
  replace HE := Hd.mk (HE.out.below hbA)
  replace HY := Hd.mk (blk_below HY.out hbA)
  replace HK := Hd.mk (HK.out.below hbA)
  have cHY0 := blk_cell HY.out 0
  have cHY1 := blk_cell HY.out 1
  have cHY2 := blk_cell HY.out 2
  simp at cHY0 cHY1 cHY2
  have HT := Hd.mk (blk_new w1 (.cells #[.slice E0 S.length f0, .slice E1 D.length f1, .slice E2 X.length f2] 28))
  clear hbA hlt1
  refine (size_m HE.out HSZ.out.1 HSZ.out.2).mono ?_
  rintro e w2 ⟨rfl, hb2⟩
  clear cHY0 cHY1 cHY2
  replace HB := Hd.mk (below_step HB.out hb2)
  replace HE := Hd.mk (HE.out.below hb2)
  replace HY := Hd.mk (blk_below HY.out hb2)
  replace HK := Hd.mk (HK.out.below hb2)
  replace HT := Hd.mk (blk_below HT.out hb2)
  have cHY0 := blk_cell HY.out 0
  have cHY1 := blk_cell HY.out 1
  have cHY2 := blk_cell HY.out 2
  simp at cHY0 cHY1 cHY2
  clear hb2
  by_cases h0 : er = 0
  rotate_left
  · have hne : (er != 0) = true := by simpa using h0
    have H0 := Hd.mk h0
    clear hq h0 hnn hgg
    go_wp2_with fail
    refine (awake_c _).mono ?_
    rintro e w3 ⟨rfl, hb3⟩
    have H3 := Hd.mk (below_step HB.out hb3)
    clear hb3
    go_wp2
    go_ret
    exact ⟨by simp, H3.out⟩
  subst h0
  obtain ⟨hok, hno⟩ := normalE_ok hq
  obtain ⟨ho, hi2, hi1, hm, hnn2, hap⟩ := norm_same hok hno
  have hsz := ited_size hok
  obtain rfl : gg = 0 := hgg.symm.trans hok
  obtain ⟨n, hn⟩ : ∃ n : Nat, nn = (n : Int) := ⟨nn.toNat, by omega⟩
  subst hn
  have hn24 : n ≤ 16777216 := by omega
  have hcb := compose_behind hwd hwx hok (n := n) hnn.symm hno
  have hca := fun (k : Nat) (hk : k ≤ 16777216) (hr : rds k st 0 = true) => compose_ahead hwd hwx hok hk hr hm hno
  have hrin := fun (k : Int) (hr : rds k st 0 = true) => (rds_inn k st d x 0 (ited_all hok).1 hm).1 hr
  obtain ⟨sn, hsn⟩ : ∃ l, nS n = l := ⟨_, rfl⟩
  obtain ⟨dn, hdn⟩ : ∃ l, nD n = l := ⟨_, rfl⟩
  obtain ⟨xn, hxn⟩ : ∃ l : List Int, [] = l := ⟨_, rfl⟩
  have hnin : ∀ k : Int, sn.all may = true → rds k sn 0 = true → Inn k (og sn dn xn 0) := by
    intro k _ hr
    rw [← hsn] at hr
    rw [← hsn, ← hdn, ← hxn, nothing_og hn24]
    exact nothing_inn hn24 k hr
  rw [hsn, hdn, hxn] at hcb
  have HCB := Hd.mk hcb
  have HCA := Hd.mk hca
  have HRIN := Hd.mk hrin
  have HNIN := Hd.mk hnin
  have HN24 := Hd.mk hn24
  have HSN := Hd.mk (And.intro hsn (And.intro hdn hxn))
  have HMAY := Hd.mk (ited_all hok).1
  have HSM := Hd.mk (show sameE S D X S D X = true by simp [sameE])
  obtain ⟨bt, hbt⟩ : ∃ b, w1.heap.size = b := ⟨_, rfl⟩
  clear cHY0 cHY1 cHY2
  rw [hbt] at HT ⊢
  have cHY0 := blk_cell HY.out 0
  have cHY1 := blk_cell HY.out 1
  have cHY2 := blk_cell HY.out 2
  have cHT0 := blk_cell HT.out 0
  have cHT1 := blk_cell HT.out 1
  have cHT2 := blk_cell HT.out 2
  simp at cHY0 cHY1 cHY2 cHT0 cHT1 cHT2
  clear hq hok hno ho hi2 hi1 hm hnn2 hap hsz hnn hgg hn24 hcb hca hrin hsn hdn hxn hnin hbt hwd hwx
  go_upto_region 5 with fail
  go_cut [9, 10] (fun v9 v10 W => ∃ b9 G0 p0 G1 p1 G2 p2, v9 = .pointer (some ⟨b9, 0, none⟩) ∧ v10 = .int .i64 0 ∧ Hd (EdC W G0 p0 S G1 p1 D G2 p2 X) ∧
    Hd (W.heap[b9]? = some (.cells #[.slice G0 S.length p0, .slice G1 D.length p1, .slice G2 X.length p2] 28 (0, 0))) ∧ Hd (Below w2.heap.size w2 W))
  case first =>
    have HB0 : Hd (Below w2.drew.heap.size w2.drew w2.drew) := ⟨Below.refl _ _⟩
    have hT1 := blk_drew HY.out
    have c0_ : w2.drew.cell? ⟨w.heap.size, 0, none⟩ = some (.slice A0 st.length c0) := (blk_cell hT1 0).trans rfl
    have c1_ : w2.drew.cell? ⟨w.heap.size, 1, none⟩ = some (.slice A1 d.length c1) := (blk_cell hT1 1).trans rfl
    have c2_ : w2.drew.cell? ⟨w.heap.size, 2, none⟩ = some (.slice A2 x.length c2) := (blk_cell hT1 2).trans rfl
    have hS3 := And.intro c0_ (And.intro c1_ c2_)
    have HEB := Hd.mk (HE.out.below (Below.drew' w2))
    clear c0_ c1_ c2_ hT1
    obtain ⟨wb, hwb⟩ : ∃ v, w2.drew = v := ⟨_, rfl⟩
    refine start_ (n := 10) (S := fun w' => w'.cell? ⟨w.heap.size, 0, none⟩ = some (.slice A0 st.length c0) ∧ w'.cell? ⟨w.heap.size, 1, none⟩ = some (.slice A1 d.length c1) ∧ w'.cell? ⟨w.heap.size, 2, none⟩ = some (.slice A2 x.length c2)) (ds := [8]) #[F,F,F,F,F,F,F,F,F,F] (by kernel_rfl) rfl rfl hS3 (fun hHeld => ?_)
    rw [hwb] at hS3 HB0 HEB hHeld ⊢
    refine take_ (i := 0) (N := some 34) (v := ?_) (a' := ?_) #[T,F,F,F,F,F,F,F,F,F] rfl rfl (by kernel_rfl) (fun _ _ _ h => h) (Or.inl ⟨by rfl, ?_⟩) hHeld ?_ ?_
    rotate_left
    · rintro w' ⟨s0, s1, s2⟩
      go_simp
      with_reducible rfl
    rotate_left
    · go_simp
      rfl
    refine pure_ (i := 1) (N := some 35) (v := ?_) (a' := ?_) #[T,T,F,F,F,F,F,F,F,F] rfl rfl (by kernel_rfl) (fun _ _ _ h => h) (Or.inl ⟨by rfl, ?_⟩) ?_ ?_
    rotate_left
    · intro w'
      go_simp
      with_reducible rfl
    rotate_left
    · go_simp
      rfl
    refine two_ (i := 2) (j := 7) (Ni := some 36) (Nj := some 9) #[T,T,T,F,F,F,F,F,F,F] #[T,T,F,F,F,F,F,T,F,F] rfl rfl rfl rfl (by kernel_rfl) (by decide) (by decide) (fun K hK => ?_) (fun K hK => ?_)
    · skip
      refine goes_ Try.func48 (by kernel_rfl) rfl #[.int .i64 (n : Int)] (by rfl) rfl rfl (by simp only [List.map_toArray, List.map_cons, List.map_nil]; rfl) ?_
      refine (nothing_m HN24.out HSN.out.1 HSN.out.2.1 HSN.out.2.2 _).mono ?_
      rintro e wv1 ⟨N0, q0, N1, q1, N2, q2, rfl, hD, hbn⟩
      refine ⟨_, rfl, ?_⟩
      have HN9 := Hd.mk hD
      clear hD
      have HB1 := Hd.mk (below_step HB0.out hbn)
      clear hbn
      refine hK.out _ _ (far3 HB1.out hS3) (fun hHeld => ?_)
      clear hK K
      refine norm_ (a' := ?_) ?_ ?_
      rotate_left
      · show Act.put _ (some 36) _ = _
        go_simp
        rfl
      refine two_ (i := 3) (j := 7) (Ni := some 37) (Nj := some 9) #[T,T,T,T,F,F,F,F,F,F] #[T,T,T,F,F,F,F,T,F,F] rfl rfl rfl rfl (by kernel_rfl) (by decide) (by decide) (fun K hK => ?_) (fun K hK => ?_)
      · skip
        refine goes_ Try.func45 (by kernel_rfl) rfl #[.agg #[.slice A0 st.length c0, .slice A1 d.length c1, .slice A2 x.length c2], .agg #[.slice N0 sn.length q0, .slice N1 dn.length q1, .slice N2 xn.length q2]] (by rfl) rfl rfl (by simp only [List.map_toArray, List.map_cons, List.map_nil]; rfl) ?_
        refine (compose_m (HEB.out.below HB1.out) HN9.out HNIN.out HCB.out).mono ?_
        rintro e wv2 ⟨G0, p0, G1, p1, G2, p2, rfl, hD, hbn⟩
        refine ⟨_, rfl, ?_⟩
        have HD9 := Hd.mk hD
        replace HN9 := Hd.mk (HN9.out.below hbn)
        clear hD
        have HB2 := Hd.mk (below_step HB1.out hbn)
        clear hbn
        refine hK.out _ _ (far3 HB2.out hS3) (fun hHeld => ?_)
        clear hK K
        refine norm_ (a' := ?_) ?_ ?_
        rotate_left
        · show Act.put _ (some 37) _ = _
          go_simp
          rfl
        refine pure_ (i := 4) (N := some 33) (v := ?_) (a' := ?_) #[T,T,T,T,T,F,F,F,F,F] rfl rfl (by kernel_rfl) (fun _ _ _ h => h) (Or.inl ⟨by rfl, ?_⟩) ?_ ?_
        rotate_left
        · intro w'
          go_simp
          with_reducible rfl
        rotate_left
        · go_simp
          rfl
        refine pure_ (i := 5) (N := some 38) (v := ?_) (a' := ?_) #[T,T,T,T,T,T,F,F,F,F] rfl rfl (by kernel_rfl) (fun _ _ _ h => h) (Or.inl ⟨by rfl, ?_⟩) ?_ ?_
        rotate_left
        · intro w'
          go_simp
          with_reducible rfl
        rotate_left
        · go_simp
          rfl
        refine pure_ (i := 6) (N := some 39) (v := ?_) (a' := ?_) #[T,T,T,T,T,T,T,F,F,F] rfl rfl (by kernel_rfl) (fun _ _ _ h => h) (Or.inl ⟨by rfl, ?_⟩) ?_ ?_
        rotate_left
        · intro w'
          go_simp
          with_reducible rfl
        rotate_left
        · go_simp
          rfl
        refine one_ (i := 7) (N := some 9) #[T,T,T,T,T,T,T,T,F,F] rfl rfl (by kernel_rfl) (by decide) (fun K hK => ?_)
        refine value_ (w1 := ?_) (v := ?_) (by rfl) rfl ?_ ?_
        rotate_left 2
        · go_simp
          constructor
          · rfl
          · rfl
        have hsz := HB2.out.size
        obtain ⟨b9, wv3, hb9, hw3, hbn, hnw⟩ := newbox wv2
        have hs9 : wb.heap.size ≤ b9 := by omega
        rw [hw3, ← hb9]
        have HB3 := Hd.mk (below_step HB2.out hbn)
        have H9 := Hd.mk hnw
        replace HN9 := Hd.mk (HN9.out.below hbn)
        replace HD9 := Hd.mk (HD9.out.below hbn)
        clear hbn hnw hw3 hb9 hsz
        refine hK.out _ _ (far3 HB3.out hS3) (fun hHeld => ?_)
        clear hK K
        refine norm_ (a' := ?_) ?_ ?_
        rotate_left
        · show Act.put _ (some 9) _ = _
          go_simp
          rfl
        obtain ⟨q0, q1, q2, f0, f1, f2⟩ := none3 H9.out
        refine last_ (i := 8) (N := none) #[T,T,T,T,T,T,T,T,T,F] rfl rfl (by kernel_rfl) (by decide) (fun K hK => ?_)
        refine skip_ (w1 := ?_) (by rfl) rfl ?_ ?_
        rotate_left
        · go_simp
          rfl
        refine hK.out _ _ ?_
        clear hK K q0 q1 q2 f0 f1 f2
        refine pure_ (i := 9) (N := some 10) (v := ?_) (a' := ?_) #[T,T,T,T,T,T,T,T,T,T] rfl rfl (by kernel_rfl) (fun _ _ _ h => h) (Or.inl ⟨by rfl, ?_⟩) ?_ ?_
        rotate_left
        · intro w'
          go_simp
          with_reducible rfl
        rotate_left
        · go_simp
          rfl
        refine done_ (by kernel_rfl) ?_
        clear hHeld
        go_wp2_with fail
        go_meet
        case rel =>
          have hd2 := EdC.set3 HD9.out H9.out G0 S.length p0 G1 D.length p1 G2 X.length p2
          have hbb := ((HB3.out.setCell hs9 (.slice G0 S.length p0) (p := ⟨b9, 0, none⟩)).setCell hs9 (.slice G1 D.length p1) (p := ⟨b9, 1, none⟩)).setCell hs9 (.slice G2 X.length p2) (p := ⟨b9, 2, none⟩)
          subst hwb
          exact ⟨b9, G0, p0, G1, p1, G2, p2, rfl, rfl, ⟨hd2⟩, ⟨blk3s H9.out _ _ _⟩, ⟨below_step (Below.drew' w2) hbb⟩⟩
      · skip
        refine value_ (w1 := ?_) (v := ?_) (by rfl) rfl ?_ ?_
        rotate_left 2
        · go_simp
          constructor
          · rfl
          · rfl
        have hsz := HB1.out.size
        obtain ⟨b9, wv2, hb9, hw2, hbn, hnw⟩ := newbox wv1
        have hs9 : wb.heap.size ≤ b9 := by omega
        rw [hw2, ← hb9]
        have HB2 := Hd.mk (below_step HB1.out hbn)
        have H9 := Hd.mk hnw
        replace HN9 := Hd.mk (HN9.out.below hbn)
        clear hbn hnw hw2 hb9 hsz
        refine hK.out _ _ (far3 HB2.out hS3) (fun hHeld => ?_)
        clear hK K
        refine norm_ (a' := ?_) ?_ ?_
        rotate_left
        · show Act.put _ (some 9) _ = _
          go_simp
          rfl
        refine one_ (i := 3) (N := some 37) #[T,T,T,T,F,F,F,T,F,F] rfl rfl (by kernel_rfl) (by decide) (fun K hK => ?_)
        refine goes_ Try.func45 (by kernel_rfl) rfl #[.agg #[.slice A0 st.length c0, .slice A1 d.length c1, .slice A2 x.length c2], .agg #[.slice N0 sn.length q0, .slice N1 dn.length q1, .slice N2 xn.length q2]] (by rfl) rfl rfl (by simp only [List.map_toArray, List.map_cons, List.map_nil]; rfl) ?_
        refine (compose_m (HEB.out.below HB2.out) HN9.out HNIN.out HCB.out).mono ?_
        rintro e wv3 ⟨G0, p0, G1, p1, G2, p2, rfl, hD, hbn⟩
        refine ⟨_, rfl, ?_⟩
        have HD9 := Hd.mk hD
        replace HN9 := Hd.mk (HN9.out.below hbn)
        clear hD
        have HB3 := Hd.mk (below_step HB2.out hbn)
        replace H9 := Hd.mk (blk_below H9.out hbn)
        clear hbn
        refine hK.out _ _ (far3 HB3.out hS3) (fun hHeld => ?_)
        clear hK K
        refine norm_ (a' := ?_) ?_ ?_
        rotate_left
        · show Act.put _ (some 37) _ = _
          go_simp
          rfl
        refine pure_ (i := 4) (N := some 33) (v := ?_) (a' := ?_) #[T,T,T,T,T,F,F,T,F,F] rfl rfl (by kernel_rfl) (fun _ _ _ h => h) (Or.inl ⟨by rfl, ?_⟩) ?_ ?_
        rotate_left
        · intro w'
          go_simp
          with_reducible rfl
        rotate_left
        · go_simp
          rfl
        refine pure_ (i := 5) (N := some 38) (v := ?_) (a' := ?_) #[T,T,T,T,T,T,F,T,F,F] rfl rfl (by kernel_rfl) (fun _ _ _ h => h) (Or.inl ⟨by rfl, ?_⟩) ?_ ?_
        rotate_left
        · intro w'
          go_simp
          with_reducible rfl
        rotate_left
        · go_simp
          rfl
        refine pure_ (i := 6) (N := some 39) (v := ?_) (a' := ?_) #[T,T,T,T,T,T,T,T,F,F] rfl rfl (by kernel_rfl) (fun _ _ _ h => h) (Or.inl ⟨by rfl, ?_⟩) ?_ ?_
        rotate_left
        · intro w'
          go_simp
          with_reducible rfl
        rotate_left
        · go_simp
          rfl
        obtain ⟨q0, q1, q2, f0, f1, f2⟩ := none3 H9.out
        refine last_ (i := 8) (N := none) #[T,T,T,T,T,T,T,T,T,F] rfl rfl (by kernel_rfl) (by decide) (fun K hK => ?_)
        refine skip_ (w1 := ?_) (by rfl) rfl ?_ ?_
        rotate_left
        · go_simp
          rfl
        refine hK.out _ _ ?_
        clear hK K q0 q1 q2 f0 f1 f2
        refine pure_ (i := 9) (N := some 10) (v := ?_) (a' := ?_) #[T,T,T,T,T,T,T,T,T,T] rfl rfl (by kernel_rfl) (fun _ _ _ h => h) (Or.inl ⟨by rfl, ?_⟩) ?_ ?_
        rotate_left
        · intro w'
          go_simp
          with_reducible rfl
        rotate_left
        · go_simp
          rfl
        refine done_ (by kernel_rfl) ?_
        clear hHeld
        go_wp2_with fail
        go_meet
        case rel =>
          have hd2 := EdC.set3 HD9.out H9.out G0 S.length p0 G1 D.length p1 G2 X.length p2
          have hbb := ((HB3.out.setCell hs9 (.slice G0 S.length p0) (p := ⟨b9, 0, none⟩)).setCell hs9 (.slice G1 D.length p1) (p := ⟨b9, 1, none⟩)).setCell hs9 (.slice G2 X.length p2) (p := ⟨b9, 2, none⟩)
          subst hwb
          exact ⟨b9, G0, p0, G1, p1, G2, p2, rfl, rfl, ⟨hd2⟩, ⟨blk3s H9.out _ _ _⟩, ⟨below_step (Below.drew' w2) hbb⟩⟩
    · skip
      refine value_ (w1 := ?_) (v := ?_) (by rfl) rfl ?_ ?_
      rotate_left 2
      · go_simp
        constructor
        · rfl
        · rfl
      have hsz := HB0.out.size
      obtain ⟨b9, wv1, hb9, hw1, hbn, hnw⟩ := newbox wb
      have hs9 : wb.heap.size ≤ b9 := by omega
      rw [hw1, ← hb9]
      have HB1 := Hd.mk (below_step HB0.out hbn)
      have H9 := Hd.mk hnw
      have hlt9 := blk_lt H9.out
      clear hbn hnw hw1 hb9 hsz
      refine hK.out _ _ (far3 HB1.out hS3) (fun hHeld => ?_)
      clear hK K
      refine norm_ (a' := ?_) ?_ ?_
      rotate_left
      · show Act.put _ (some 9) _ = _
        go_simp
        rfl
      refine one_ (i := 2) (N := some 36) #[T,T,T,F,F,F,F,T,F,F] rfl rfl (by kernel_rfl) (by decide) (fun K hK => ?_)
      refine goes_ Try.func48 (by kernel_rfl) rfl #[.int .i64 (n : Int)] (by rfl) rfl rfl (by simp only [List.map_toArray, List.map_cons, List.map_nil]; rfl) ?_
      refine (nothing_m HN24.out HSN.out.1 HSN.out.2.1 HSN.out.2.2 _).mono ?_
      rintro e wv2 ⟨N0, q0, N1, q1, N2, q2, rfl, hD, hbn⟩
      refine ⟨_, rfl, ?_⟩
      have HN9 := Hd.mk hD
      clear hD
      have HB2 := Hd.mk (below_step HB1.out hbn)
      replace H9 := Hd.mk (blk_below H9.out hbn)
      clear hbn
      refine hK.out _ _ (far3 HB2.out hS3) (fun hHeld => ?_)
      clear hK K
      refine norm_ (a' := ?_) ?_ ?_
      rotate_left
      · show Act.put _ (some 36) _ = _
        go_simp
        rfl
      refine one_ (i := 3) (N := some 37) #[T,T,T,T,F,F,F,T,F,F] rfl rfl (by kernel_rfl) (by decide) (fun K hK => ?_)
      refine goes_ Try.func45 (by kernel_rfl) rfl #[.agg #[.slice A0 st.length c0, .slice A1 d.length c1, .slice A2 x.length c2], .agg #[.slice N0 sn.length q0, .slice N1 dn.length q1, .slice N2 xn.length q2]] (by rfl) rfl rfl (by simp only [List.map_toArray, List.map_cons, List.map_nil]; rfl) ?_
      refine (compose_m (HEB.out.below HB2.out) HN9.out HNIN.out HCB.out).mono ?_
      rintro e wv3 ⟨G0, p0, G1, p1, G2, p2, rfl, hD, hbn⟩
      refine ⟨_, rfl, ?_⟩
      have HD9 := Hd.mk hD
      replace HN9 := Hd.mk (HN9.out.below hbn)
      clear hD
      have HB3 := Hd.mk (below_step HB2.out hbn)
      replace H9 := Hd.mk (blk_below H9.out hbn)
      clear hbn
      refine hK.out _ _ (far3 HB3.out hS3) (fun hHeld => ?_)
      clear hK K
      refine norm_ (a' := ?_) ?_ ?_
      rotate_left
      · show Act.put _ (some 37) _ = _
        go_simp
        rfl
      refine pure_ (i := 4) (N := some 33) (v := ?_) (a' := ?_) #[T,T,T,T,T,F,F,T,F,F] rfl rfl (by kernel_rfl) (fun _ _ _ h => h) (Or.inl ⟨by rfl, ?_⟩) ?_ ?_
      rotate_left
      · intro w'
        go_simp
        with_reducible rfl
      rotate_left
      · go_simp
        rfl
      refine pure_ (i := 5) (N := some 38) (v := ?_) (a' := ?_) #[T,T,T,T,T,T,F,T,F,F] rfl rfl (by kernel_rfl) (fun _ _ _ h => h) (Or.inl ⟨by rfl, ?_⟩) ?_ ?_
      rotate_left
      · intro w'
        go_simp
        with_reducible rfl
      rotate_left
      · go_simp
        rfl
      refine pure_ (i := 6) (N := some 39) (v := ?_) (a' := ?_) #[T,T,T,T,T,T,T,T,F,F] rfl rfl (by kernel_rfl) (fun _ _ _ h => h) (Or.inl ⟨by rfl, ?_⟩) ?_ ?_
      rotate_left
      · intro w'
        go_simp
        with_reducible rfl
      rotate_left
      · go_simp
        rfl
      obtain ⟨q0, q1, q2, f0, f1, f2⟩ := none3 H9.out
      refine last_ (i := 8) (N := none) #[T,T,T,T,T,T,T,T,T,F] rfl rfl (by kernel_rfl) (by decide) (fun K hK => ?_)
      refine skip_ (w1 := ?_) (by rfl) rfl ?_ ?_
      rotate_left
      · go_simp
        rfl
      refine hK.out _ _ ?_
      clear hK K q0 q1 q2 f0 f1 f2
      refine pure_ (i := 9) (N := some 10) (v := ?_) (a' := ?_) #[T,T,T,T,T,T,T,T,T,T] rfl rfl (by kernel_rfl) (fun _ _ _ h => h) (Or.inl ⟨by rfl, ?_⟩) ?_ ?_
      rotate_left
      · intro w'
        go_simp
        with_reducible rfl
      rotate_left
      · go_simp
        rfl
      refine done_ (by kernel_rfl) ?_
      clear hHeld
      go_wp2_with fail
      go_meet
      case rel =>
        have hd2 := EdC.set3 HD9.out H9.out G0 S.length p0 G1 D.length p1 G2 X.length p2
        have hbb := ((HB3.out.setCell hs9 (.slice G0 S.length p0) (p := ⟨b9, 0, none⟩)).setCell hs9 (.slice G1 D.length p1) (p := ⟨b9, 1, none⟩)).setCell hs9 (.slice G2 X.length p2) (p := ⟨b9, 2, none⟩)
        subst hwb
        exact ⟨b9, G0, p0, G1, p1, G2, p2, rfl, rfl, ⟨hd2⟩, ⟨blk3s H9.out _ _ _⟩, ⟨below_step (Below.drew' w2) hbb⟩⟩
  case rest =>
    obtain ⟨b9, G0, p0, G1, p1, G2, p2, rfl, rfl, HG, HU, HBC⟩ := hcut
    obtain ⟨w3, hw3⟩ : ∃ v, v = wc := ⟨_, rfl⟩
    subst hw3
    clear cHY0 cHY1 cHY2 cHT0 cHT1 cHT2
    replace HB := Hd.mk (below_step HB.out HBC.out)
    replace HE := Hd.mk (HE.out.below HBC.out)
    replace HY := Hd.mk (blk_below HY.out HBC.out)
    replace HK := Hd.mk (HK.out.below HBC.out)
    replace HT := Hd.mk (blk_below HT.out HBC.out)
    have cHY0 := blk_cell HY.out 0
    have cHY1 := blk_cell HY.out 1
    have cHY2 := blk_cell HY.out 2
    have cHT0 := blk_cell HT.out 0
    have cHT1 := blk_cell HT.out 1
    have cHT2 := blk_cell HT.out 2
    simp at cHY0 cHY1 cHY2 cHT0 cHT1 cHT2
    have cHU0 := blk_cell HU.out 0
    have cHU1 := blk_cell HU.out 1
    have cHU2 := blk_cell HU.out 2
    simp at cHU0 cHU1 cHU2
    clear HBC
    go_wp2_with fail
    refine (alikeA_c HG.out HK.out HSM.out).mono ?_
    rintro e w4 ⟨rfl, hb4⟩
    clear cHY0 cHY1 cHY2 cHT0 cHT1 cHT2 cHU0 cHU1 cHU2
    replace HB := Hd.mk (below_step HB.out hb4)
    replace HE := Hd.mk (HE.out.below hb4)
    replace HY := Hd.mk (blk_below HY.out hb4)
    replace HK := Hd.mk (HK.out.below hb4)
    replace HT := Hd.mk (blk_below HT.out hb4)
    replace HG := Hd.mk (HG.out.below hb4)
    replace HU := Hd.mk (blk_below HU.out hb4)
    have cHY0 := blk_cell HY.out 0
    have cHY1 := blk_cell HY.out 1
    have cHY2 := blk_cell HY.out 2
    have cHT0 := blk_cell HT.out 0
    have cHT1 := blk_cell HT.out 1
    have cHT2 := blk_cell HT.out 2
    have cHU0 := blk_cell HU.out 0
    have cHU1 := blk_cell HU.out 1
    have cHU2 := blk_cell HU.out 2
    simp at cHY0 cHY1 cHY2 cHT0 cHT1 cHT2 cHU0 cHU1 cHU2
    clear hb4
    go_wp2_with fail
    refine (awake_c _).mono ?_
    rintro e w5 ⟨rfl, hb5⟩
    clear cHY0 cHY1 cHY2 cHT0 cHT1 cHT2 cHU0 cHU1 cHU2
    replace HB := Hd.mk (below_step HB.out hb5)
    replace HE := Hd.mk (HE.out.below hb5)
    replace HY := Hd.mk (blk_below HY.out hb5)
    replace HK := Hd.mk (HK.out.below hb5)
    replace HT := Hd.mk (blk_below HT.out hb5)
    replace HG := Hd.mk (HG.out.below hb5)
    replace HU := Hd.mk (blk_below HU.out hb5)
    have cHY0 := blk_cell HY.out 0
    have cHY1 := blk_cell HY.out 1
    have cHY2 := blk_cell HY.out 2
    have cHT0 := blk_cell HT.out 0
    have cHT1 := blk_cell HT.out 1
    have cHT2 := blk_cell HT.out 2
    have cHU0 := blk_cell HU.out 0
    have cHU1 := blk_cell HU.out 1
    have cHU2 := blk_cell HU.out 2
    simp at cHY0 cHY1 cHY2 cHT0 cHT1 cHT2 cHU0 cHU1 cHU2
    clear hb5
    clear cHY0 cHY1 cHY2 cHT0 cHT1 cHT2 cHU0 cHU1 cHU2
    clear HG HU
    go_wp2
    go_loopg [11, 12, 13] st.length (fun k v11 v12 v13 W => ∃ (i : Nat) (a p : Int) (o : Nat), v11 = .int .i64 (o : Int) ∧ v12 = .int .i64 p ∧ v13 = .int .i64 (i : Int) ∧ i + k = st.length ∧ o ≤ 16777216 ∧ Hd (wrap64 a = p) ∧ Hd (∀ n : Int, (o : Int) ≤ n → rds n (st.drop i) a = true → rds n st 0 = true) ∧ Hd (Below w5.heap.size w5 W))
    case atStart => exact ⟨0, 0, 0, 0, rfl, rfl, rfl, by omega, by omega, ⟨w64 0 (by omega)⟩, ⟨fun n _ h => by rwa [List.drop_zero] at h⟩, ⟨Below.refl _ _⟩⟩
    case round =>
      obtain ⟨i, a, p, o, rfl, rfl, rfl, hk, ho, HP, HI, HBL⟩ := hrel
      have hbl := HBL.out
      replace HB := Hd.mk (below_step HB.out hbl)
      replace HE := Hd.mk (HE.out.below hbl)
      replace HY := Hd.mk (blk_below HY.out hbl)
      replace HK := Hd.mk (HK.out.below hbl)
      replace HT := Hd.mk (blk_below HT.out hbl)
      clear hbl
      have cHY0 := blk_cell HY.out 0
      have cHY1 := blk_cell HY.out 1
      have cHY2 := blk_cell HY.out 2
      have cHT0 := blk_cell HT.out 0
      have cHT1 := blk_cell HT.out 1
      have cHT2 := blk_cell HT.out 2
      simp at cHY0 cHY1 cHY2 cHT0 cHT1 cHT2
      rcases gk with _ | gk
      · have hlt : decide ((i : Int) < (st.length : Int)) = false := decide_eq_false (by omega)
        obtain rfl : i = st.length := by omega
        obtain ⟨kk, hkk, hk24, hok⟩ : ∃ kk : Nat, (if 16777216 < wrap64 ((o : Int) + wrap64 (m.tmod 100)) then 16777216 else wrap64 ((o : Int) + wrap64 (m.tmod 100))) = (kk : Int) ∧ kk ≤ 16777216 ∧ o ≤ kk := by
          have hm := HMM.out
          have h1 : m.tmod 100 = m % 100 := Int.tmod_eq_emod_of_nonneg hm.1
          rw [h1, w64 (m % 100) (by omega), w64 _ (by omega)]
          by_cases hc : 16777216 < (o : Int) + m % 100
          · rw [if_pos hc]; exact ⟨16777216, rfl, by omega, by omega⟩
          · rw [if_neg hc]; exact ⟨((o : Int) + m % 100).toNat, by omega, by omega, by omega⟩
        have hrd : rds kk st 0 = true := HI.out kk (by omega) (by rw [List.drop_length]; rfl)
        have hca := HCA.out kk hk24 hrd
        obtain ⟨sk, hsk⟩ : ∃ l, nS kk = l := ⟨_, rfl⟩
        obtain ⟨dk, hdk⟩ : ∃ l, nD kk = l := ⟨_, rfl⟩
        obtain ⟨xk, hxk⟩ : ∃ l : List Int, [] = l := ⟨_, rfl⟩
        rw [hsk, hdk, hxk] at hca
        have HCK := Hd.mk hca
        have HSK := Hd.mk (And.intro hsk (And.intro hdk hxk))
        have HK24 := Hd.mk hk24
        have HIN2 : Hd (∀ n : Int, st.all may = true → rds n st 0 = true → Inn n (og st d x 0)) := ⟨fun n _ h => HRIN.out n h⟩
        have HKK := Hd.mk hkk
        clear hrd hca hsk hdk hxk hkk hk24 hok HI HP HBL
        go_upto_region 19 with fail
        rw [HKK.out]
        clear HKK
        go_cut [14, 15] (fun v9 v10 W => ∃ b9 G0 p0 G1 p1 G2 p2, v9 = .pointer (some ⟨b9, 0, none⟩) ∧ v10 = .int .i64 0 ∧ Hd (EdC W G0 p0 S G1 p1 D G2 p2 X) ∧
          Hd (W.heap[b9]? = some (.cells #[.slice G0 S.length p0, .slice G1 D.length p1, .slice G2 X.length p2] 28 (0, 0))) ∧ Hd (Below wr.heap.size wr W))
        case first =>
          have HB0 : Hd (Below wr.drew.heap.size wr.drew wr.drew) := ⟨Below.refl _ _⟩
          have hT1 := blk_drew HY.out
          have c0_ : wr.drew.cell? ⟨w.heap.size, 0, none⟩ = some (.slice A0 st.length c0) := (blk_cell hT1 0).trans rfl
          have c1_ : wr.drew.cell? ⟨w.heap.size, 1, none⟩ = some (.slice A1 d.length c1) := (blk_cell hT1 1).trans rfl
          have c2_ : wr.drew.cell? ⟨w.heap.size, 2, none⟩ = some (.slice A2 x.length c2) := (blk_cell hT1 2).trans rfl
          have hS3 := And.intro c0_ (And.intro c1_ c2_)
          have HEB := Hd.mk (HE.out.below (Below.drew' wr))
          clear c0_ c1_ c2_ hT1
          obtain ⟨wb, hwb⟩ : ∃ v, wr.drew = v := ⟨_, rfl⟩
          refine start_ (n := 10) (S := fun w' => w'.cell? ⟨w.heap.size, 0, none⟩ = some (.slice A0 st.length c0) ∧ w'.cell? ⟨w.heap.size, 1, none⟩ = some (.slice A1 d.length c1) ∧ w'.cell? ⟨w.heap.size, 2, none⟩ = some (.slice A2 x.length c2)) (ds := [8]) #[F,F,F,F,F,F,F,F,F,F] (by kernel_rfl) rfl rfl hS3 (fun hHeld => ?_)
          rw [hwb] at hS3 HB0 HEB hHeld ⊢
          refine pure_ (i := 0) (N := some 111) (v := ?_) (a' := ?_) #[T,F,F,F,F,F,F,F,F,F] rfl rfl (by kernel_rfl) (fun _ _ _ h => h) (Or.inl ⟨by rfl, ?_⟩) ?_ ?_
          rotate_left
          · intro w'
            go_simp
            with_reducible rfl
          rotate_left
          · go_simp
            rfl
          refine take_ (i := 2) (N := some 113) (v := ?_) (a' := ?_) #[T,F,T,F,F,F,F,F,F,F] rfl rfl (by kernel_rfl) (fun _ _ _ h => h) (Or.inl ⟨by rfl, ?_⟩) hHeld ?_ ?_
          rotate_left
          · rintro w' ⟨s0, s1, s2⟩
            go_simp
            with_reducible rfl
          rotate_left
          · go_simp
            rfl
          refine two_ (i := 1) (j := 7) (Ni := some 112) (Nj := some 14) #[T,T,T,F,F,F,F,F,F,F] #[T,F,T,F,F,F,F,T,F,F] rfl rfl rfl rfl (by kernel_rfl) (by decide) (by decide) (fun K hK => ?_) (fun K hK => ?_)
          · skip
            refine goes_ Try.func48 (by kernel_rfl) rfl #[.int .i64 (kk : Int)] (by rfl) rfl rfl (by simp only [List.map_toArray, List.map_cons, List.map_nil]; rfl) ?_
            refine (nothing_m HK24.out HSK.out.1 HSK.out.2.1 HSK.out.2.2 _).mono ?_
            rintro e wv1 ⟨N0, q0, N1, q1, N2, q2, rfl, hD, hbn⟩
            refine ⟨_, rfl, ?_⟩
            have HN9 := Hd.mk hD
            clear hD
            have HB1 := Hd.mk (below_step HB0.out hbn)
            clear hbn
            refine hK.out _ _ (far3 HB1.out hS3) (fun hHeld => ?_)
            clear hK K
            refine norm_ (a' := ?_) ?_ ?_
            rotate_left
            · show Act.put _ (some 112) _ = _
              go_simp
              rfl
            refine two_ (i := 3) (j := 7) (Ni := some 114) (Nj := some 14) #[T,T,T,T,F,F,F,F,F,F] #[T,T,T,F,F,F,F,T,F,F] rfl rfl rfl rfl (by kernel_rfl) (by decide) (by decide) (fun K hK => ?_) (fun K hK => ?_)
            · skip
              refine goes_ Try.func45 (by kernel_rfl) rfl #[.agg #[.slice N0 sk.length q0, .slice N1 dk.length q1, .slice N2 xk.length q2], .agg #[.slice A0 st.length c0, .slice A1 d.length c1, .slice A2 x.length c2]] (by rfl) rfl rfl (by simp only [List.map_toArray, List.map_cons, List.map_nil]; rfl) ?_
              refine (compose_m HN9.out (HEB.out.below HB1.out) HIN2.out HCK.out).mono ?_
              rintro e wv2 ⟨G0, p0, G1, p1, G2, p2, rfl, hD, hbn⟩
              refine ⟨_, rfl, ?_⟩
              have HD9 := Hd.mk hD
              replace HN9 := Hd.mk (HN9.out.below hbn)
              clear hD
              have HB2 := Hd.mk (below_step HB1.out hbn)
              clear hbn
              refine hK.out _ _ (far3 HB2.out hS3) (fun hHeld => ?_)
              clear hK K
              refine norm_ (a' := ?_) ?_ ?_
              rotate_left
              · show Act.put _ (some 114) _ = _
                go_simp
                rfl
              refine pure_ (i := 4) (N := some 110) (v := ?_) (a' := ?_) #[T,T,T,T,T,F,F,F,F,F] rfl rfl (by kernel_rfl) (fun _ _ _ h => h) (Or.inl ⟨by rfl, ?_⟩) ?_ ?_
              rotate_left
              · intro w'
                go_simp
                with_reducible rfl
              rotate_left
              · go_simp
                rfl
              refine pure_ (i := 5) (N := some 115) (v := ?_) (a' := ?_) #[T,T,T,T,T,T,F,F,F,F] rfl rfl (by kernel_rfl) (fun _ _ _ h => h) (Or.inl ⟨by rfl, ?_⟩) ?_ ?_
              rotate_left
              · intro w'
                go_simp
                with_reducible rfl
              rotate_left
              · go_simp
                rfl
              refine pure_ (i := 6) (N := some 116) (v := ?_) (a' := ?_) #[T,T,T,T,T,T,T,F,F,F] rfl rfl (by kernel_rfl) (fun _ _ _ h => h) (Or.inl ⟨by rfl, ?_⟩) ?_ ?_
              rotate_left
              · intro w'
                go_simp
                with_reducible rfl
              rotate_left
              · go_simp
                rfl
              refine one_ (i := 7) (N := some 14) #[T,T,T,T,T,T,T,T,F,F] rfl rfl (by kernel_rfl) (by decide) (fun K hK => ?_)
              refine value_ (w1 := ?_) (v := ?_) (by rfl) rfl ?_ ?_
              rotate_left 2
              · go_simp
                constructor
                · rfl
                · rfl
              have hsz := HB2.out.size
              obtain ⟨b9, wv3, hb9, hw3, hbn, hnw⟩ := newbox wv2
              have hs9 : wb.heap.size ≤ b9 := by omega
              rw [hw3, ← hb9]
              have HB3 := Hd.mk (below_step HB2.out hbn)
              have H9 := Hd.mk hnw
              replace HN9 := Hd.mk (HN9.out.below hbn)
              replace HD9 := Hd.mk (HD9.out.below hbn)
              clear hbn hnw hw3 hb9 hsz
              refine hK.out _ _ (far3 HB3.out hS3) (fun hHeld => ?_)
              clear hK K
              refine norm_ (a' := ?_) ?_ ?_
              rotate_left
              · show Act.put _ (some 14) _ = _
                go_simp
                rfl
              obtain ⟨q0, q1, q2, f0, f1, f2⟩ := none3 H9.out
              refine last_ (i := 8) (N := none) #[T,T,T,T,T,T,T,T,T,F] rfl rfl (by kernel_rfl) (by decide) (fun K hK => ?_)
              refine skip_ (w1 := ?_) (by rfl) rfl ?_ ?_
              rotate_left
              · go_simp
                rfl
              refine hK.out _ _ ?_
              clear hK K q0 q1 q2 f0 f1 f2
              refine pure_ (i := 9) (N := some 15) (v := ?_) (a' := ?_) #[T,T,T,T,T,T,T,T,T,T] rfl rfl (by kernel_rfl) (fun _ _ _ h => h) (Or.inl ⟨by rfl, ?_⟩) ?_ ?_
              rotate_left
              · intro w'
                go_simp
                with_reducible rfl
              rotate_left
              · go_simp
                rfl
              refine done_ (by kernel_rfl) ?_
              clear hHeld
              go_wp2_with fail
              go_meet
              case rel =>
                have hd2 := EdC.set3 HD9.out H9.out G0 S.length p0 G1 D.length p1 G2 X.length p2
                have hbb := ((HB3.out.setCell hs9 (.slice G0 S.length p0) (p := ⟨b9, 0, none⟩)).setCell hs9 (.slice G1 D.length p1) (p := ⟨b9, 1, none⟩)).setCell hs9 (.slice G2 X.length p2) (p := ⟨b9, 2, none⟩)
                subst hwb
                exact ⟨b9, G0, p0, G1, p1, G2, p2, rfl, rfl, ⟨hd2⟩, ⟨blk3s H9.out _ _ _⟩, ⟨below_step (Below.drew' wr) hbb⟩⟩
            · skip
              refine value_ (w1 := ?_) (v := ?_) (by rfl) rfl ?_ ?_
              rotate_left 2
              · go_simp
                constructor
                · rfl
                · rfl
              have hsz := HB1.out.size
              obtain ⟨b9, wv2, hb9, hw2, hbn, hnw⟩ := newbox wv1
              have hs9 : wb.heap.size ≤ b9 := by omega
              rw [hw2, ← hb9]
              have HB2 := Hd.mk (below_step HB1.out hbn)
              have H9 := Hd.mk hnw
              replace HN9 := Hd.mk (HN9.out.below hbn)
              clear hbn hnw hw2 hb9 hsz
              refine hK.out _ _ (far3 HB2.out hS3) (fun hHeld => ?_)
              clear hK K
              refine norm_ (a' := ?_) ?_ ?_
              rotate_left
              · show Act.put _ (some 14) _ = _
                go_simp
                rfl
              refine one_ (i := 3) (N := some 114) #[T,T,T,T,F,F,F,T,F,F] rfl rfl (by kernel_rfl) (by decide) (fun K hK => ?_)
              refine goes_ Try.func45 (by kernel_rfl) rfl #[.agg #[.slice N0 sk.length q0, .slice N1 dk.length q1, .slice N2 xk.length q2], .agg #[.slice A0 st.length c0, .slice A1 d.length c1, .slice A2 x.length c2]] (by rfl) rfl rfl (by simp only [List.map_toArray, List.map_cons, List.map_nil]; rfl) ?_
              refine (compose_m HN9.out (HEB.out.below HB2.out) HIN2.out HCK.out).mono ?_
              rintro e wv3 ⟨G0, p0, G1, p1, G2, p2, rfl, hD, hbn⟩
              refine ⟨_, rfl, ?_⟩
              have HD9 := Hd.mk hD
              replace HN9 := Hd.mk (HN9.out.below hbn)
              clear hD
              have HB3 := Hd.mk (below_step HB2.out hbn)
              replace H9 := Hd.mk (blk_below H9.out hbn)
              clear hbn
              refine hK.out _ _ (far3 HB3.out hS3) (fun hHeld => ?_)
              clear hK K
              refine norm_ (a' := ?_) ?_ ?_
              rotate_left
              · show Act.put _ (some 114) _ = _
                go_simp
                rfl
              refine pure_ (i := 4) (N := some 110) (v := ?_) (a' := ?_) #[T,T,T,T,T,F,F,T,F,F] rfl rfl (by kernel_rfl) (fun _ _ _ h => h) (Or.inl ⟨by rfl, ?_⟩) ?_ ?_
              rotate_left
              · intro w'
                go_simp
                with_reducible rfl
              rotate_left
              · go_simp
                rfl
              refine pure_ (i := 5) (N := some 115) (v := ?_) (a' := ?_) #[T,T,T,T,T,T,F,T,F,F] rfl rfl (by kernel_rfl) (fun _ _ _ h => h) (Or.inl ⟨by rfl, ?_⟩) ?_ ?_
              rotate_left
              · intro w'
                go_simp
                with_reducible rfl
              rotate_left
              · go_simp
                rfl
              refine pure_ (i := 6) (N := some 116) (v := ?_) (a' := ?_) #[T,T,T,T,T,T,T,T,F,F] rfl rfl (by kernel_rfl) (fun _ _ _ h => h) (Or.inl ⟨by rfl, ?_⟩) ?_ ?_
              rotate_left
              · intro w'
                go_simp
                with_reducible rfl
              rotate_left
              · go_simp
                rfl
              obtain ⟨q0, q1, q2, f0, f1, f2⟩ := none3 H9.out
              refine last_ (i := 8) (N := none) #[T,T,T,T,T,T,T,T,T,F] rfl rfl (by kernel_rfl) (by decide) (fun K hK => ?_)
              refine skip_ (w1 := ?_) (by rfl) rfl ?_ ?_
              rotate_left
              · go_simp
                rfl
              refine hK.out _ _ ?_
              clear hK K q0 q1 q2 f0 f1 f2
              refine pure_ (i := 9) (N := some 15) (v := ?_) (a' := ?_) #[T,T,T,T,T,T,T,T,T,T] rfl rfl (by kernel_rfl) (fun _ _ _ h => h) (Or.inl ⟨by rfl, ?_⟩) ?_ ?_
              rotate_left
              · intro w'
                go_simp
                with_reducible rfl
              rotate_left
              · go_simp
                rfl
              refine done_ (by kernel_rfl) ?_
              clear hHeld
              go_wp2_with fail
              go_meet
              case rel =>
                have hd2 := EdC.set3 HD9.out H9.out G0 S.length p0 G1 D.length p1 G2 X.length p2
                have hbb := ((HB3.out.setCell hs9 (.slice G0 S.length p0) (p := ⟨b9, 0, none⟩)).setCell hs9 (.slice G1 D.length p1) (p := ⟨b9, 1, none⟩)).setCell hs9 (.slice G2 X.length p2) (p := ⟨b9, 2, none⟩)
                subst hwb
                exact ⟨b9, G0, p0, G1, p1, G2, p2, rfl, rfl, ⟨hd2⟩, ⟨blk3s H9.out _ _ _⟩, ⟨below_step (Below.drew' wr) hbb⟩⟩
          · skip
            refine value_ (w1 := ?_) (v := ?_) (by rfl) rfl ?_ ?_
            rotate_left 2
            · go_simp
              constructor
              · rfl
              · rfl
            have hsz := HB0.out.size
            obtain ⟨b9, wv1, hb9, hw1, hbn, hnw⟩ := newbox wb
            have hs9 : wb.heap.size ≤ b9 := by omega
            rw [hw1, ← hb9]
            have HB1 := Hd.mk (below_step HB0.out hbn)
            have H9 := Hd.mk hnw
            have hlt9 := blk_lt H9.out
            clear hbn hnw hw1 hb9 hsz
            refine hK.out _ _ (far3 HB1.out hS3) (fun hHeld => ?_)
            clear hK K
            refine norm_ (a' := ?_) ?_ ?_
            rotate_left
            · show Act.put _ (some 14) _ = _
              go_simp
              rfl
            refine one_ (i := 1) (N := some 112) #[T,T,T,F,F,F,F,T,F,F] rfl rfl (by kernel_rfl) (by decide) (fun K hK => ?_)
            refine goes_ Try.func48 (by kernel_rfl) rfl #[.int .i64 (kk : Int)] (by rfl) rfl rfl (by simp only [List.map_toArray, List.map_cons, List.map_nil]; rfl) ?_
            refine (nothing_m HK24.out HSK.out.1 HSK.out.2.1 HSK.out.2.2 _).mono ?_
            rintro e wv2 ⟨N0, q0, N1, q1, N2, q2, rfl, hD, hbn⟩
            refine ⟨_, rfl, ?_⟩
            have HN9 := Hd.mk hD
            clear hD
            have HB2 := Hd.mk (below_step HB1.out hbn)
            replace H9 := Hd.mk (blk_below H9.out hbn)
            clear hbn
            refine hK.out _ _ (far3 HB2.out hS3) (fun hHeld => ?_)
            clear hK K
            refine norm_ (a' := ?_) ?_ ?_
            rotate_left
            · show Act.put _ (some 112) _ = _
              go_simp
              rfl
            refine one_ (i := 3) (N := some 114) #[T,T,T,T,F,F,F,T,F,F] rfl rfl (by kernel_rfl) (by decide) (fun K hK => ?_)
            refine goes_ Try.func45 (by kernel_rfl) rfl #[.agg #[.slice N0 sk.length q0, .slice N1 dk.length q1, .slice N2 xk.length q2], .agg #[.slice A0 st.length c0, .slice A1 d.length c1, .slice A2 x.length c2]] (by rfl) rfl rfl (by simp only [List.map_toArray, List.map_cons, List.map_nil]; rfl) ?_
            refine (compose_m HN9.out (HEB.out.below HB2.out) HIN2.out HCK.out).mono ?_
            rintro e wv3 ⟨G0, p0, G1, p1, G2, p2, rfl, hD, hbn⟩
            refine ⟨_, rfl, ?_⟩
            have HD9 := Hd.mk hD
            replace HN9 := Hd.mk (HN9.out.below hbn)
            clear hD
            have HB3 := Hd.mk (below_step HB2.out hbn)
            replace H9 := Hd.mk (blk_below H9.out hbn)
            clear hbn
            refine hK.out _ _ (far3 HB3.out hS3) (fun hHeld => ?_)
            clear hK K
            refine norm_ (a' := ?_) ?_ ?_
            rotate_left
            · show Act.put _ (some 114) _ = _
              go_simp
              rfl
            refine pure_ (i := 4) (N := some 110) (v := ?_) (a' := ?_) #[T,T,T,T,T,F,F,T,F,F] rfl rfl (by kernel_rfl) (fun _ _ _ h => h) (Or.inl ⟨by rfl, ?_⟩) ?_ ?_
            rotate_left
            · intro w'
              go_simp
              with_reducible rfl
            rotate_left
            · go_simp
              rfl
            refine pure_ (i := 5) (N := some 115) (v := ?_) (a' := ?_) #[T,T,T,T,T,T,F,T,F,F] rfl rfl (by kernel_rfl) (fun _ _ _ h => h) (Or.inl ⟨by rfl, ?_⟩) ?_ ?_
            rotate_left
            · intro w'
              go_simp
              with_reducible rfl
            rotate_left
            · go_simp
              rfl
            refine pure_ (i := 6) (N := some 116) (v := ?_) (a' := ?_) #[T,T,T,T,T,T,T,T,F,F] rfl rfl (by kernel_rfl) (fun _ _ _ h => h) (Or.inl ⟨by rfl, ?_⟩) ?_ ?_
            rotate_left
            · intro w'
              go_simp
              with_reducible rfl
            rotate_left
            · go_simp
              rfl
            obtain ⟨q0, q1, q2, f0, f1, f2⟩ := none3 H9.out
            refine last_ (i := 8) (N := none) #[T,T,T,T,T,T,T,T,T,F] rfl rfl (by kernel_rfl) (by decide) (fun K hK => ?_)
            refine skip_ (w1 := ?_) (by rfl) rfl ?_ ?_
            rotate_left
            · go_simp
              rfl
            refine hK.out _ _ ?_
            clear hK K q0 q1 q2 f0 f1 f2
            refine pure_ (i := 9) (N := some 15) (v := ?_) (a' := ?_) #[T,T,T,T,T,T,T,T,T,T] rfl rfl (by kernel_rfl) (fun _ _ _ h => h) (Or.inl ⟨by rfl, ?_⟩) ?_ ?_
            rotate_left
            · intro w'
              go_simp
              with_reducible rfl
            rotate_left
            · go_simp
              rfl
            refine done_ (by kernel_rfl) ?_
            clear hHeld
            go_wp2_with fail
            go_meet
            case rel =>
              have hd2 := EdC.set3 HD9.out H9.out G0 S.length p0 G1 D.length p1 G2 X.length p2
              have hbb := ((HB3.out.setCell hs9 (.slice G0 S.length p0) (p := ⟨b9, 0, none⟩)).setCell hs9 (.slice G1 D.length p1) (p := ⟨b9, 1, none⟩)).setCell hs9 (.slice G2 X.length p2) (p := ⟨b9, 2, none⟩)
              subst hwb
              exact ⟨b9, G0, p0, G1, p1, G2, p2, rfl, rfl, ⟨hd2⟩, ⟨blk3s H9.out _ _ _⟩, ⟨below_step (Below.drew' wr) hbb⟩⟩
        case rest =>
          obtain ⟨bz, G0, p0, G1, p1, G2, p2, rfl, rfl, HG, HU, HBC⟩ := hcut
          obtain ⟨w6, hw6⟩ : ∃ v, v = wc := ⟨_, rfl⟩
          subst hw6
          clear cHY0 cHY1 cHY2 cHT0 cHT1 cHT2
          replace HB := Hd.mk (below_step HB.out HBC.out)
          replace HE := Hd.mk (HE.out.below HBC.out)
          replace HY := Hd.mk (blk_below HY.out HBC.out)
          replace HK := Hd.mk (HK.out.below HBC.out)
          replace HT := Hd.mk (blk_below HT.out HBC.out)
          have cHY0 := blk_cell HY.out 0
          have cHY1 := blk_cell HY.out 1
          have cHY2 := blk_cell HY.out 2
          have cHT0 := blk_cell HT.out 0
          have cHT1 := blk_cell HT.out 1
          have cHT2 := blk_cell HT.out 2
          simp at cHY0 cHY1 cHY2 cHT0 cHT1 cHT2
          have cU0 := blk_cell HU.out 0
          have cU1 := blk_cell HU.out 1
          have cU2 := blk_cell HU.out 2
          simp at cU0 cU1 cU2
          clear HBC
          go_wp2_with fail
          refine (alikeA_c HG.out HK.out HSM.out).mono ?_
          rintro e w7 ⟨rfl, hb7⟩
          have H7 := Hd.mk (below_step HB.out hb7)
          clear hb7
          go_wp2
          go_ret
          exact ⟨by simp, H7.out⟩
      · have hlt : decide ((i : Int) < (st.length : Int)) = true := decide_eq_true (by omega)
        have hng : decide ((0 : Int) ≤ (i : Int)) = true := decide_eq_true (by omega)
        have hil : i < st.length := by omega
        obtain ⟨ad, e, s0, s1, s2⟩ := at_T80 HE.out.s i (by omega) (by omega)
        subst e
        clear cHY0 cHY1 cHY2 cHT0 cHT1 cHT2
        have cHT0 := blk_cell HT.out 0
        have cHT1 := blk_cell HT.out 1
        have cHT2 := blk_cell HT.out 2
        have cHY0 := blk_cell HY.out 0
        have cHY1 := blk_cell HY.out 1
        have cHY2 := blk_cell HY.out 2
        simp at cHT0 cHT1 cHT2 cHY0 cHY1 cHY2
        have hmy := all_drop HMAY.out i
        have hI := HI.out
        rw [drop_rd st i hil] at hmy hI
        simp only [List.all_cons, Bool.and_eq_true] at hmy
        have hs := (may_iff _).1 hmy.1
        obtain ⟨⟨q0, q1, q2⟩, hg⟩ : ∃ s, rd_T80 st (i : Int) = s := ⟨_, rfl⟩
        rw [hg] at s0 s1 s2 hs hI
        rw [Int.toNat_natCast] at s0 s1 s2
        simp only [rds] at s0 s1 s2 hs hI
        have hpw : wrap64 (a + q0) = wrap64 (p + q0) := by rw [← HP.out, w64_add]
        rw [HP.out, hpw] at hI
        by_cases hq0 : 0 < q0
        · by_cases hp0 : p < 0
          · clear hI hpw hmy hs
            go_wp2
            go_ret
            exact ⟨by simp, HB.out⟩
          · obtain ⟨z, hz⟩ : ∃ z, wrap64 (p + q0) = z := ⟨_, rfl⟩
            by_cases hz0 : 16777216 < z
            · rw [← hz] at hz0
              clear hI hpw hmy hs hz
              go_wp2
              go_ret
              exact ⟨by simp, HB.out⟩
            · by_cases hzo : (o : Int) < z
              · have HIN : Hd (∀ n : Int, ((z.toNat : Nat) : Int) ≤ n → rds n (st.drop (i + 1)) (a + q0 + q2) = true → rds n st 0 = true) := ⟨fun n hn h => hI n (by omega) (by rw [if_neg (by rw [hz]; omega)]; exact h)⟩
                have hzz : ((z.toNat : Nat) : Int) = z := by omega
                have hzl : z.toNat ≤ 16777216 := by omega
                have HZZ := Hd.mk (hzz.trans hz.symm)
                rw [← hz] at hz0 hzo
                clear hI hpw hmy hz hzz
                go_upto_region 17 with fail
                have HBW := Hd.mk (below_step HBL.out (Below.drew' wr))
                have s0' := pw_cell_below (Below.drew' wr) s0
                have s2' := pw_cell_below (Below.drew' wr) s2
                clear cHT0 cHT1 cHT2 cHY0 cHY1 cHY2
                replace HB := Hd.mk (below_step HB.out (Below.drew' wr))
                replace HE := Hd.mk (HE.out.below (Below.drew' wr))
                replace HK := Hd.mk (HK.out.below (Below.drew' wr))
                replace HT := Hd.mk (blk_below HT.out (Below.drew' wr))
                replace HY := Hd.mk (blk_below HY.out (Below.drew' wr))
                have cHT0 := blk_cell HT.out 0
                have cHT1 := blk_cell HT.out 1
                have cHT2 := blk_cell HT.out 2
                have cHY0 := blk_cell HY.out 0
                have cHY1 := blk_cell HY.out 1
                have cHY2 := blk_cell HY.out 2
                simp at cHT0 cHT1 cHT2 cHY0 cHY1 cHY2
                refine start_ (n := 16) (S := fun w' => w'.cell? ⟨bt, 0, none⟩ = some (.slice E0 S.length f0) ∧ w'.cell? ⟨bt, 1, none⟩ = some (.slice E1 D.length f1) ∧ w'.cell? ⟨bt, 2, none⟩ = some (.slice E2 X.length f2) ∧ w'.cell? ⟨w.heap.size, 0, none⟩ = some (.slice (some ad) st.length c0) ∧ w'.cell? ⟨w.heap.size, 1, none⟩ = some (.slice A1 d.length c1) ∧ w'.cell? ⟨w.heap.size, 2, none⟩ = some (.slice A2 x.length c2) ∧ w'.cell? (ad.add (i * 3)) = some (.int .i64 q0) ∧ w'.cell? ⟨(ad.add (i * 3)).block, (ad.add (i * 3)).off + 2, none⟩ = some (.int .i64 q2)) (ds := []) #[F,F,F,F,F,F,F,F,F,F,F,F,F,F,F,F] (by kernel_rfl) rfl rfl ⟨cHT0, cHT1, cHT2, cHY0, cHY1, cHY2, s0', s2'⟩ (fun hHeld => ?_)
                refine pure_ (i := 0) (N := some 89) (v := ?_) (a' := ?_) #[T,F,F,F,F,F,F,F,F,F,F,F,F,F,F,F] rfl rfl (by kernel_rfl) (fun _ _ _ h => h) (Or.inl ⟨by rfl, ?_⟩) ?_ ?_
                rotate_left
                · intro w'
                  go_simp
                  with_reducible rfl
                rotate_left
                · go_simp
                  rfl
                refine pure_ (i := 1) (N := some 90) (v := ?_) (a' := ?_) #[T,T,F,F,F,F,F,F,F,F,F,F,F,F,F,F] rfl rfl (by kernel_rfl) (fun _ _ _ h => h) (Or.inl ⟨by rfl, ?_⟩) ?_ ?_
                rotate_left
                · intro w'
                  go_simp
                  with_reducible rfl
                rotate_left
                · go_simp
                  rfl
                refine pure_ (i := 3) (N := some 92) (v := ?_) (a' := ?_) #[T,T,F,T,F,F,F,F,F,F,F,F,F,F,F,F] rfl rfl (by kernel_rfl) (fun _ _ _ h => h) (Or.inl ⟨by rfl, ?_⟩) ?_ ?_
                rotate_left
                · intro w'
                  go_simp
                  with_reducible rfl
                rotate_left
                · go_simp
                  rfl
                refine pure_ (i := 7) (N := some 96) (v := ?_) (a' := ?_) #[T,T,F,T,F,F,F,T,F,F,F,F,F,F,F,F] rfl rfl (by kernel_rfl) (fun _ _ _ h => h) (Or.inl ⟨by rfl, ?_⟩) ?_ ?_
                rotate_left
                · intro w'
                  go_simp
                  with_reducible rfl
                rotate_left
                · go_simp
                  rfl
                refine pure_ (i := 9) (N := some 98) (v := ?_) (a' := ?_) #[T,T,F,T,F,F,F,T,F,T,F,F,F,F,F,F] rfl rfl (by kernel_rfl) (fun _ _ _ h => h) (Or.inl ⟨by rfl, ?_⟩) ?_ ?_
                rotate_left
                · intro w'
                  go_simp
                  with_reducible rfl
                rotate_left
                · go_simp
                  rfl
                refine take_ (i := 2) (N := some 91) (v := ?_) (a' := ?_) #[T,T,T,T,F,F,F,T,F,T,F,F,F,F,F,F] rfl rfl (by kernel_rfl) (fun _ _ _ h => h) (Or.inl ⟨by rfl, ?_⟩) hHeld ?_ ?_
                rotate_left
                · rintro w' ⟨s0, s1, s2, s3, s4, s5, s6, s7⟩
                  go_simp
                  with_reducible rfl
                rotate_left
                · go_simp
                  rfl
                refine pure_ (i := 4) (N := some 93) (v := ?_) (a' := ?_) #[T,T,T,T,T,F,F,T,F,T,F,F,F,F,F,F] rfl rfl (by kernel_rfl) (fun _ _ _ h => h) (Or.inl ⟨by rfl, ?_⟩) ?_ ?_
                rotate_left
                · intro w'
                  go_simp
                  with_reducible rfl
                rotate_left
                · go_simp
                  rfl
                refine pure_ (i := 5) (N := some 94) (v := ?_) (a' := ?_) #[T,T,T,T,T,T,F,T,F,T,F,F,F,F,F,F] rfl rfl (by kernel_rfl) (fun _ _ _ h => h) (Or.inl ⟨by rfl, ?_⟩) ?_ ?_
                rotate_left
                · intro w'
                  go_simp
                  with_reducible rfl
                rotate_left
                · go_simp
                  rfl
                refine take_ (i := 6) (N := some 95) (v := ?_) (a' := ?_) #[T,T,T,T,T,T,T,T,F,T,F,F,F,F,F,F] rfl rfl (by kernel_rfl) (fun _ _ _ h => h) (Or.inl ⟨by rfl, ?_⟩) hHeld ?_ ?_
                rotate_left
                · rintro w' ⟨s0, s1, s2, s3, s4, s5, s6, s7⟩
                  go_simp
                  with_reducible rfl
                rotate_left
                · go_simp
                  rfl
                refine take_ (i := 8) (N := some 97) (v := ?_) (a' := ?_) #[T,T,T,T,T,T,T,T,T,T,F,F,F,F,F,F] rfl rfl (by kernel_rfl) (fun _ _ _ h => h) (Or.inl ⟨by rfl, ?_⟩) hHeld ?_ ?_
                rotate_left
                · rintro w' ⟨s0, s1, s2, s3, s4, s5, s6, s7⟩
                  go_simp
                  with_reducible rfl
                rotate_left
                · go_simp
                  rfl
                refine pure_ (i := 10) (N := some 99) (v := ?_) (a' := ?_) #[T,T,T,T,T,T,T,T,T,T,T,F,F,F,F,F] rfl rfl (by kernel_rfl) (fun _ _ _ h => h) (Or.inl ⟨by rfl, ?_⟩) ?_ ?_
                rotate_left
                · intro w'
                  go_simp
                  with_reducible rfl
                rotate_left
                · go_simp
                  rfl
                refine pure_ (i := 11) (N := some 100) (v := ?_) (a' := ?_) #[T,T,T,T,T,T,T,T,T,T,T,T,F,F,F,F] rfl rfl (by kernel_rfl) (fun _ _ _ h => h) (Or.inl ⟨by rfl, ?_⟩) ?_ ?_
                rotate_left
                · intro w'
                  go_simp
                  with_reducible rfl
                rotate_left
                · go_simp
                  rfl
                refine take_ (i := 12) (N := some 101) (v := ?_) (a' := ?_) #[T,T,T,T,T,T,T,T,T,T,T,T,T,F,F,F] rfl rfl (by kernel_rfl) (fun _ _ _ h => h) (Or.inl ⟨by rfl, ?_⟩) hHeld ?_ ?_
                rotate_left
                · rintro w' ⟨s0, s1, s2, s3, s4, s5, s6, s7⟩
                  go_simp
                  with_reducible rfl
                rotate_left
                · go_simp
                  rfl
                refine pure_ (i := 13) (N := some 102) (v := ?_) (a' := ?_) #[T,T,T,T,T,T,T,T,T,T,T,T,T,T,F,F] rfl rfl (by kernel_rfl) (fun _ _ _ h => h) (Or.inl ⟨by rfl, ?_⟩) ?_ ?_
                rotate_left
                · intro w'
                  go_simp
                  with_reducible rfl
                rotate_left
                · go_simp
                  rfl
                refine pure_ (i := 14) (N := some 103) (v := ?_) (a' := ?_) #[T,T,T,T,T,T,T,T,T,T,T,T,T,T,T,F] rfl rfl (by kernel_rfl) (fun _ _ _ h => h) (Or.inl ⟨by rfl, ?_⟩) ?_ ?_
                rotate_left
                · intro w'
                  go_simp
                  with_reducible rfl
                rotate_left
                · go_simp
                  rfl
                refine pure_ (i := 15) (N := some 12) (v := ?_) (a' := ?_) #[T,T,T,T,T,T,T,T,T,T,T,T,T,T,T,T] rfl rfl (by kernel_rfl) (fun _ _ _ h => h) (Or.inl ⟨by rfl, ?_⟩) ?_ ?_
                rotate_left
                · intro w'
                  go_simp
                  with_reducible rfl
                rotate_left
                · go_simp
                  rfl
                refine done_ (by kernel_rfl) ?_
                clear hHeld
                go_wp2
                go_roundg gk
                case measure => omega
                case rel => exact ⟨i + 1, a + q0 + q2, wrap64 (p + wrap64 (q0 + q2)), z.toNat, by rw [HZZ.out], by simp only [i64_w], by go_num, by omega, by omega, ⟨by rw [← HP.out, w64_add, w64_add', Int.add_assoc]⟩, HIN, HBW⟩
              · have HIN : Hd (∀ n : Int, (o : Int) ≤ n → rds n (st.drop (i + 1)) (a + q0 + q2) = true → rds n st 0 = true) := ⟨fun n hn h => hI n hn (by rw [if_neg (by rw [hz]; omega)]; exact h)⟩
                rw [← hz] at hz0 hzo
                clear hI hpw hmy hz
                go_upto_region 17 with fail
                have HBW := Hd.mk (below_step HBL.out (Below.drew' wr))
                have s0' := pw_cell_below (Below.drew' wr) s0
                have s2' := pw_cell_below (Below.drew' wr) s2
                clear cHT0 cHT1 cHT2 cHY0 cHY1 cHY2
                replace HB := Hd.mk (below_step HB.out (Below.drew' wr))
                replace HE := Hd.mk (HE.out.below (Below.drew' wr))
                replace HK := Hd.mk (HK.out.below (Below.drew' wr))
                replace HT := Hd.mk (blk_below HT.out (Below.drew' wr))
                replace HY := Hd.mk (blk_below HY.out (Below.drew' wr))
                have cHT0 := blk_cell HT.out 0
                have cHT1 := blk_cell HT.out 1
                have cHT2 := blk_cell HT.out 2
                have cHY0 := blk_cell HY.out 0
                have cHY1 := blk_cell HY.out 1
                have cHY2 := blk_cell HY.out 2
                simp at cHT0 cHT1 cHT2 cHY0 cHY1 cHY2
                refine start_ (n := 16) (S := fun w' => w'.cell? ⟨bt, 0, none⟩ = some (.slice E0 S.length f0) ∧ w'.cell? ⟨bt, 1, none⟩ = some (.slice E1 D.length f1) ∧ w'.cell? ⟨bt, 2, none⟩ = some (.slice E2 X.length f2) ∧ w'.cell? ⟨w.heap.size, 0, none⟩ = some (.slice (some ad) st.length c0) ∧ w'.cell? ⟨w.heap.size, 1, none⟩ = some (.slice A1 d.length c1) ∧ w'.cell? ⟨w.heap.size, 2, none⟩ = some (.slice A2 x.length c2) ∧ w'.cell? (ad.add (i * 3)) = some (.int .i64 q0) ∧ w'.cell? ⟨(ad.add (i * 3)).block, (ad.add (i * 3)).off + 2, none⟩ = some (.int .i64 q2)) (ds := []) #[F,F,F,F,F,F,F,F,F,F,F,F,F,F,F,F] (by kernel_rfl) rfl rfl ⟨cHT0, cHT1, cHT2, cHY0, cHY1, cHY2, s0', s2'⟩ (fun hHeld => ?_)
                refine pure_ (i := 0) (N := some 89) (v := ?_) (a' := ?_) #[T,F,F,F,F,F,F,F,F,F,F,F,F,F,F,F] rfl rfl (by kernel_rfl) (fun _ _ _ h => h) (Or.inl ⟨by rfl, ?_⟩) ?_ ?_
                rotate_left
                · intro w'
                  go_simp
                  with_reducible rfl
                rotate_left
                · go_simp
                  rfl
                refine pure_ (i := 1) (N := some 90) (v := ?_) (a' := ?_) #[T,T,F,F,F,F,F,F,F,F,F,F,F,F,F,F] rfl rfl (by kernel_rfl) (fun _ _ _ h => h) (Or.inl ⟨by rfl, ?_⟩) ?_ ?_
                rotate_left
                · intro w'
                  go_simp
                  with_reducible rfl
                rotate_left
                · go_simp
                  rfl
                refine pure_ (i := 3) (N := some 92) (v := ?_) (a' := ?_) #[T,T,F,T,F,F,F,F,F,F,F,F,F,F,F,F] rfl rfl (by kernel_rfl) (fun _ _ _ h => h) (Or.inl ⟨by rfl, ?_⟩) ?_ ?_
                rotate_left
                · intro w'
                  go_simp
                  with_reducible rfl
                rotate_left
                · go_simp
                  rfl
                refine pure_ (i := 7) (N := some 96) (v := ?_) (a' := ?_) #[T,T,F,T,F,F,F,T,F,F,F,F,F,F,F,F] rfl rfl (by kernel_rfl) (fun _ _ _ h => h) (Or.inl ⟨by rfl, ?_⟩) ?_ ?_
                rotate_left
                · intro w'
                  go_simp
                  with_reducible rfl
                rotate_left
                · go_simp
                  rfl
                refine pure_ (i := 9) (N := some 98) (v := ?_) (a' := ?_) #[T,T,F,T,F,F,F,T,F,T,F,F,F,F,F,F] rfl rfl (by kernel_rfl) (fun _ _ _ h => h) (Or.inl ⟨by rfl, ?_⟩) ?_ ?_
                rotate_left
                · intro w'
                  go_simp
                  with_reducible rfl
                rotate_left
                · go_simp
                  rfl
                refine take_ (i := 2) (N := some 91) (v := ?_) (a' := ?_) #[T,T,T,T,F,F,F,T,F,T,F,F,F,F,F,F] rfl rfl (by kernel_rfl) (fun _ _ _ h => h) (Or.inl ⟨by rfl, ?_⟩) hHeld ?_ ?_
                rotate_left
                · rintro w' ⟨s0, s1, s2, s3, s4, s5, s6, s7⟩
                  go_simp
                  with_reducible rfl
                rotate_left
                · go_simp
                  rfl
                refine pure_ (i := 4) (N := some 93) (v := ?_) (a' := ?_) #[T,T,T,T,T,F,F,T,F,T,F,F,F,F,F,F] rfl rfl (by kernel_rfl) (fun _ _ _ h => h) (Or.inl ⟨by rfl, ?_⟩) ?_ ?_
                rotate_left
                · intro w'
                  go_simp
                  with_reducible rfl
                rotate_left
                · go_simp
                  rfl
                refine pure_ (i := 5) (N := some 94) (v := ?_) (a' := ?_) #[T,T,T,T,T,T,F,T,F,T,F,F,F,F,F,F] rfl rfl (by kernel_rfl) (fun _ _ _ h => h) (Or.inl ⟨by rfl, ?_⟩) ?_ ?_
                rotate_left
                · intro w'
                  go_simp
                  with_reducible rfl
                rotate_left
                · go_simp
                  rfl
                refine take_ (i := 6) (N := some 95) (v := ?_) (a' := ?_) #[T,T,T,T,T,T,T,T,F,T,F,F,F,F,F,F] rfl rfl (by kernel_rfl) (fun _ _ _ h => h) (Or.inl ⟨by rfl, ?_⟩) hHeld ?_ ?_
                rotate_left
                · rintro w' ⟨s0, s1, s2, s3, s4, s5, s6, s7⟩
                  go_simp
                  with_reducible rfl
                rotate_left
                · go_simp
                  rfl
                refine take_ (i := 8) (N := some 97) (v := ?_) (a' := ?_) #[T,T,T,T,T,T,T,T,T,T,F,F,F,F,F,F] rfl rfl (by kernel_rfl) (fun _ _ _ h => h) (Or.inl ⟨by rfl, ?_⟩) hHeld ?_ ?_
                rotate_left
                · rintro w' ⟨s0, s1, s2, s3, s4, s5, s6, s7⟩
                  go_simp
                  with_reducible rfl
                rotate_left
                · go_simp
                  rfl
                refine pure_ (i := 10) (N := some 99) (v := ?_) (a' := ?_) #[T,T,T,T,T,T,T,T,T,T,T,F,F,F,F,F] rfl rfl (by kernel_rfl) (fun _ _ _ h => h) (Or.inl ⟨by rfl, ?_⟩) ?_ ?_
                rotate_left
                · intro w'
                  go_simp
                  with_reducible rfl
                rotate_left
                · go_simp
                  rfl
                refine pure_ (i := 11) (N := some 100) (v := ?_) (a' := ?_) #[T,T,T,T,T,T,T,T,T,T,T,T,F,F,F,F] rfl rfl (by kernel_rfl) (fun _ _ _ h => h) (Or.inl ⟨by rfl, ?_⟩) ?_ ?_
                rotate_left
                · intro w'
                  go_simp
                  with_reducible rfl
                rotate_left
                · go_simp
                  rfl
                refine take_ (i := 12) (N := some 101) (v := ?_) (a' := ?_) #[T,T,T,T,T,T,T,T,T,T,T,T,T,F,F,F] rfl rfl (by kernel_rfl) (fun _ _ _ h => h) (Or.inl ⟨by rfl, ?_⟩) hHeld ?_ ?_
                rotate_left
                · rintro w' ⟨s0, s1, s2, s3, s4, s5, s6, s7⟩
                  go_simp
                  with_reducible rfl
                rotate_left
                · go_simp
                  rfl
                refine pure_ (i := 13) (N := some 102) (v := ?_) (a' := ?_) #[T,T,T,T,T,T,T,T,T,T,T,T,T,T,F,F] rfl rfl (by kernel_rfl) (fun _ _ _ h => h) (Or.inl ⟨by rfl, ?_⟩) ?_ ?_
                rotate_left
                · intro w'
                  go_simp
                  with_reducible rfl
                rotate_left
                · go_simp
                  rfl
                refine pure_ (i := 14) (N := some 103) (v := ?_) (a' := ?_) #[T,T,T,T,T,T,T,T,T,T,T,T,T,T,T,F] rfl rfl (by kernel_rfl) (fun _ _ _ h => h) (Or.inl ⟨by rfl, ?_⟩) ?_ ?_
                rotate_left
                · intro w'
                  go_simp
                  with_reducible rfl
                rotate_left
                · go_simp
                  rfl
                refine pure_ (i := 15) (N := some 12) (v := ?_) (a' := ?_) #[T,T,T,T,T,T,T,T,T,T,T,T,T,T,T,T] rfl rfl (by kernel_rfl) (fun _ _ _ h => h) (Or.inl ⟨by rfl, ?_⟩) ?_ ?_
                rotate_left
                · intro w'
                  go_simp
                  with_reducible rfl
                rotate_left
                · go_simp
                  rfl
                refine done_ (by kernel_rfl) ?_
                clear hHeld
                go_wp2
                go_roundg gk
                case measure => omega
                case rel => exact ⟨i + 1, a + q0 + q2, wrap64 (p + wrap64 (q0 + q2)), o, rfl, by simp only [i64_w], by go_num, by omega, by omega, ⟨by rw [← HP.out, w64_add, w64_add', Int.add_assoc]⟩, HIN, HBW⟩
        · have HIN : Hd (∀ n : Int, (o : Int) ≤ n → rds n (st.drop (i + 1)) (a + q0 + q2) = true → rds n st 0 = true) := ⟨fun n hn h => hI n hn (by rw [if_neg (fun h => hq0 h.1)]; exact h)⟩
          clear hI hpw hmy
          go_upto_region 17 with fail
          have HBW := Hd.mk (below_step HBL.out (Below.drew' wr))
          have s0' := pw_cell_below (Below.drew' wr) s0
          have s2' := pw_cell_below (Below.drew' wr) s2
          clear cHT0 cHT1 cHT2 cHY0 cHY1 cHY2
          replace HB := Hd.mk (below_step HB.out (Below.drew' wr))
          replace HE := Hd.mk (HE.out.below (Below.drew' wr))
          replace HK := Hd.mk (HK.out.below (Below.drew' wr))
          replace HT := Hd.mk (blk_below HT.out (Below.drew' wr))
          replace HY := Hd.mk (blk_below HY.out (Below.drew' wr))
          have cHT0 := blk_cell HT.out 0
          have cHT1 := blk_cell HT.out 1
          have cHT2 := blk_cell HT.out 2
          have cHY0 := blk_cell HY.out 0
          have cHY1 := blk_cell HY.out 1
          have cHY2 := blk_cell HY.out 2
          simp at cHT0 cHT1 cHT2 cHY0 cHY1 cHY2
          refine start_ (n := 16) (S := fun w' => w'.cell? ⟨bt, 0, none⟩ = some (.slice E0 S.length f0) ∧ w'.cell? ⟨bt, 1, none⟩ = some (.slice E1 D.length f1) ∧ w'.cell? ⟨bt, 2, none⟩ = some (.slice E2 X.length f2) ∧ w'.cell? ⟨w.heap.size, 0, none⟩ = some (.slice (some ad) st.length c0) ∧ w'.cell? ⟨w.heap.size, 1, none⟩ = some (.slice A1 d.length c1) ∧ w'.cell? ⟨w.heap.size, 2, none⟩ = some (.slice A2 x.length c2) ∧ w'.cell? (ad.add (i * 3)) = some (.int .i64 q0) ∧ w'.cell? ⟨(ad.add (i * 3)).block, (ad.add (i * 3)).off + 2, none⟩ = some (.int .i64 q2)) (ds := []) #[F,F,F,F,F,F,F,F,F,F,F,F,F,F,F,F] (by kernel_rfl) rfl rfl ⟨cHT0, cHT1, cHT2, cHY0, cHY1, cHY2, s0', s2'⟩ (fun hHeld => ?_)
          refine pure_ (i := 0) (N := some 89) (v := ?_) (a' := ?_) #[T,F,F,F,F,F,F,F,F,F,F,F,F,F,F,F] rfl rfl (by kernel_rfl) (fun _ _ _ h => h) (Or.inl ⟨by rfl, ?_⟩) ?_ ?_
          rotate_left
          · intro w'
            go_simp
            with_reducible rfl
          rotate_left
          · go_simp
            rfl
          refine pure_ (i := 1) (N := some 90) (v := ?_) (a' := ?_) #[T,T,F,F,F,F,F,F,F,F,F,F,F,F,F,F] rfl rfl (by kernel_rfl) (fun _ _ _ h => h) (Or.inl ⟨by rfl, ?_⟩) ?_ ?_
          rotate_left
          · intro w'
            go_simp
            with_reducible rfl
          rotate_left
          · go_simp
            rfl
          refine pure_ (i := 3) (N := some 92) (v := ?_) (a' := ?_) #[T,T,F,T,F,F,F,F,F,F,F,F,F,F,F,F] rfl rfl (by kernel_rfl) (fun _ _ _ h => h) (Or.inl ⟨by rfl, ?_⟩) ?_ ?_
          rotate_left
          · intro w'
            go_simp
            with_reducible rfl
          rotate_left
          · go_simp
            rfl
          refine pure_ (i := 7) (N := some 96) (v := ?_) (a' := ?_) #[T,T,F,T,F,F,F,T,F,F,F,F,F,F,F,F] rfl rfl (by kernel_rfl) (fun _ _ _ h => h) (Or.inl ⟨by rfl, ?_⟩) ?_ ?_
          rotate_left
          · intro w'
            go_simp
            with_reducible rfl
          rotate_left
          · go_simp
            rfl
          refine pure_ (i := 9) (N := some 98) (v := ?_) (a' := ?_) #[T,T,F,T,F,F,F,T,F,T,F,F,F,F,F,F] rfl rfl (by kernel_rfl) (fun _ _ _ h => h) (Or.inl ⟨by rfl, ?_⟩) ?_ ?_
          rotate_left
          · intro w'
            go_simp
            with_reducible rfl
          rotate_left
          · go_simp
            rfl
          refine take_ (i := 2) (N := some 91) (v := ?_) (a' := ?_) #[T,T,T,T,F,F,F,T,F,T,F,F,F,F,F,F] rfl rfl (by kernel_rfl) (fun _ _ _ h => h) (Or.inl ⟨by rfl, ?_⟩) hHeld ?_ ?_
          rotate_left
          · rintro w' ⟨s0, s1, s2, s3, s4, s5, s6, s7⟩
            go_simp
            with_reducible rfl
          rotate_left
          · go_simp
            rfl
          refine pure_ (i := 4) (N := some 93) (v := ?_) (a' := ?_) #[T,T,T,T,T,F,F,T,F,T,F,F,F,F,F,F] rfl rfl (by kernel_rfl) (fun _ _ _ h => h) (Or.inl ⟨by rfl, ?_⟩) ?_ ?_
          rotate_left
          · intro w'
            go_simp
            with_reducible rfl
          rotate_left
          · go_simp
            rfl
          refine pure_ (i := 5) (N := some 94) (v := ?_) (a' := ?_) #[T,T,T,T,T,T,F,T,F,T,F,F,F,F,F,F] rfl rfl (by kernel_rfl) (fun _ _ _ h => h) (Or.inl ⟨by rfl, ?_⟩) ?_ ?_
          rotate_left
          · intro w'
            go_simp
            with_reducible rfl
          rotate_left
          · go_simp
            rfl
          refine take_ (i := 6) (N := some 95) (v := ?_) (a' := ?_) #[T,T,T,T,T,T,T,T,F,T,F,F,F,F,F,F] rfl rfl (by kernel_rfl) (fun _ _ _ h => h) (Or.inl ⟨by rfl, ?_⟩) hHeld ?_ ?_
          rotate_left
          · rintro w' ⟨s0, s1, s2, s3, s4, s5, s6, s7⟩
            go_simp
            with_reducible rfl
          rotate_left
          · go_simp
            rfl
          refine take_ (i := 8) (N := some 97) (v := ?_) (a' := ?_) #[T,T,T,T,T,T,T,T,T,T,F,F,F,F,F,F] rfl rfl (by kernel_rfl) (fun _ _ _ h => h) (Or.inl ⟨by rfl, ?_⟩) hHeld ?_ ?_
          rotate_left
          · rintro w' ⟨s0, s1, s2, s3, s4, s5, s6, s7⟩
            go_simp
            with_reducible rfl
          rotate_left
          · go_simp
            rfl
          refine pure_ (i := 10) (N := some 99) (v := ?_) (a' := ?_) #[T,T,T,T,T,T,T,T,T,T,T,F,F,F,F,F] rfl rfl (by kernel_rfl) (fun _ _ _ h => h) (Or.inl ⟨by rfl, ?_⟩) ?_ ?_
          rotate_left
          · intro w'
            go_simp
            with_reducible rfl
          rotate_left
          · go_simp
            rfl
          refine pure_ (i := 11) (N := some 100) (v := ?_) (a' := ?_) #[T,T,T,T,T,T,T,T,T,T,T,T,F,F,F,F] rfl rfl (by kernel_rfl) (fun _ _ _ h => h) (Or.inl ⟨by rfl, ?_⟩) ?_ ?_
          rotate_left
          · intro w'
            go_simp
            with_reducible rfl
          rotate_left
          · go_simp
            rfl
          refine take_ (i := 12) (N := some 101) (v := ?_) (a' := ?_) #[T,T,T,T,T,T,T,T,T,T,T,T,T,F,F,F] rfl rfl (by kernel_rfl) (fun _ _ _ h => h) (Or.inl ⟨by rfl, ?_⟩) hHeld ?_ ?_
          rotate_left
          · rintro w' ⟨s0, s1, s2, s3, s4, s5, s6, s7⟩
            go_simp
            with_reducible rfl
          rotate_left
          · go_simp
            rfl
          refine pure_ (i := 13) (N := some 102) (v := ?_) (a' := ?_) #[T,T,T,T,T,T,T,T,T,T,T,T,T,T,F,F] rfl rfl (by kernel_rfl) (fun _ _ _ h => h) (Or.inl ⟨by rfl, ?_⟩) ?_ ?_
          rotate_left
          · intro w'
            go_simp
            with_reducible rfl
          rotate_left
          · go_simp
            rfl
          refine pure_ (i := 14) (N := some 103) (v := ?_) (a' := ?_) #[T,T,T,T,T,T,T,T,T,T,T,T,T,T,T,F] rfl rfl (by kernel_rfl) (fun _ _ _ h => h) (Or.inl ⟨by rfl, ?_⟩) ?_ ?_
          rotate_left
          · intro w'
            go_simp
            with_reducible rfl
          rotate_left
          · go_simp
            rfl
          refine pure_ (i := 15) (N := some 12) (v := ?_) (a' := ?_) #[T,T,T,T,T,T,T,T,T,T,T,T,T,T,T,T] rfl rfl (by kernel_rfl) (fun _ _ _ h => h) (Or.inl ⟨by rfl, ?_⟩) ?_ ?_
          rotate_left
          · intro w'
            go_simp
            with_reducible rfl
          rotate_left
          · go_simp
            rfl
          refine done_ (by kernel_rfl) ?_
          clear hHeld
          go_wp2
          go_roundg gk
          case measure => omega
          case rel => exact ⟨i + 1, a + q0 + q2, wrap64 (p + wrap64 (q0 + q2)), o, rfl, by simp only [i64_w], by go_num, by omega, by omega, ⟨by rw [← HP.out, w64_add, w64_add', Int.add_assoc]⟩, HIN, HBW⟩
end Go.Proofs.Ytemlbjpefomboaa
