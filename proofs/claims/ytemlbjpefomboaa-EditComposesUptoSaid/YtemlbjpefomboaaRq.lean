/- edit: the document's Compose, by contract. -/
import Derived.Test.YtemlbjpefomboaaEc
import Derived.Test.YtemlbjpefomboaaCc
namespace Go.Proofs.Ytemlbjpefomboaa
open Go.RowKit Go.Shelf Go.Proofs.YtemlbjpefomboaaW.PrintWords Go.Proofs.YtemlbjpefomboaaW.PrintLast Go.Proofs.YtemlbjpefomboaaW.PrintMore Go.Proofs.Ytemlbjpefomboaa.Pr
set_option linter.unusedVariables false
set_option linter.unusedSimpArgs false
def cell94r (o : S94) : List Value := [.bool o.f0, .int .i64 o.f1, .int .u8 o.f2]
def cells94r (l : List S94) : List Value := l.flatMap cell94r
theorem cells94r_snoc (l : List S94) (o : S94) : cells94r (l ++ [o]) = cells94r l ++ cell94r o := by simp [cells94r]
theorem cells94r_at : ∀ (l : List S94) (j : Nat) (o : S94), l[j]? = some o → ∀ (i : Nat) (u : Value), (cell94r o)[i]? = some u → (cells94r l)[j * 3 + i]? = some u
  | [], _, _, h, _, _, _ => by simp at h
  | a :: l, 0, o, h, i, u, hu => by
    simp at h
    subst h
    have hi : i < (cell94r a).length := (List.getElem?_eq_some_iff.1 hu).1
    rw [cells94r, List.flatMap_cons, Nat.zero_mul, Nat.zero_add, List.getElem?_append_left hi, hu]
  | a :: l, j + 1, o, h, i, u, hu => by
    have := cells94r_at l j o (by simpa using h) i u hu
    rw [cells94r, List.flatMap_cons, List.getElem?_append_right (by simp [cell94r]; omega), show (j + 1) * 3 + i - (cell94r a).length = j * 3 + i by simp [cell94r]; omega]
    exact this
theorem eltOr : Elt Try.prog 90 94 (.agg #[.bool false, .int .i64 0, .int .u8 0]) 3 24 := ⟨Try.underlying90, by kernel_rfl, rfl, by decide, by decide⟩
theorem own_C94r {W : World} {b n c : Nat} {A : Option Addr} {l : List S94} (h : W.ownsRow b 94 3 (.slice A n c) n (cells94r l)) (hl : l.length = n) : Kd.C k94 W A l.length l ∧ l.length ≤ c := by
  subst hl
  rcases h.2 with ⟨e1, e2⟩ | ⟨g, cap, cur, e1, _, _, h1, h2, _⟩
  · have : l = [] := List.eq_nil_of_length_eq_zero e2
    subst this
    exact ⟨⟨rfl, by simp, fun h => by simp at h⟩, by simp⟩
  · cases e1
    have hcs := h.cells (g := g) rfl
    refine ⟨⟨rfl, by simp only [maxLen] at h2; omega, fun _ => ⟨_, rfl, fun j p hj => ⟨[.bool p.f0, .int .i64 p.f1, .int .u8 p.f2], rfl, k94_mk W p, fun i u hu => ?_⟩⟩⟩, h1⟩
    have := cells94r_at l j p hj i u hu
    exact hcs _ _ this
theorem src94r {W : World} {b : Nat} (hb : b = W.heap.size) (o : S94) : Src (W.alloc (.cells #[.bool o.f0, .int .i64 o.f1, .int .u8 o.f2] 94)) (some ⟨b, 0, none⟩) 1 3 (cell94r o) := by
  subst hb
  refine ⟨rfl, fun j u hj => ?_, by simp [cell94r, Value.oneCell']⟩
  have hj3 : j < 3 := by
    rcases Nat.lt_or_ge j 3 with h3 | h3
    · exact h3
    · rw [List.getElem?_eq_none (by simpa [cell94r] using h3)] at hj; cases hj
  have hbn := blk_new W (.cells #[.bool o.f0, .int .i64 o.f1, .int .u8 o.f2] 94)
  refine ⟨_, rfl, ?_⟩
  match j, hj3, hj with
  | 0, _, hj => rw [add_plain, blk_cell hbn, ← hj]; rfl
  | 1, _, hj => rw [add_plain, blk_cell hbn, ← hj]; rfl
  | 2, _, hj => rw [add_plain, blk_cell hbn, ← hj]; rfl
theorem ritself_c {A0 : Option Addr} {c0 : Nat} {st : List S80} {A1 : Option Addr} {c1 : Nat} {d : List Int} {A2 : Option Addr} {c2 : Nat} {x : List Int} {w : World} (h : EdC w A0 c0 st A1 c1 d A2 c2 x) (hf : st.length ≤ 1048576) :
    Calls Try.prog 53 #[EdV A0 st.length c0 A1 d.length c1 A2 x.length c2] w fun e w' => e = .returned (.int .i64 (ited st d x).2) ∧ Below w.heap.size w w' := by
  obtain ⟨k, hk⟩ := ritself_f st d x hf
  exact sapperref16_Itself.calls k A0 c0 st A1 c1 d A2 c2 x _ w h.s h.hs h.di h.hd h.ex h.hx hk
theorem rorigins_c {A0 : Option Addr} {c0 : Nat} {st : List S80} {A1 : Option Addr} {c1 : Nat} {d : List Int} {A2 : Option Addr} {c2 : Nat} {x : List Int} {w : World} (h : EdC w A0 c0 st A1 c1 d A2 c2 x) (hf : st.length ≤ 1048576) (h0 : (ited st d x).2 = 0) :
    Calls Try.prog 54 #[.agg #[.slice A0 st.length c0, .slice A1 d.length c1, .slice A2 x.length c2]] w fun e w' => ∃ B g, e = .returned (.slice B (og st d x 0).length g) ∧ Kd.C k94 w' B (og st d x 0).length (og st d x 0) ∧ (og st d x 0).length ≤ g ∧ Below w.heap.size w w' := by
  obtain ⟨k, hk⟩ := origins_f h0 hf
  refine (sapperref16_Origins.calls k A0 c0 st A1 c1 d A2 c2 x _ w h.s h.hs h.di h.hd h.ex h.hx hk).mono ?_
  rintro e w' ⟨v, rfl, hR, hb⟩
  obtain ⟨B, g, rfl⟩ := Kd.R_slice hR
  exact ⟨B, g, rfl, (Kd.R_reads' hR).2.2, (Kd.R_reads' hR).2.1, hb⟩
theorem leaveRC {tmps : Array Value} {W : World} {R : Ending → World → Prop} {b : Nat} {v0 v1 v2 : Value} {u : Value} (h4 : tmps.getD 4 undef = .pointer (some ⟨b, 0, none⟩)) (h5 : tmps.getD 5 undef = u)
    (g : W.heap[b]? = some (.cells #[v0, v1, v2] 28 (0, 0))) (h : R (.returned (.tuple #[.agg #[v0, v1, v2], u])) W) : bodyPost Try.prog Try.f44 R .ret { tmps := tmps, defers := [] } W := by
  refine ⟨rfl, .tuple #[.agg #[v0, v1, v2], u], ?_, h⟩
  have h4' : tmps[4]?.getD undef = .pointer (some ⟨b, 0, none⟩) := by simpa using h4
  have h5' : tmps[5]?.getD undef = u := by simpa using h5
  have g0 : W.cell? ⟨b, 0, none⟩ = some v0 := (blk_cell g 0).trans rfl
  have g1 : W.cell? ⟨b, 1, none⟩ = some v1 := (blk_cell g 1).trans rfl
  have g2 : W.cell? ⟨b, 2, none⟩ = some v2 := (blk_cell g 2).trans rfl
  simp [results, Try.results44, go_sem, h4', h5', g0, g1, g2]
set_option maxRecDepth 100000 in
set_option maxHeartbeats 8000000 in
theorem rcompose_c {A0 : Option Addr} {c0 : Nat} {st : List S80} {A1 : Option Addr} {c1 : Nat} {d : List Int} {A2 : Option Addr} {c2 : Nat} {x : List Int} {D0 : Option Addr} {g0 : Nat} {sb : List S80} {D1 : Option Addr} {g1 : Nat} {db : List Int} {D2 : Option Addr} {g2 : Nat} {xb : List Int} {w : World}
    (hE : EdC w A0 c0 st A1 c1 d A2 c2 x) (hG : EdC w D0 g0 sb D1 g1 db D2 g2 xb) (hf : st.length ≤ 1048576) (hfb : sb.length ≤ 1048576) :
    Calls Try.prog 44 #[EdV A0 st.length c0 A1 d.length c1 A2 x.length c2, EdV D0 sb.length g0 D1 db.length g1 D2 xb.length g2] w (NormR w (composeE st d x sb db xb)) := by
  unfold EdV
  obtain ⟨w0, hw0⟩ : ∃ w_, ((w.alloc (.cells #[.slice A0 st.length c0, .slice A1 d.length c1, .slice A2 x.length c2] 28)).alloc (.cells #[.slice D0 sb.length g0, .slice D1 db.length g1, .slice D2 xb.length g2] 28)).alloc (.cells #[.slice none 0 0, .slice none 0 0, .slice none 0 0] 28) = w_ := ⟨_, rfl⟩
  have hb0 : Below w.heap.size w w0 := by
    rw [← hw0]
    exact (((Below.refl _ _).alloc (Nat.le_refl _) _).alloc (by simp) _).alloc (by simp; omega) _
  have HE := Hd.mk (hE.below hb0)
  have HG := Hd.mk (hG.below hb0)
  have HB := Hd.mk hb0
  have hY : w0.heap[w.heap.size]? = some (.cells #[.slice A0 st.length c0, .slice A1 d.length c1, .slice A2 x.length c2] 28 (0, 0)) := by
    rw [← hw0]
    exact blk_alloc (blk_alloc (blk_new w _) _) _
  have hV : w0.heap[w.heap.size + 1]? = some (.cells #[.slice D0 sb.length g0, .slice D1 db.length g1, .slice D2 xb.length g2] 28 (0, 0)) := by
    rw [← hw0]
    have := blk_new (w.alloc (.cells #[.slice A0 st.length c0, .slice A1 d.length c1, .slice A2 x.length c2] 28)) (.cells #[.slice D0 sb.length g0, .slice D1 db.length g1, .slice D2 xb.length g2] 28)
    rw [World.size_alloc] at this
    exact blk_alloc this _
  have hT : w0.heap[w.heap.size + 1 + 1]? = some (.cells #[.slice none 0 0, .slice none 0 0, .slice none 0 0] 28 (0, 0)) := by
    rw [← hw0]
    have := blk_new ((w.alloc (.cells #[.slice A0 st.length c0, .slice A1 d.length c1, .slice A2 x.length c2] 28)).alloc (.cells #[.slice D0 sb.length g0, .slice D1 db.length g1, .slice D2 xb.length g2] 28)) (.cells #[.slice none 0 0, .slice none 0 0, .slice none 0 0] 28)
    rw [World.size_alloc, World.size_alloc] at this
    exact this
  have HY := Hd.mk hY
  have HV := Hd.mk hV
  have HT := Hd.mk hT
  obtain ⟨q, hne⟩ : ∃ q, composeE st d x sb db xb = q := ⟨_, rfl⟩
  rw [hne]
  unfold composeE at hne
  have HNE := Hd.mk hne
  have hit := ritself_c HE.out hf
  obtain ⟨er, her⟩ : ∃ r, (ited st d x).2 = r := ⟨_, rfl⟩
  rw [her] at hit
  unfold EdV at hit
  have HIT := Hd.mk hit
  have HIE := Hd.mk her
  have HF := Hd.mk (And.intro hf hfb)
  clear hb0 hE hG hY hV hT hit her hne hf hfb
  have cHY0 := blk_cell HY.out 0
  have cHY1 := blk_cell HY.out 1
  have cHY2 := blk_cell HY.out 2
  have cHV0 := blk_cell HV.out 0
  have cHV1 := blk_cell HV.out 1
  have cHV2 := blk_cell HV.out 2
  have cHT0 := blk_cell HT.out 0
  have cHT1 := blk_cell HT.out 1
  have cHT2 := blk_cell HT.out 2
  simp at cHY0 cHY1 cHY2 cHV0 cHV1 cHV2 cHT0 cHT1 cHT2
  go_enter Try.func44, Try.ntmps44
  go_wp2_with fail
  refine HIT.out.mono ?_
  rintro e w1 ⟨rfl, hb1⟩
  clear HIT hw0
  clear cHY0 cHY1 cHY2 cHV0 cHV1 cHV2 cHT0 cHT1 cHT2
  replace HB := Hd.mk (below_step HB.out hb1)
  replace HE := Hd.mk (HE.out.below hb1)
  replace HG := Hd.mk (HG.out.below hb1)
  replace HY := Hd.mk (blk_below HY.out hb1)
  replace HV := Hd.mk (blk_below HV.out hb1)
  replace HT := Hd.mk (blk_below HT.out hb1)
  have cHY0 := blk_cell HY.out 0
  have cHY1 := blk_cell HY.out 1
  have cHY2 := blk_cell HY.out 2
  have cHV0 := blk_cell HV.out 0
  have cHV1 := blk_cell HV.out 1
  have cHV2 := blk_cell HV.out 2
  have cHT0 := blk_cell HT.out 0
  have cHT1 := blk_cell HT.out 1
  have cHT2 := blk_cell HT.out 2
  simp at cHY0 cHY1 cHY2 cHV0 cHV1 cHV2 cHT0 cHT1 cHT2
  clear hb1
  have f0 := blk_frozen HT.out 0
  have f1 := blk_frozen HT.out 1
  have f2 := blk_frozen HT.out 2
  by_cases her : er = 0
  rotate_left
  · have hne : (er != 0) = true := by simpa using her
    have hn := HNE.out
    rw [if_pos (by rw [HIE.out]; exact her), HIE.out] at hn
    have HN := Hd.mk hn
    have HER := Hd.mk her
    clear her hn HNE
    go_wp2
    refine leaveRC (b := w.heap.size + 1 + 1) rfl rfl (blk3 HT.out _ _ _) ?_
    rw [← HN.out]
    exact normR_bad (by omega) HB.out _ _ _
  subst her
  clear f0 f1 f2
  have hn := HNE.out
  rw [if_neg (fun h' => h' HIE.out)] at hn
  replace HNE := Hd.mk hn
  have hit := ritself_c HG.out HF.out.2
  obtain ⟨eb, heb⟩ : ∃ r, (ited sb db xb).2 = r := ⟨_, rfl⟩
  rw [heb] at hit
  unfold EdV at hit
  have HIT := Hd.mk hit
  have HIB := Hd.mk heb
  clear hit heb hn
  go_wp2_with fail
  refine HIT.out.mono ?_
  rintro e w2 ⟨rfl, hb2⟩
  clear HIT
  clear cHY0 cHY1 cHY2 cHV0 cHV1 cHV2 cHT0 cHT1 cHT2
  replace HB := Hd.mk (below_step HB.out hb2)
  replace HE := Hd.mk (HE.out.below hb2)
  replace HG := Hd.mk (HG.out.below hb2)
  replace HY := Hd.mk (blk_below HY.out hb2)
  replace HV := Hd.mk (blk_below HV.out hb2)
  replace HT := Hd.mk (blk_below HT.out hb2)
  have cHY0 := blk_cell HY.out 0
  have cHY1 := blk_cell HY.out 1
  have cHY2 := blk_cell HY.out 2
  have cHV0 := blk_cell HV.out 0
  have cHV1 := blk_cell HV.out 1
  have cHV2 := blk_cell HV.out 2
  have cHT0 := blk_cell HT.out 0
  have cHT1 := blk_cell HT.out 1
  have cHT2 := blk_cell HT.out 2
  simp at cHY0 cHY1 cHY2 cHV0 cHV1 cHV2 cHT0 cHT1 cHT2
  clear hb2
  have f0 := blk_frozen HT.out 0
  have f1 := blk_frozen HT.out 1
  have f2 := blk_frozen HT.out 2
  by_cases her : eb = 0
  rotate_left
  · have hne : (eb != 0) = true := by simpa using her
    have hn := HNE.out
    rw [if_pos (by rw [HIB.out]; exact her), HIB.out] at hn
    have HN := Hd.mk hn
    have HER := Hd.mk her
    clear her hn HNE
    go_wp2
    refine leaveRC (b := w.heap.size + 1 + 1) rfl rfl (blk3 HT.out _ _ _) ?_
    rw [← HN.out]
    exact normR_bad (by omega) HB.out _ _ _
  subst her
  clear f0 f1 f2
  have hn := HNE.out
  rw [if_neg (fun h' => h' HIB.out)] at hn
  replace HNE := Hd.mk hn
  clear hn
  go_wp2_with fail
  clear cHY0 cHY1 cHY2 cHV0 cHV1 cHV2 cHT0 cHT1 cHT2
  replace HB := Hd.mk (below_step HB.out (Below.drew' w2))
  replace HE := Hd.mk (HE.out.below (Below.drew' w2))
  replace HG := Hd.mk (HG.out.below (Below.drew' w2))
  replace HY := Hd.mk (blk_below HY.out (Below.drew' w2))
  replace HV := Hd.mk (blk_below HV.out (Below.drew' w2))
  replace HT := Hd.mk (blk_below HT.out (Below.drew' w2))
  have cHY0 := blk_cell HY.out 0
  have cHY1 := blk_cell HY.out 1
  have cHY2 := blk_cell HY.out 2
  have cHV0 := blk_cell HV.out 0
  have cHV1 := blk_cell HV.out 1
  have cHV2 := blk_cell HV.out 2
  have cHT0 := blk_cell HT.out 0
  have cHT1 := blk_cell HT.out 1
  have cHT2 := blk_cell HT.out 2
  simp at cHY0 cHY1 cHY2 cHV0 cHV1 cHV2 cHT0 cHT1 cHT2
  refine start_ (n := 6) (S := fun w' => w'.cell? ⟨w.heap.size, 0, none⟩ = some (.slice A0 st.length c0) ∧ w'.cell? ⟨w.heap.size, 1, none⟩ = some (.slice A1 d.length c1) ∧ w'.cell? ⟨w.heap.size, 2, none⟩ = some (.slice A2 x.length c2) ∧ w'.cell? ⟨w.heap.size + 1, 0, none⟩ = some (.slice D0 sb.length g0) ∧ w'.cell? ⟨w.heap.size + 1, 1, none⟩ = some (.slice D1 db.length g1) ∧ w'.cell? ⟨w.heap.size + 1, 2, none⟩ = some (.slice D2 xb.length g2) ∧ w'.cell? ⟨w.heap.size + 1 + 1, 0, none⟩ = some (.slice none 0 0) ∧ w'.cell? ⟨w.heap.size + 1 + 1, 1, none⟩ = some (.slice none 0 0) ∧ w'.cell? ⟨w.heap.size + 1 + 1, 2, none⟩ = some (.slice none 0 0)) (ds := []) #[false, false, false, false, false, false] (by kernel_rfl) rfl rfl ⟨cHY0, cHY1, cHY2, cHV0, cHV1, cHV2, cHT0, cHT1, cHT2⟩ (fun hHeld => ?_)
  refine take_ (i := 0) (N := some 25) (v := ?_) (a' := ?_) #[true, false, false, false, false, false] rfl rfl (by kernel_rfl) (fun _ _ _ h => h) (Or.inl ⟨by rfl, ?_⟩) hHeld ?_ ?_
  rotate_left
  · rintro w' ⟨s0, s1, s2, s3, s4, s5, s6, s7, s8⟩
    go_simp
    with_reducible rfl
  rotate_left
  · simp only [Act.put, List.setIfInBounds_toArray, List.set_cons_zero, List.set_cons_succ, i64_w, i32_w]
    rfl
  refine take_ (i := 2) (N := some 27) (v := ?_) (a' := ?_) #[true, false, true, false, false, false] rfl rfl (by kernel_rfl) (fun _ _ _ h => h) (Or.inl ⟨by rfl, ?_⟩) hHeld ?_ ?_
  rotate_left
  · rintro w' ⟨s0, s1, s2, s3, s4, s5, s6, s7, s8⟩
    go_simp
    with_reducible rfl
  rotate_left
  · simp only [Act.put, List.setIfInBounds_toArray, List.set_cons_zero, List.set_cons_succ, i64_w, i32_w]
    rfl
  refine one_ (i := 1) (N := some 26) #[true, true, true, false, false, false] rfl rfl (by kernel_rfl) (by decide) (fun K hK => ?_)
  refine goes_ Try.func54 (by kernel_rfl) rfl #[.agg #[.slice A0 st.length c0, .slice A1 d.length c1, .slice A2 x.length c2]] (by rfl) rfl rfl (by simp only [List.map_toArray, List.map_cons, List.map_nil]; rfl) ?_
  with_reducible refine (rorigins_c HE.out HF.out.1 HIE.out).mono ?_
  rintro e w3 ⟨Bx, gx, rfl, hCX, hgx, hbx⟩
  refine ⟨_, rfl, ?_⟩
  clear cHY0 cHY1 cHY2 cHV0 cHV1 cHV2 cHT0 cHT1 cHT2
  replace HB := Hd.mk (below_step HB.out hbx)
  replace HE := Hd.mk (HE.out.below hbx)
  replace HG := Hd.mk (HG.out.below hbx)
  replace HY := Hd.mk (blk_below HY.out hbx)
  replace HV := Hd.mk (blk_below HV.out hbx)
  replace HT := Hd.mk (blk_below HT.out hbx)
  have cHY0 := blk_cell HY.out 0
  have cHY1 := blk_cell HY.out 1
  have cHY2 := blk_cell HY.out 2
  have cHV0 := blk_cell HV.out 0
  have cHV1 := blk_cell HV.out 1
  have cHV2 := blk_cell HV.out 2
  have cHT0 := blk_cell HT.out 0
  have cHT1 := blk_cell HT.out 1
  have cHT2 := blk_cell HT.out 2
  simp at cHY0 cHY1 cHY2 cHV0 cHV1 cHV2 cHT0 cHT1 cHT2
  have HCX := Hd.mk hCX
  have HGX := Hd.mk hgx
  clear hCX hgx hbx
  refine hK.out _ _ ⟨cHY0, cHY1, cHY2, cHV0, cHV1, cHV2, cHT0, cHT1, cHT2⟩ (fun hHeld => ?_)
  clear hK K
  refine norm_ (a' := ?_) ?_ ?_
  rotate_left
  · show Act.put _ (some 26) _ = _
    simp only [Act.put, List.setIfInBounds_toArray, List.set_cons_zero, List.set_cons_succ, i64_w, i32_w]
    rfl
  refine one_ (i := 3) (N := some 28) #[true, true, true, true, false, false] rfl rfl (by kernel_rfl) (by decide) (fun K hK => ?_)
  refine goes_ Try.func54 (by kernel_rfl) rfl #[.agg #[.slice D0 sb.length g0, .slice D1 db.length g1, .slice D2 xb.length g2]] (by rfl) rfl rfl (by simp only [List.map_toArray, List.map_cons, List.map_nil]; rfl) ?_
  with_reducible refine (rorigins_c HG.out HF.out.2 HIB.out).mono ?_
  rintro e w4 ⟨By, gy, rfl, hCY, hgy, hby⟩
  refine ⟨_, rfl, ?_⟩
  clear cHY0 cHY1 cHY2 cHV0 cHV1 cHV2 cHT0 cHT1 cHT2
  replace HB := Hd.mk (below_step HB.out hby)
  replace HE := Hd.mk (HE.out.below hby)
  replace HG := Hd.mk (HG.out.below hby)
  replace HY := Hd.mk (blk_below HY.out hby)
  replace HV := Hd.mk (blk_below HV.out hby)
  replace HT := Hd.mk (blk_below HT.out hby)
  have cHY0 := blk_cell HY.out 0
  have cHY1 := blk_cell HY.out 1
  have cHY2 := blk_cell HY.out 2
  have cHV0 := blk_cell HV.out 0
  have cHV1 := blk_cell HV.out 1
  have cHV2 := blk_cell HV.out 2
  have cHT0 := blk_cell HT.out 0
  have cHT1 := blk_cell HT.out 1
  have cHT2 := blk_cell HT.out 2
  simp at cHY0 cHY1 cHY2 cHV0 cHV1 cHV2 cHT0 cHT1 cHT2
  replace HCX := Hd.mk (Kd.C_below HCX.out hby)
  have HCY := Hd.mk hCY
  have HGY := Hd.mk hgy
  clear hCY hgy hby
  refine hK.out _ _ ⟨cHY0, cHY1, cHY2, cHV0, cHV1, cHV2, cHT0, cHT1, cHT2⟩ (fun hHeld => ?_)
  clear hK K
  refine norm_ (a' := ?_) ?_ ?_
  rotate_left
  · show Act.put _ (some 28) _ = _
    simp only [Act.put, List.setIfInBounds_toArray, List.set_cons_zero, List.set_cons_succ, i64_w, i32_w]
    rfl
  refine pure_ (i := 4) (N := some 7) (v := ?_) (a' := ?_) #[true, true, true, true, true, false] rfl rfl (by kernel_rfl) (fun _ _ _ h => h) (Or.inl ⟨by rfl, ?_⟩) ?_ ?_
  rotate_left
  · intro w'
    go_simp
    with_reducible rfl
  rotate_left
  · simp only [Act.put, List.setIfInBounds_toArray, List.set_cons_zero, List.set_cons_succ, i64_w, i32_w]
    rfl
  refine pure_ (i := 5) (N := some 8) (v := ?_) (a' := ?_) #[true, true, true, true, true, true] rfl rfl (by kernel_rfl) (fun _ _ _ h => h) (Or.inl ⟨by rfl, ?_⟩) ?_ ?_
  rotate_left
  · intro w'
    go_simp
    with_reducible rfl
  rotate_left
  · simp only [Act.put, List.setIfInBounds_toArray, List.set_cons_zero, List.set_cons_succ, i64_w, i32_w]
    rfl
  refine done_ (by kernel_rfl) ?_
  clear hHeld
  obtain ⟨X, hX⟩ : ∃ X, og st d x 0 = X := ⟨_, rfl⟩
  obtain ⟨Y, hY⟩ : ∃ Y, og sb db xb 0 = Y := ⟨_, rfl⟩
  have hn := HNE.out
  have hlX := og_fit HIE.out
  have hlY := og_fit HIB.out
  have ha := ited_all HIE.out
  have hlen : ((og st d x 0).length : Int) = (ited st d x).1 := by rw [og_len st d x 0 ha.1 ha.2.2.1 ha.2.2.2.1, ← ha.2.2.2.2]
  have hb1 := (ited_all HIB.out).1
  have hfb := HF.out.2
  have hor := out_rds (d := db) (x := xb) hb1 hfb (X.length : Int)
  have hin := fun h => inn_of (d := db) (x := xb) hb1 hfb (old := (X.length : Int)) h
  rw [hX] at hlX hlen hn
  rw [hY] at hlY hn hor hin
  rw [← hlen] at hn
  rw [hX] at HCX HGX ⊢
  rw [hY] at HCY HGY ⊢
  obtain ⟨k, hk⟩ := outside_f Y (X.length : Int) (by unfold fits; omega)
  rw [hor] at hk
  obtain ⟨rb, hrb⟩ : ∃ r, rds (X.length : Int) sb 0 = r := ⟨_, rfl⟩
  rw [hrb] at hk hn hin
  have hoc := sapperref16_outside.calls k By gy Y (X.length : Int) (!rb) w4 HCY.out HGY.out hk
  have HOC := Hd.mk hoc
  have HNE' := Hd.mk hn
  have HIN := Hd.mk hin
  have HLX := Hd.mk hlX
  have HLY := Hd.mk hlY
  clear hoc hk hor hn hin hlX hlY hb1 hfb hlen ha hX hY hrb HNE HIE HIB HE HG HF
  go_wp2_with fail
  refine HOC.out.mono ?_
  rintro e w5 ⟨rfl, hd5⟩
  clear HOC
  clear cHY0 cHY1 cHY2 cHV0 cHV1 cHV2 cHT0 cHT1 cHT2
  replace HB := Hd.mk (below_step HB.out hd5.below)
  replace HY := Hd.mk (blk_below HY.out hd5.below)
  replace HV := Hd.mk (blk_below HV.out hd5.below)
  replace HT := Hd.mk (blk_below HT.out hd5.below)
  have cHY0 := blk_cell HY.out 0
  have cHY1 := blk_cell HY.out 1
  have cHY2 := blk_cell HY.out 2
  have cHV0 := blk_cell HV.out 0
  have cHV1 := blk_cell HV.out 1
  have cHV2 := blk_cell HV.out 2
  have cHT0 := blk_cell HT.out 0
  have cHT1 := blk_cell HT.out 1
  have cHT2 := blk_cell HT.out 2
  simp at cHY0 cHY1 cHY2 cHV0 cHV1 cHV2 cHT0 cHT1 cHT2
  replace HCX := Hd.mk (Kd.C_below HCX.out hd5.below)
  replace HCY := Hd.mk (Kd.C_below HCY.out hd5.below)
  clear hd5
  clear cHY0 cHY1 cHY2 cHV0 cHV1 cHV2 cHT0 cHT1 cHT2
  have f0 := blk_frozen HT.out 0
  have f1 := blk_frozen HT.out 1
  have f2 := blk_frozen HT.out 2
  have cT0 := blk_cell HT.out 0
  have cT1 := blk_cell HT.out 1
  have cT2 := blk_cell HT.out 2
  simp at cT0 cT1 cT2
  cases rb with
  | false =>
    have hn := HNE'.out
    rw [if_pos rfl] at hn
    have HN := Hd.mk hn
    clear hn HNE' HIN
    go_wp2
    refine leaveRC (b := w.heap.size + 1 + 1) rfl rfl (blk3 HT.out _ _ _) ?_
    rw [← HN.out]
    exact normR_bad (by omega) HB.out _ _ _
  | true =>
  have hn := HNE'.out
  rw [if_neg (by simp)] at hn
  have HN := Hd.mk hn
  have hin := HIN.out rfl
  replace HIN := Hd.mk hin
  clear hn hin HNE' f0 f1 f2 cT0 cT1 cT2
  go_wp2
  go_loopg [9, 10] Y.length (fun k v9 v10 W => ∃ (i : Nat) (A : Option Addr) (c : Nat), v9 = .slice A i c ∧ v10 = .int .i64 i ∧ i + k = Y.length ∧ Hd (W.ownsRow w5.heap.size 94 3 (.slice A i c) i (cells94r ((Y.take i).map (cmp1 X)))) ∧ Hd (Below w5.heap.size w5 W))
  case atStart => exact ⟨0, none, 0, rfl, rfl, by omega, ⟨own_nil _ _ _ _⟩, ⟨Below.refl _ _⟩⟩
  case round =>
    obtain ⟨i, A, c, rfl, rfl, hk, HO, HBW⟩ := hrel
    rcases gk with _ | gk
    · have hlt : decide ((i : Int) < (Y.length : Int)) = false := decide_eq_false (by omega)
      obtain rfl : i = Y.length := by omega
      have ho := HO.out
      rw [List.take_of_length_le (Nat.le_refl _)] at ho
      obtain ⟨acc, hacc⟩ : ∃ acc, Y.map (cmp1 X) = acc := ⟨_, rfl⟩
      have hal : Y.length = acc.length := by rw [← hacc, List.length_map]
      have hn := HN.out
      rw [hacc] at ho hn
      rw [hal] at ho ⊢
      obtain ⟨hC, hc⟩ := own_C94r ho rfl
      obtain ⟨k, hk⟩ := of_f acc (by have := HLY.out; omega)
      obtain ⟨⟨n0, n1, n2, n3⟩, hq⟩ : ∃ q, normOf acc = q := ⟨_, rfl⟩
      rw [hq] at hk
      have HOF := Hd.mk (sapperref16_Of.calls k A c acc n0 n1 n2 n3 wr hC hc hk)
      have HN' := Hd.mk (hq.symm.trans hn)
      replace HB := Hd.mk (below_step HB.out HBW.out)
      replace HY := Hd.mk (blk_below HY.out HBW.out)
      replace HV := Hd.mk (blk_below HV.out HBW.out)
      replace HT := Hd.mk (blk_below HT.out HBW.out)
      clear hn hq hk hC hc ho HO HBW HN HIN HCX HCY hacc
      go_wp2_with fail
      refine HOF.out.mono ?_
      rintro e w6 ⟨v0, v1, v2, rfl, r0, r1, r2, hb6⟩
      have HSZ2 := Hd.mk (blk_lt HT.out)
      have hsz := HB.out.size
      replace HB := Hd.mk (below_step HB.out hb6)
      replace HY := Hd.mk (blk_below HY.out hb6)
      replace HV := Hd.mk (blk_below HV.out hb6)
      replace HT := Hd.mk (blk_below HT.out hb6)
      obtain ⟨B0, e0, rfl⟩ := Kd.R_slice r0
      obtain ⟨B1, e1, rfl⟩ := Kd.R_slice r1
      obtain ⟨B2, e2, rfl⟩ := Kd.R_slice r2
      have f0 := blk_frozen HT.out 0
      have f1 := blk_frozen HT.out 1
      have f2 := blk_frozen HT.out 2
      have cT0 := blk_cell HT.out 0
      have cT1 := blk_cell HT.out 1
      have cT2 := blk_cell HT.out 2
      simp at cT0 cT1 cT2
      have R0 := Hd.mk r0
      have R1 := Hd.mk r1
      have R2 := Hd.mk r2
      have HSZ := Hd.mk hsz
      clear r0 r1 r2 hb6 HOF hsz
      go_wp2
      refine leaveRC (b := w.heap.size + 1 + 1) rfl rfl (blk3 HT.out _ _ _) ?_
      rw [← HN'.out]
      exact normR_fin (by omega) (by have := HSZ2.out; omega) HB.out R0.out R1.out R2.out _ _ _
    · have hlt : decide ((i : Int) < (Y.length : Int)) = true := decide_eq_true (by omega)
      have hlt0 : (i : Int) < (Y.length : Int) := by omega
      have hil : i < Y.length := by omega
      have hw5 := HBW.out.size
      obtain ⟨ady, ey, y0, y1, y2⟩ := at_T94 (Kd.C_below HCY.out HBW.out) i (by omega) hlt0
      have hmem : rd_T94 Y i ∈ Y := by
        rw [rd_T94, Int.toNat_natCast, List.getD_eq_getElem?_getD, List.getElem?_eq_getElem hil]
        exact List.getElem_mem hil
      have hin := HIN.out _ hmem
      have htk : (Y.take (i + 1)).map (cmp1 X) = (Y.take i).map (cmp1 X) ++ [cmp1 X (rd_T94 Y i)] := by
        rw [List.take_succ_eq_append_getElem hil, List.map_append]
        simp [rd_T94, List.getD_eq_getElem?_getD, List.getElem?_eq_getElem hil]
      obtain ⟨⟨o0, o1, o2⟩, ho⟩ : ∃ o, rd_T94 Y i = o := ⟨_, rfl⟩
      rw [ho] at y0 y1 y2 hin htk
      rw [Int.toNat_natCast] at y0 y1 y2
      simp only at y0 y1 y2 hin
      subst ey
      have HTK := Hd.mk htk
      clear htk hmem ho
      have hng : decide ((0 : Int) ≤ (i : Int)) = true := decide_eq_true (by omega)
      have hx : cmp1 X ⟨o0, o1, o2⟩ = if o0 = true then ⟨(rd_T94 X o1).f0, (rd_T94 X o1).f1, ((rd_T94 X o1).f2 + o2) % 256⟩ else ⟨o0, o1, o2⟩ := rfl
      have hly := HLY.out
      cases o0 with
      | false =>
        rw [if_neg (by simp)] at hx
        have hT := HTK.out
        rw [hx] at hT
        replace HTK := Hd.mk hT
        have HOW := Hd.mk (pw_own_below (pw_own_below HO.out ((Below.refl _ _).alloc (Nat.le_refl _) (.cells #[.bool false, .int .i64 o1, .int .u8 o2] 94))) ((Below.refl _ _).alloc (Nat.le_refl _) (.cells #[.bool false, .int .i64 o1, .int .u8 o2] 94)))
        have hbw := (HBW.out.alloc hw5 (.cells #[.bool false, .int .i64 o1, .int .u8 o2] 94)).alloc (by simp; omega) (.cells #[.bool false, .int .i64 o1, .int .u8 o2] 94)
        have HBN := Hd.mk hbw
        clear hin hx hT hbw
        go_wp2_with (first | (at_builtin; refine wpList_app (v := .slice A i c) (n := i) (xs := cells94r ((Y.take i).map (cmp1 X))) rfl _ _ _ rfl w5.heap.size eltOr rfl rfl HOW.out (src94r (by simp) ⟨false, o1, o2⟩) (by omega) (by simp; omega) ?_; intro v1 wn h1 h2 h3 _; obtain ⟨A', c', rfl⟩ := own_slice h1.out))
        go_roundg gk
        case measure => omega
        case rel =>
          refine ⟨i + 1, A', c', rfl, rfl, by omega, ⟨?_⟩, ⟨HBN.out.grown h2.out (by simp; omega) (own_base HOW.out)⟩⟩
          rw [HTK.out, cells94r_snoc]
          exact h1.out
      | true =>
        obtain ⟨hi0, hi1⟩ := hin rfl
        rw [if_pos rfl] at hx
        have hT := HTK.out
        rw [hx] at hT
        obtain ⟨adx, ex, x0, x1, x2⟩ := at_T94 (Kd.C_below HCX.out HBW.out) o1 hi0 hi1
        obtain ⟨⟨p0, p1, p2⟩, hp⟩ : ∃ o, rd_T94 X o1 = o := ⟨_, rfl⟩
        rw [hp] at x0 x1 x2 hT
        simp only at x0 x1 x2 hT
        subst ex
        have HTK' := Hd.mk hT
        have hba : Below wr.heap.size wr (wr.alloc (.cells #[.bool true, .int .i64 o1, .int .u8 o2] 94)) := (Below.refl _ _).alloc (Nat.le_refl _) _
        have z0 := pw_cell_below hba x0
        have z1 := pw_cell_below hba x1
        have z2 := pw_cell_below hba x2
        have HOW := Hd.mk (pw_own_below (pw_own_below HO.out ((Below.refl _ _).alloc (Nat.le_refl _) (.cells #[.bool p0, .int .i64 p1, .int .u8 ((p2 + o2) % 256)] 94))) ((Below.refl _ _).alloc (Nat.le_refl _) (.cells #[.bool p0, .int .i64 p1, .int .u8 ((p2 + o2) % 256)] 94)))
        have hbw := (HBW.out.alloc hw5 (.cells #[.bool p0, .int .i64 p1, .int .u8 ((p2 + o2) % 256)] 94)).alloc (by simp; omega) (.cells #[.bool p0, .int .i64 p1, .int .u8 ((p2 + o2) % 256)] 94)
        have HBN := Hd.mk hbw
        have hi0' : decide (0 ≤ o1) = true := decide_eq_true hi0
        have hi1' : decide (o1 < (X.length : Int)) = true := decide_eq_true hi1
        clear hin hx hT hp hba x0 x1 x2 HTK hbw
        go_wp2_with (first | (at_builtin; refine wpList_app (v := .slice A i c) (n := i) (xs := cells94r ((Y.take i).map (cmp1 X))) rfl _ _ _ rfl w5.heap.size eltOr rfl rfl HOW.out (src94r (by simp) ⟨p0, p1, (p2 + o2) % 256⟩) (by omega) (by simp; omega) ?_; intro v1 wn h1 h2 h3 _; obtain ⟨A', c', rfl⟩ := own_slice h1.out))
        go_roundg gk
        case measure => omega
        case rel =>
          refine ⟨i + 1, A', c', rfl, rfl, by omega, ⟨?_⟩, ⟨HBN.out.grown h2.out (by simp; omega) (own_base HOW.out)⟩⟩
          rw [HTK'.out, cells94r_snoc]
          exact h1.out
end Go.Proofs.Ytemlbjpefomboaa
