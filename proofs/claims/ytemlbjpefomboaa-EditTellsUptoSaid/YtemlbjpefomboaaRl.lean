/- edit: the document's Tell, by contract. -/
import Derived.Test.YtemlbjpefomboaaRc
import Derived.Test.YtemlbjpefomboaaEb
namespace Go.Proofs.Ytemlbjpefomboaa
open Go.RowKit Go.Shelf Go.Proofs.YtemlbjpefomboaaW.PrintWords Go.Proofs.YtemlbjpefomboaaW.PrintLast Go.Proofs.YtemlbjpefomboaaW.PrintMore Go.Proofs.Ytemlbjpefomboaa.Pr
set_option linter.unusedVariables false
set_option linter.unusedSimpArgs false
def ofold : List S94 → Bool → Int → Bool × Int
  | [], b, r => (b, r)
  | o :: l, b, r => if o.f0 = true then ofold l (b || decide (o.f1 < 0)) (if o.f1 + 1 > r then o.f1 + 1 else r) else ofold l b r
theorem ofold_append : ∀ (l m : List S94) (b : Bool) (r : Int), ofold (l ++ m) b r = ofold m (ofold l b r).1 (ofold l b r).2
  | [], m, b, r => rfl
  | o :: l, m, b, r => by
    simp only [List.cons_append, ofold]
    split
    · exact ofold_append l m _ _
    · exact ofold_append l m _ _
theorem ofold_own (x : List Int) (b : Bool) (r : Int) : ofold (x.map (fun (c : Int) => (⟨false, 0, c⟩ : S94))) b r = (b, r) := by
  induction x with
  | nil => rfl
  | cons c x ih => simp only [List.map_cons, ofold]; exact ih
theorem ofold_run (d : List Int) (a : Int) : ∀ (n : Nat) (b : Bool) (r : Int), -4611686018427387904 ≤ a ∧ a + n ≤ 4611686018427387904 →
    ofold ((List.range n).map (fun (i : Nat) => (⟨true, wrap64 (a + (i : Int)), d.getD i 0⟩ : S94))) b r = if 0 < n then (b || decide (a < 0), if r < a + n then a + n else r) else (b, r)
  | 0, b, r, h => rfl
  | n + 1, b, r, h => by
    rw [List.range_succ, List.map_append, ofold_append, ofold_run d a n b r (by omega), if_pos (show 0 < n + 1 by omega)]
    simp only [List.map_cons, List.map_nil, ofold, if_true]
    rw [w64 (a + (n : Int)) (by omega)]
    by_cases hn : 0 < n
    · rw [if_pos hn]
      simp only
      refine Prod.ext ?_ ?_
      · simp only
        by_cases h1 : a < 0
        · rw [decide_eq_true h1]; simp
        · rw [decide_eq_false h1, decide_eq_false (by omega)]; simp
      · simp only
        by_cases h1 : r < a + n
        · rw [if_pos h1, if_pos (by omega), if_pos (by omega)]
          omega
        · rw [if_neg h1]
          by_cases h2 : a + n + 1 > r
          · rw [if_pos h2, if_pos (by omega)]
            omega
          · rw [if_neg h2, if_neg (by omega)]
    · obtain rfl : n = 0 := by omega
      rw [if_neg (by omega)]
      simp only
      refine Prod.ext ?_ ?_
      · simp
      · simp only
        by_cases h2 : r < a + ((0 + 1 : Nat) : Int)
        · rw [if_pos h2, if_pos (by omega)]
          omega
        · rw [if_neg h2, if_neg (by omega)]
theorem ofold_og : ∀ (st : List S80) (d x : List Int) (a B : Int) (t : Tl), st.all may = true → -B ≤ a → a ≤ B → B + 33554432 * (st.length + 1) ≤ 4611686018427387904 →
    ofold (og st d x a) t.bl t.r = ((tl st a t).bl, (tl st a t).r)
  | [], _, _, _, _, _, _, _, _, _ => rfl
  | s :: l, d, x, a, B, t, h, h1, h2, h3 => by
    simp only [List.all_cons, Bool.and_eq_true] at h
    have hm := (may_iff s).1 h.1
    simp only [List.length_cons] at h3
    have e1 : (s.f0.toNat : Int) = s.f0 := by omega
    rw [og, ofold_append, ofold_append, ofold_own, ofold_run d a s.f0.toNat t.bl t.r (by omega), e1, tl]
    have ih := ofold_og l (d.drop s.f0.toNat) (x.drop s.f1.toNat) (a + s.f0 + s.f2) (B + 33554432) ⟨if 0 < s.f0 then t.bl || decide (a < 0) else t.bl, t.j + (if s.f2 < -s.f2 then -s.f2 else s.f2), if 0 < s.f0 then (if t.r < a + s.f0 then a + s.f0 else t.r) else t.r⟩ h.2 (by omega) (by omega) (by omega)
    by_cases h0 : 0 < s.f0
    · rw [if_pos (show 0 < s.f0.toNat by omega)]
      simp only [if_pos h0] at ih ⊢
      exact ih
    · rw [if_neg (show ¬ 0 < s.f0.toNat by omega)]
      simp only [if_neg h0] at ih ⊢
      exact ih
theorem rtell_l2 (L : List S94) (hf : L.length ≤ 16777216) (hb : ∀ o ∈ L, o.f1 ≤ 4611686018427387904 ∧ -4611686018427387904 ≤ o.f1) (n0 n1 n2 n3 n4 : Int) : ∀ (j i : Nat) (b : Bool) (r : Int), i + j = L.length →
    sapperref16_Tell.l2 (j + 1) L b i n0 n1 n2 n3 n4 r = some (n0, n1, n2, n3, n4, (if (ofold (L.drop i) b r).1 then 0 else (ofold (L.drop i) b r).2), 0)
  | 0, i, b, r, hi => by
    obtain rfl : i = L.length := by omega
    rw [sapperref16_Tell.l2, if_neg (by omega), List.drop_length]
    simp only [ofold]
    cases b <;> rfl
  | j + 1, i, b, r, hi => by
    have hlt : i < L.length := by omega
    have hg : rd_T94 L i = L[i] := by simp [rd_T94, List.getD_eq_getElem?_getD, List.getElem?_eq_getElem hlt]
    have hd : L.drop i = rd_T94 L i :: L.drop (i + 1) := by rw [List.drop_eq_getElem_cons hlt, hg]
    have hmem : rd_T94 L i ∈ L := by rw [hg]; exact List.getElem_mem hlt
    have hbb := hb _ hmem
    rw [sapperref16_Tell.l2, if_pos (by omega), if_pos (by omega), hd]
    obtain ⟨⟨fr, at_, by_⟩, ho⟩ : ∃ o, rd_T94 L i = o := ⟨_, rfl⟩
    rw [ho] at hbb ⊢
    simp only at hbb ⊢
    rw [w64 (at_ + 1) (by omega), w64 ((i : Int) + 1) (by omega), show ((i : Int) + 1) = ((i + 1 : Nat) : Int) by omega]
    simp only [ofold]
    have ih := fun b r => rtell_l2 L hf hb n0 n1 n2 n3 n4 j (i + 1) b r (by omega)
    cases fr with
    | false =>
      rw [if_neg (by decide)]
      cases b with
      | true => rw [if_pos rfl, ih]; rfl
      | false => rw [if_neg (by decide), ih]; rfl
    | true =>
      rw [if_pos rfl]
      simp only [if_true]
      by_cases h1 : at_ + 1 > r
      · rw [if_pos h1, if_pos h1]
        cases b with
        | true => rw [if_pos rfl, ih]; rfl
        | false => rw [if_neg (by decide), ih]; rfl
      · rw [if_neg h1, if_neg h1]
        cases b with
        | true => rw [if_pos rfl, ih]; rfl
        | false => rw [if_neg (by decide), ih]; rfl
theorem og_bound : ∀ (st : List S80) (d x : List Int) (a B : Int), st.all may = true → -B ≤ a → a ≤ B → B + 33554432 * (st.length + 1) ≤ 4611686018427387904 → ∀ o ∈ og st d x a, o.f1 ≤ 4611686018427387904 ∧ -4611686018427387904 ≤ o.f1
  | [], _, _, _, _, _, _, _, _, o, ho => by simp [og] at ho
  | s :: l, d, x, a, B, h, h1, h2, h3, o, ho => by
    simp only [List.all_cons, Bool.and_eq_true] at h
    have hm := (may_iff s).1 h.1
    simp only [List.length_cons] at h3
    rw [og, List.mem_append, List.mem_append] at ho
    rcases ho with ho | ho | ho
    · obtain ⟨i, hi, rfl⟩ := List.mem_map.1 ho
      have := List.mem_range.1 hi
      simp only
      rw [w64 _ (by omega)]
      omega
    · obtain ⟨c, _, rfl⟩ := List.mem_map.1 ho
      simp
    · exact og_bound l _ _ _ (B + 33554432) h.2 (by omega) (by omega) (by omega) o ho
theorem rtell_l1 (st : List S80) (d x : List Int) (hst : st.all may = true) (hf : st.length ≤ 1048576) (n0 n1 n2 n3 : Int) (q : Int × Int × Int × Int × Int × Int × Int) (K : Nat)
    (hK : ∀ jj, jj = (toldOf st).j → ((sapperref16_Origins.f K st d x).bind fun t188 => sapperref16_Tell.l2 K t188 false 0 n0 n1 n2 n3 jj 0) = some q) : ∀ (j i : Nat) (a : Int) (t : Tl), i + j = st.length → 0 ≤ t.j → t.j ≤ 16777216 * i → (tl (st.drop i) a t).j = (toldOf st).j →
    sapperref16_Tell.l1 (K + j + 1) i st d x n0 n1 n2 n3 t.j 0 = some q
  | 0, i, a, t, hi, h1, h2, ht => by
    obtain rfl : i = st.length := by omega
    rw [List.drop_length, tl] at ht
    rw [sapperref16_Tell.l1, if_neg (by omega)]
    exact hK _ ht
  | j + 1, i, a, t, hi, h1, h2, ht => by
    have hlt : i < st.length := by omega
    have hd := drop_rd st i hlt
    have hall := all_drop hst i
    rw [hd, List.all_cons, Bool.and_eq_true] at hall
    have hm := (may_iff _).1 hall.1
    rw [hd, tl] at ht
    rw [show K + (j + 1) + 1 = (K + j + 1) + 1 by omega, sapperref16_Tell.l1, if_pos (by omega), if_pos (by omega)]
    obtain ⟨⟨f0, f1, f2⟩, hs⟩ : ∃ s, rd_T80 st i = s := ⟨_, rfl⟩
    rw [hs] at hm ht ⊢
    simp only at hm ht ⊢
    rw [w64 ((i : Int) + 1) (by omega), show ((i : Int) + 1) = ((i + 1 : Nat) : Int) by omega, w64 (-f2) (by omega), w64 (t.j + -f2) (by omega), w64 (t.j + f2) (by omega)]
    by_cases h0 : f2 < 0
    · rw [if_pos h0]
      rw [if_pos (show f2 < -f2 by omega)] at ht
      exact rtell_l1 st d x hst hf n0 n1 n2 n3 q K hK j (i + 1) _ ⟨_, t.j + -f2, _⟩ (by omega) (by simp only; omega) (by simp only; omega) ht
    · rw [if_neg h0]
      rw [if_neg (show ¬ f2 < -f2 by omega)] at ht
      exact rtell_l1 st d x hst hf n0 n1 n2 n3 q K hK j (i + 1) _ ⟨_, t.j + f2, _⟩ (by omega) (by simp only; omega) (by simp only; omega) ht
theorem rtell_l0 (st : List S80) (d x : List Int) (hd : d.length ≤ 1048576) (n0 n1 n3 : Int) (q : Int × Int × Int × Int × Int × Int × Int) (K : Nat)
    (hK : sapperref16_Tell.l1 K 0 st d x n0 n1 (zeros d) n3 0 0 = some q) : ∀ (j i : Nat) (z : Int), i + j = d.length → 0 ≤ z → z ≤ i → z + zeros (d.drop i) = zeros d →
    sapperref16_Tell.l0 (K + j + 1) i st d x n0 n1 z n3 0 0 = some q
  | 0, i, z, hi, h0, h1, hz => by
    obtain rfl : i = d.length := by omega
    rw [List.drop_length] at hz
    simp only [zeros, Int.add_zero] at hz
    subst hz
    rw [sapperref16_Tell.l0, if_neg (by omega)]
    exact hK
  | j + 1, i, z, hi, h0, h1, hz => by
    have hlt : i < d.length := by omega
    have hdr : d.drop i = rd d i :: d.drop (i + 1) := by
      rw [List.drop_eq_getElem_cons hlt]
      congr 1
      simp [rd, List.getD_eq_getElem?_getD, List.getElem?_eq_getElem hlt]
    rw [hdr, zeros] at hz
    rw [show K + (j + 1) + 1 = (K + j + 1) + 1 by omega, sapperref16_Tell.l0, if_pos (by omega), if_pos (by omega), w64 ((i : Int) + 1) (by omega), w64 (z + 1) (by omega), show ((i : Int) + 1) = ((i + 1 : Nat) : Int) by omega]
    by_cases hb : rd d i = 0
    · rw [if_pos hb] at hz
      rw [if_pos hb]
      exact rtell_l0 st d x hd n0 n1 n3 q K hK j (i + 1) (z + 1) (by omega) (by omega) (by omega) (by omega)
    · rw [if_neg hb] at hz
      rw [if_neg hb]
      exact rtell_l0 st d x hd n0 n1 n3 q K hK j (i + 1) z (by omega) (by omega) (by omega) (by omega)
theorem rtell_f (st : List S80) (d x : List Int) (hf : st.length ≤ 1048576) (hd : d.length ≤ 1048576) : ∃ k, sapperref16_Tell.f k st d x = some (told st d x) := by
  obtain ⟨k0, hk0⟩ := ritself_f st d x hf
  by_cases h : (ited st d x).2 = 0
  · have hall := (ited_all h).1
    obtain ⟨k1, hk1⟩ := origins_f h hf
    have hlen : (og st d x 0).length ≤ 16777216 := by
      have := og_len st d x 0 hall (ited_all h).2.2.1 (ited_all h).2.2.2.1
      have := (ited_all h).2.1
      omega
    have hbd := og_bound st d x 0 0 hall (by omega) (by omega) (by omega)
    have hof := ofold_og st d x 0 0 ⟨false, 0, 0⟩ hall (by omega) (by omega) (by omega)
    have g1 : ∀ m, sapperref16_Origins.f (k1 + m) st d x = some (og st d x 0) := fun m => at_rounds (g := fun k => sapperref16_Origins.f k st d x) (fun k => sapperref16_Origins.mono st d x k) (Nat.le_add_right _ _) hk1
    have s2 : ∀ jj, jj = (toldOf st).j → ((sapperref16_Origins.f (k1 + ((og st d x 0).length + 1)) st d x).bind fun t188 => sapperref16_Tell.l2 (k1 + ((og st d x 0).length + 1)) t188 false 0 st.length d.length (zeros d) x.length jj 0) = some (told st d x) := by
      intro jj hj
      subst hj
      rw [g1, Option.bind_some]
      have := rtell_l2 (og st d x 0) hlen hbd st.length d.length (zeros d) x.length (toldOf st).j (og st d x 0).length 0 false 0 (by omega)
      rw [List.drop_zero] at this
      rw [show ((0 : Nat) : Int) = 0 from rfl] at this
      have this2 := at_rounds (g := fun k => sapperref16_Tell.l2 k (og st d x 0) false 0 st.length d.length (zeros d) x.length (toldOf st).j 0) (fun k => (sapperref16_Tell.mono_l k).2.2 _ _ _ _ _ _ _ _ _) (show (og st d x 0).length + 1 ≤ k1 + ((og st d x 0).length + 1) by omega) this
      rw [this2]
      unfold told
      rw [if_pos h]
      simp only at hof
      rw [hof]
      rfl
    have s1 := rtell_l1 st d x hall hf st.length d.length (zeros d) x.length (told st d x) _ s2 st.length 0 0 ⟨false, 0, 0⟩ (by omega) (by simp) (by simp) (by rw [List.drop_zero]; rfl)
    have s0 := rtell_l0 st d x hd st.length d.length x.length (told st d x) _ s1 d.length 0 0 (by omega) (by omega) (by omega) (by rw [List.drop_zero]; omega)
    refine ⟨k0 + (k1 + ((og st d x 0).length + 1) + st.length + 1 + d.length + 1), ?_⟩
    unfold sapperref16_Tell.f
    rw [ritself_mono st d x (Nat.le_add_right k0 _) hk0, Option.bind_some, if_pos h]
    exact at_rounds (g := fun k => sapperref16_Tell.l0 k ((0 : Nat) : Int) st d x st.length d.length 0 x.length 0 0) (fun k => (sapperref16_Tell.mono_l k).1 _ _ _ _ _ _ _ _ _ _) (Nat.le_add_left _ _) s0
  · refine ⟨k0, ?_⟩
    unfold sapperref16_Tell.f told
    rw [hk0, Option.bind_some, if_neg h, if_neg h]
theorem rtell_c {A0 : Option Addr} {c0 : Nat} {st : List S80} {A1 : Option Addr} {c1 : Nat} {d : List Int} {A2 : Option Addr} {c2 : Nat} {x : List Int} {w : World} (h : EdC w A0 c0 st A1 c1 d A2 c2 x) (hf : st.length ≤ 1048576) (hd : d.length ≤ 1048576) :
    Calls Try.prog 35 #[EdV A0 st.length c0 A1 d.length c1 A2 x.length c2] w fun e w' => e = .returned (.tuple #[.agg #[.int .i64 (told st d x).1, .int .i64 (told st d x).2.1, .int .i64 (told st d x).2.2.1, .int .i64 (told st d x).2.2.2.1, .int .i64 (told st d x).2.2.2.2.1, .int .i64 (told st d x).2.2.2.2.2.1], .int .i64 (told st d x).2.2.2.2.2.2]) ∧ Below w.heap.size w w' := by
  obtain ⟨k, hk⟩ := rtell_f st d x hf hd
  exact sapperref16_Tell.calls k A0 c0 st A1 c1 d A2 c2 x _ _ _ _ _ _ _ w h.s h.hs h.di h.hd h.ex h.hx hk
end Go.Proofs.Ytemlbjpefomboaa
