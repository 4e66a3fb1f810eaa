/- cutter: the document's check of an edit, its ways: what they tell. -/
import Derived.Test.YtinlfoblpgpikaaF7
import Derived.Test.YtinlfoblpgpikaaF9
import Derived.Test.YtinlfoblpgpikaaKp
import Derived.Test.YtinlfoblpgpikaaCp
import Derived.Test.YtinlfoblpgpikaaWc
namespace Go.Proofs.Ytinlfoblpgpikaa
open Go.RowKit Go.Shelf Go.Proofs.YtinlfoblpgpikaaW.PrintWords Go.Proofs.YtinlfoblpgpikaaW.PrintLast Go.Proofs.YtinlfoblpgpikaaW.PrintMore Go.Proofs.Ytinlfoblpgpikaa.Pr
set_option linter.unusedVariables false
set_option linter.unusedSimpArgs false
theorem rin_f (n lo hi : Int) : sapperref17_in.f n lo hi = some (decide (lo ≤ n ∧ n ≤ hi)) := by
  unfold sapperref17_in.f
  by_cases h : n ≥ lo
  · rw [if_pos h]
    congr 1
    rw [Bool.eq_iff_iff]
    simp only [decide_eq_true_eq]
    omega
  · rw [if_neg h, decide_eq_false (by omega)]
theorem rd_f81 (L : List S81) (i : Nat) (h : i < L.length) : (L.map f81)[i]? = some (f81 (rd_T81 L (i : Int))) := by
  rw [List.getElem?_map, List.getElem?_eq_getElem h]
  simp [rd_T81, List.getD_eq_getElem?_getD, List.getElem?_eq_getElem h]
theorem drop_f81 (L : List S81) (i : Nat) (h : i < L.length) : (L.map f81).drop i = f81 (rd_T81 L (i : Int)) :: (L.map f81).drop (i + 1) := by
  have hl : i < (L.map f81).length := by rw [List.length_map]; exact h
  rw [List.drop_eq_getElem_cons hl]
  congr 1
  have := rd_f81 L i h
  rw [List.getElem?_eq_getElem hl] at this
  exact Option.some.inj this
theorem sm_all : ∀ (L : List S81) (a c : Int), (L.map f81).all may = true → 0 ≤ a → 0 ≤ c → sm L a c = if a + sA (L.map f81) ≤ 16777216 ∧ c + sC (L.map f81) ≤ 16777216 ∨ L = [] then some (a + sA (L.map f81), c + sC (L.map f81)) else none
  | [], a, c, _, _, _ => by simp [sm, sA, sC]
  | s :: l, a, c, h, h0, h1 => by
    rw [List.map_cons, List.all_cons, Bool.and_eq_true] at h
    have hm := (may_iff _).1 h.1
    have hm : 0 ≤ s.f0 ∧ s.f0 ≤ 16777216 ∧ 0 ≤ s.f1 ∧ s.f1 ≤ 16777216 ∧ -16777216 ≤ s.f2 ∧ s.f2 ≤ 16777216 := hm
    have n0 := sA_nn (l.map f81) h.2
    have n1 := sC_nn (l.map f81) h.2
    have eA : sA ((s :: l).map f81) = s.f0 + sA (l.map f81) := rfl
    have eC : sC ((s :: l).map f81) = s.f1 + sC (l.map f81) := rfl
    rw [sm, eA, eC]
    by_cases hq : a + s.f0 ≤ 16777216 ∧ c + s.f1 ≤ 16777216
    · rw [if_pos (by omega), sm_all l _ _ h.2 (by omega) (by omega)]
      by_cases hl : l = []
      · subst hl
        simp only [List.map_nil, sA, sC, Int.add_zero]
        rw [if_pos (.inr trivial), if_pos (.inl hq)]
      · by_cases hh : a + s.f0 + sA (l.map f81) ≤ 16777216 ∧ c + s.f1 + sC (l.map f81) ≤ 16777216
        · rw [if_pos (.inl hh), if_pos (.inl (by omega))]
          congr 2 <;> omega
        · rw [if_neg (by rintro (h | h); exact hh h; exact hl h), if_neg (by rintro (h | h); omega; cases h)]
    · rw [if_neg (by omega), if_neg (by rintro (h | h); omega; cases h)]
/-- What the document's check of an edit answers. -/
def ecR (st : List S82) (d x : List Int) : Int :=
  if st.all may = true then (if sA st + sC st ≤ 16777216 ∧ sA st = d.length ∧ sC st = x.length then (if rds 16777216 st 0 = true then 0 else 161) else 162) else 160
theorem ec_l1 (L : List S81) (hl : L.length ≤ 9223372036854775806) : ∀ (j i m : Nat) (a : Int), i + j = L.length → sapperref17_editCheck.l1 (m + j + 1) (wrap64 a) L (L.length : Int) i = some (if rds 16777216 ((L.map f81).drop i) a = true then 0 else 161)
  | 0, i, m, a, hi => by
    rw [sapperref17_editCheck.l1, if_neg (by omega), List.drop_eq_nil_of_le (by rw [List.length_map]; omega)]
    rfl
  | j + 1, i, m, a, hi => by
    have hil : i < L.length := by omega
    have e : wrap64 ((i : Int) + 1) = ((i + 1 : Nat) : Int) := by rw [w64 _ (by omega)]; omega
    have ih := ec_l1 L hl j (i + 1) m (a + (rd_T81 L (i : Int)).f0 + (rd_T81 L (i : Int)).f2) (by omega)
    rw [drop_f81 L i hil, rds]
    rw [show m + (j + 1) + 1 = (m + j + 1) + 1 by omega, sapperref17_editCheck.l1, if_pos (by omega), if_pos (by omega), if_pos (by omega), w64_add' (wrap64 a), w64_add a, w64_add a, ← Int.add_assoc, e, ih]
    have e0 : (f81 (rd_T81 L (i : Int))).f0 = (rd_T81 L (i : Int)).f0 := rfl
    have e2 : (f81 (rd_T81 L (i : Int))).f2 = (rd_T81 L (i : Int)).f2 := rfl
    rw [e0, e2]
    by_cases h0 : (rd_T81 L (i : Int)).f0 > 0
    · rw [if_pos h0]
      by_cases h1 : wrap64 a < 0
      · have hc : 0 < (rd_T81 L (i : Int)).f0 ∧ (wrap64 a < 0 ∨ 16777216 < wrap64 (a + (rd_T81 L (i : Int)).f0)) := ⟨h0, .inl h1⟩
        rw [if_pos h1, if_pos hc]
        rfl
      · rw [if_neg h1]
        by_cases h2 : wrap64 (a + (rd_T81 L (i : Int)).f0) > 16777216
        · have hc : 0 < (rd_T81 L (i : Int)).f0 ∧ (wrap64 a < 0 ∨ 16777216 < wrap64 (a + (rd_T81 L (i : Int)).f0)) := ⟨h0, .inr h2⟩
          rw [if_pos h2, if_pos hc]
          rfl
        · have hc : ¬ (0 < (rd_T81 L (i : Int)).f0 ∧ (wrap64 a < 0 ∨ 16777216 < wrap64 (a + (rd_T81 L (i : Int)).f0))) := fun h => h.2.elim h1 h2
          rw [if_neg h2, if_neg hc]
    · have hc : ¬ (0 < (rd_T81 L (i : Int)).f0 ∧ (wrap64 a < 0 ∨ 16777216 < wrap64 (a + (rd_T81 L (i : Int)).f0))) := fun h => h0 h.1
      rw [if_neg h0, if_neg hc]
theorem ec_f (L : List S81) (d x : List Int) (hl : L.length ≤ 4611686018427387903) : ∃ k, sapperref17_editCheck.f k L d x = some (ecR (L.map f81) d x) := by
  have hs := sums_l0 L (by omega) L.length 0 0 0 (by omega) (by omega) (by omega) (by omega) (by omega)
  rw [List.drop_zero] at hs
  have hs' : sapperref17_Sums.f (2 * L.length + 1) L = some (sme (sm L 0 0)) := hs
  have hj1 : ∀ b, sapperref17_editCheck.j1 (2 * L.length + 1 + L.length + 2) b L d x = some (if b = true then 162 else if rds 16777216 (L.map f81) 0 = true then 0 else 161) := by
    intro b
    rw [sapperref17_editCheck.j1]
    cases b with
    | true => rw [if_pos rfl, if_pos rfl]
    | false =>
      rw [if_neg (by decide), if_neg (by decide)]
      have := ec_l1 L (by omega) L.length 0 (2 * L.length + 1) 0 (by omega)
      rw [List.drop_zero, show wrap64 0 = 0 from w64 0 (by omega)] at this
      exact this
  have hl0 : ∀ (j i : Nat), i + j = L.length → ((L.map f81).take i).all may = true → sapperref17_editCheck.l0 (2 * L.length + 1 + L.length + 2 + 1 + j) L (L.length : Int) i L d x = some (ecR (L.map f81) d x) := by
    intro j
    induction j with
    | zero =>
      intro i hi hall
      rw [List.take_of_length_le (by rw [List.length_map]; omega)] at hall
      have g0 : sapperref17_Sums.f (2 * L.length + 1 + L.length + 2) L = some (sme (sm L 0 0)) := at_rounds (g := fun k => sapperref17_Sums.f k L) (fun k => sapperref17_Sums.mono L k) (by omega) hs'
      have n0 := sA_nn (L.map f81) hall
      have n1 := sC_nn (L.map f81) hall
      rw [Nat.add_zero, sapperref17_editCheck.l0, if_neg (by omega), g0, Option.bind_some, sm_all L 0 0 hall (Int.le_refl _) (Int.le_refl _), Int.zero_add, Int.zero_add]
      unfold ecR
      rw [if_pos hall]
      by_cases hq : sA (L.map f81) ≤ 16777216 ∧ sC (L.map f81) ≤ 16777216 ∨ L = []
      · rw [if_pos hq]
        have hq' : sA (L.map f81) ≤ 16777216 ∧ sC (L.map f81) ≤ 16777216 := by
          rcases hq with h | h
          · exact h
          · subst h; exact ⟨by decide, by decide⟩
        have hw : wrap64 (sA (L.map f81) + sC (L.map f81)) = sA (L.map f81) + sC (L.map f81) := w64 _ (by omega)
        simp only [sme, hw]
        refine (if_pos trivial).trans ?_
        by_cases h1 : sA (L.map f81) + sC (L.map f81) > 16777216
        · refine (if_pos h1).trans ?_
          rw [hj1, if_pos rfl, if_neg (by omega)]
        · refine (if_neg h1).trans ?_
          by_cases h2 : sA (L.map f81) = (d.length : Int)
          · refine (if_pos h2).trans ?_
            rw [hj1]
            by_cases h3 : sC (L.map f81) = (x.length : Int)
            · have hb : ¬ ((sC (L.map f81) != (x.length : Int)) = true) := by simp [h3]
              have hc : sA (L.map f81) + sC (L.map f81) ≤ 16777216 ∧ sA (L.map f81) = (d.length : Int) ∧ sC (L.map f81) = (x.length : Int) := ⟨by omega, h2, h3⟩
              rw [if_neg hb, if_pos hc]
            · have hb : (sC (L.map f81) != (x.length : Int)) = true := by simpa using h3
              have hc : ¬ (sA (L.map f81) + sC (L.map f81) ≤ 16777216 ∧ sA (L.map f81) = (d.length : Int) ∧ sC (L.map f81) = (x.length : Int)) := fun h => h3 h.2.2
              rw [if_pos hb, if_neg hc]
          · refine (if_neg h2).trans ?_
            rw [hj1, if_pos rfl, if_neg (fun h => h2 h.2.1)]
      · rw [if_neg hq]
        simp only [sme]
        refine (if_neg (fun h => by cases h)).trans ?_
        rw [hj1, if_pos rfl, if_neg (fun h => hq (.inl (by omega)))]
    | succ j ih =>
      intro i hi hall
      have hil : i < L.length := by omega
      have e : wrap64 ((i : Int) + 1) = ((i + 1 : Nat) : Int) := by rw [w64 _ (by omega)]; omega
      have hmay : may (f81 (rd_T81 L (i : Int))) = (decide (0 ≤ (rd_T81 L (i : Int)).f0 ∧ (rd_T81 L (i : Int)).f0 ≤ 16777216) && (decide (0 ≤ (rd_T81 L (i : Int)).f1 ∧ (rd_T81 L (i : Int)).f1 ≤ 16777216) && decide (-16777216 ≤ (rd_T81 L (i : Int)).f2 ∧ (rd_T81 L (i : Int)).f2 ≤ 16777216))) := by
        rw [Bool.eq_iff_iff, may_iff]
        simp only [Bool.and_eq_true, decide_eq_true_eq, f81]
        omega
      have hget := rd_f81 L i hil
      have hno : may (f81 (rd_T81 L (i : Int))) = false → ecR (L.map f81) d x = 160 := by
        intro hn
        unfold ecR
        rw [if_neg]
        intro h
        have := List.all_eq_true.1 h _ (List.mem_of_getElem? hget)
        rw [hn] at this
        cases this
      rw [show 2 * L.length + 1 + L.length + 2 + 1 + (j + 1) = (2 * L.length + 1 + L.length + 2 + 1 + j) + 1 by omega, sapperref17_editCheck.l0, if_pos (by omega), if_pos (by omega), if_pos (by omega), rin_f, Option.bind_some]
      cases h0 : decide (0 ≤ (rd_T81 L (i : Int)).f0 ∧ (rd_T81 L (i : Int)).f0 ≤ 16777216) with
      | false => rw [if_neg (by decide), hno (by rw [hmay, h0]; rfl)]
      | true =>
        rw [if_pos rfl, rin_f, Option.bind_some]
        cases h1 : decide (0 ≤ (rd_T81 L (i : Int)).f1 ∧ (rd_T81 L (i : Int)).f1 ≤ 16777216) with
        | false => rw [if_neg (by decide), hno (by rw [hmay, h0, h1]; rfl)]
        | true =>
          rw [if_pos rfl, rin_f, Option.bind_some]
          cases h2 : decide (-16777216 ≤ (rd_T81 L (i : Int)).f2 ∧ (rd_T81 L (i : Int)).f2 ≤ 16777216) with
          | false => rw [if_neg (by decide), hno (by rw [hmay, h0, h1, h2]; rfl)]
          | true =>
            rw [if_pos rfl, e]
            refine ih (i + 1) (by omega) ?_
            have hl2 : i < (L.map f81).length := by rw [List.length_map]; exact hil
            rw [List.take_succ_eq_append_getElem hl2, List.all_append, hall]
            have hg : (L.map f81)[i] = f81 (rd_T81 L (i : Int)) := by
              rw [List.getElem?_eq_getElem hl2] at hget
              exact Option.some.inj hget
            rw [hg]
            simp [hmay, h0, h1, h2]
  exact ⟨_, hl0 L.length 0 (by omega) (by simp)⟩
def to127 (o : S94) : S127 := ⟨!o.f0, o.f1, o.f2⟩
def wA (D : List Int) (a : Int) (dd n : Nat) : List S127 := (List.range n).map fun i : Nat => ⟨false, wrap64 (a + (i : Int)), rd D ((dd : Int) + (i : Int))⟩
def wC (X : List Int) (xx n : Nat) : List S127 := (List.range n).map fun i : Nat => ⟨true, 0, rd X ((xx : Int) + (i : Int))⟩
theorem og127 (s : S82) (l : List S82) (D X : List Int) (a : Int) (dd xx : Nat) (h0 : 0 ≤ s.f0) (hx : xx + s.f1.toNat ≤ X.length) :
    (og (s :: l) (D.drop dd) (X.drop xx) a).map to127 = wA D a dd s.f0.toNat ++ (wC X xx s.f1.toNat ++ (og l (D.drop (dd + s.f0.toNat)) (X.drop (xx + s.f1.toNat)) (a + s.f0 + s.f2)).map to127) := by
  rw [og, List.map_append, List.map_append]
  congr 1
  · unfold wA
    rw [List.map_map]
    apply List.map_congr_left
    intro i _
    simp only [Function.comp, to127, Bool.not_true]
    congr 1
    unfold rd
    rw [show ((dd : Int) + (i : Int)).toNat = dd + i by omega]
    simp [List.getD_eq_getElem?_getD]
  · congr 1
    · unfold wC
      apply List.ext_getElem
      · simp
        omega
      · intro i h1 h2
        simp only [List.getElem_map, List.getElem_range, to127, List.getElem_take, List.getElem_drop, Bool.not_false]
        have hi : xx + i < X.length := by simp at h2; omega
        congr 1
        unfold rd
        rw [show ((xx : Int) + (i : Int)).toNat = xx + i by omega, List.getD_eq_getElem?_getD, List.getElem?_eq_getElem hi]
        rfl
    · rw [List.drop_drop, List.drop_drop, show a + (s.f0.toNat : Int) + s.f2 = a + s.f0 + s.f2 by omega]
theorem wA_cons (D : List Int) (a : Int) (dd n : Nat) : wA D a dd (n + 1) = ⟨false, wrap64 a, rd D (dd : Int)⟩ :: wA D (a + 1) (dd + 1) n := by
  unfold wA
  rw [List.range_succ_eq_map, List.map_cons, List.map_map]
  congr 1
  · simp
  · apply List.map_congr_left
    intro i _
    simp only [Function.comp]
    rw [show a + ((i + 1 : Nat) : Int) = a + 1 + (i : Int) by omega, show (dd : Int) + ((i + 1 : Nat) : Int) = ((dd + 1 : Nat) : Int) + (i : Int) by omega]
theorem wC_cons (X : List Int) (xx n : Nat) : wC X xx (n + 1) = ⟨true, 0, rd X (xx : Int)⟩ :: wC X (xx + 1) n := by
  unfold wC
  rw [List.range_succ_eq_map, List.map_cons, List.map_map]
  refine List.cons_eq_cons.2 ⟨by simp, ?_⟩
  apply List.map_congr_left
  intro i _
  simp only [Function.comp]
  rw [show (xx : Int) + ((i + 1 : Nat) : Int) = ((xx + 1 : Nat) : Int) + (i : Int) by omega]
theorem wA_len (D : List Int) (a : Int) (dd n : Nat) : (wA D a dd n).length = n := by simp [wA]
theorem wC_len (X : List Int) (xx n : Nat) : (wC X xx n).length = n := by simp [wC]
theorem wy_l2 (L : List S81) (n : Int) (idx : Nat) (hidx : idx ≤ 9223372036854775806) (D X : List Int) (F0 F1 : Nat) (f2 a : Int) (dd xx : Nat) (hx : xx + F1 ≤ X.length) (hX : X.length ≤ 100000000) (hD : dd + F0 ≤ 100000000) (k0 : Nat) : ∀ (j i : Nat) (acc : List S127), i + j = F1 → acc.length + j ≤ 1000000000 →
    sapperref17_Ways.l2 (k0 + 1 + j) (wrap64 a) acc dd xx i L n idx L D X F0 F1 f2 = sapperref17_Ways.l0 k0 (wrap64 (a + F0 + f2)) (acc ++ wC X (xx + i) j) ((dd + F0 : Nat) : Int) ((xx + F1 : Nat) : Int) L n ((idx + 1 : Nat) : Int) L D X
  | 0, i, acc, hi, ha => by
    rw [Nat.add_zero, sapperref17_Ways.l2, if_neg (by omega), w64_add, Int.add_assoc (wrap64 a), w64_add, ← Int.add_assoc]
    rw [show wrap64 ((dd : Int) + (F0 : Int)) = ((dd + F0 : Nat) : Int) by rw [w64 _ (by omega)]; omega, show wrap64 ((xx : Int) + (F1 : Int)) = ((xx + F1 : Nat) : Int) by rw [w64 _ (by omega)]; omega, show wrap64 ((idx : Int) + 1) = ((idx + 1 : Nat) : Int) by rw [w64 _ (by omega)]; omega]
    simp [wC]
  | j + 1, i, acc, hi, ha => by
    have e1 : Hd (wrap64 ((xx : Int) + (i : Int)) = ((xx + i : Nat) : Int)) := ⟨by rw [w64 _ (by omega)]; omega⟩
    have e2 : Hd (wrap64 ((i : Int) + 1) = ((i + 1 : Nat) : Int)) := ⟨by rw [w64 _ (by omega)]; omega⟩
    rw [show k0 + 1 + (j + 1) = (k0 + 1 + j) + 1 by omega, sapperref17_Ways.l2, if_pos (by omega), e1.out, e2.out, if_pos (by omega), if_pos (by omega), if_pos (by omega),
      wy_l2 L n idx hidx D X F0 F1 f2 a dd xx hx hX hD k0 j (i + 1) _ (by omega) (by rw [List.length_append]; simp only [List.length_cons, List.length_nil]; omega), wC_cons, List.append_assoc, List.singleton_append]
    rfl
theorem wy_l1 (L : List S81) (n : Int) (idx : Nat) (hidx : idx ≤ 9223372036854775806) (D X : List Int) (F0 F1 : Nat) (f2 a : Int) (dd xx : Nat) (hd : dd + F0 ≤ D.length) (hx : xx + F1 ≤ X.length) (hD : D.length ≤ 100000000) (hX : X.length ≤ 100000000) (k0 : Nat) : ∀ (j i : Nat) (acc : List S127), i + j = F0 → acc.length + j + F1 ≤ 1000000000 →
    sapperref17_Ways.l1 (k0 + 1 + F1 + 1 + j) (wrap64 a) acc dd xx i L n idx L D X F0 F1 f2 = sapperref17_Ways.l0 k0 (wrap64 (a + F0 + f2)) (acc ++ (wA D (a + i) (dd + i) j ++ wC X xx F1)) ((dd + F0 : Nat) : Int) ((xx + F1 : Nat) : Int) L n ((idx + 1 : Nat) : Int) L D X
  | 0, i, acc, hi, ha => by
    rw [Nat.add_zero, sapperref17_Ways.l1, if_neg (by omega)]
    have := wy_l2 L n idx hidx D X F0 F1 f2 a dd xx hx hX (by omega) k0 F1 0 acc (by omega) (by omega)
    rw [show (((0 : Nat) : Int)) = 0 from rfl] at this
    rw [this]
    simp [wA]
  | j + 1, i, acc, hi, ha => by
    have e1 : Hd (wrap64 ((dd : Int) + (i : Int)) = ((dd + i : Nat) : Int)) := ⟨by rw [w64 _ (by omega)]; omega⟩
    have e2 : Hd (wrap64 ((i : Int) + 1) = ((i + 1 : Nat) : Int)) := ⟨by rw [w64 _ (by omega)]; omega⟩
    rw [show k0 + 1 + F1 + 1 + (j + 1) = (k0 + 1 + F1 + 1 + j) + 1 by omega, sapperref17_Ways.l1, if_pos (by omega), e1.out, e2.out, if_pos (by omega), if_pos (by omega), if_pos (by omega), w64_add,
      wy_l1 L n idx hidx D X F0 F1 f2 a dd xx hd hx hD hX k0 j (i + 1) _ (by omega) (by rw [List.length_append]; simp only [List.length_cons, List.length_nil]; omega), wA_cons, List.append_assoc, List.singleton_append, show a + (i : Int) + 1 = a + ((i + 1 : Nat) : Int) by omega]
    rfl
theorem wy_l0 (L : List S81) (D X : List Int) (hL : L.length ≤ 9223372036854775806) (hD : D.length ≤ 100000000) (hX : X.length ≤ 100000000) : ∀ (l : List S81) (i : Nat) (acc : List S127) (a : Int) (dd xx : Nat), L.drop i = l → i ≤ L.length → (l.map f81).all may = true → dd ≤ D.length → xx ≤ X.length → sA (l.map f81) = ((D.length - dd : Nat) : Int) → sC (l.map f81) = ((X.length - xx : Nat) : Int) → acc.length + (D.length - dd) + (X.length - xx) ≤ 1000000000 →
    ∃ k, sapperref17_Ways.l0 k (wrap64 a) acc dd xx L (L.length : Int) i L D X = some (acc ++ (og (l.map f81) (D.drop dd) (X.drop xx) a).map to127)
  | [], i, acc, a, dd, xx, hl, hi, hm, hd, hx, h0, h1, ha => by
    have hn : L.length ≤ i := by
      have := congrArg List.length hl
      rw [List.length_drop] at this
      simp at this
      omega
    refine ⟨1, ?_⟩
    rw [sapperref17_Ways.l0, if_neg (by omega)]
    simp [og]
  | s :: l, i, acc, a, dd, xx, hl, hi, hm, hd, hx, h0, h1, ha => by
    have hn : i < L.length := by
      have := congrArg List.length hl
      rw [List.length_drop] at this
      simp at this
      omega
    rw [drop_rd81 L i hn] at hl
    obtain ⟨hs, htl⟩ := List.cons.inj hl
    rw [List.map_cons, List.all_cons, Bool.and_eq_true] at hm
    have hmm := (may_iff _).1 hm.1
    have hmm : 0 ≤ s.f0 ∧ s.f0 ≤ 16777216 ∧ 0 ≤ s.f1 ∧ s.f1 ≤ 16777216 ∧ -16777216 ≤ s.f2 ∧ s.f2 ≤ 16777216 := hmm
    have n0 := sA_nn (l.map f81) hm.2
    have n1 := sC_nn (l.map f81) hm.2
    have eA : sA ((s :: l).map f81) = s.f0 + sA (l.map f81) := rfl
    have eC : sC ((s :: l).map f81) = s.f1 + sC (l.map f81) := rfl
    rw [eA] at h0
    rw [eC] at h1
    obtain ⟨f0, f1, f2⟩ := s
    simp only at hmm h0 h1
    obtain ⟨F0, rfl⟩ : ∃ F : Nat, f0 = (F : Int) := ⟨f0.toNat, by omega⟩
    obtain ⟨F1, rfl⟩ : ∃ F : Nat, f1 = (F : Int) := ⟨f1.toNat, by omega⟩
    obtain ⟨k0, hk0⟩ := wy_l0 L D X hL hD hX l (i + 1) (acc ++ (wA D a dd F0 ++ wC X xx F1)) (a + F0 + f2) (dd + F0) (xx + F1) htl (by omega) hm.2 (by omega) (by omega) (by omega) (by omega) (by rw [List.length_append, List.length_append, wA_len, wC_len]; omega)
    refine ⟨k0 + 1 + F1 + 1 + F0 + 1, ?_⟩
    have h := wy_l1 L (L.length : Int) i (by omega) D X F0 F1 f2 a dd xx (by omega) (by omega) hD hX k0 F0 0 acc (by omega) (by omega)
    rw [show (((0 : Nat) : Int)) = 0 from rfl, Int.add_zero] at h
    simp only [Nat.add_zero] at h
    rw [sapperref17_Ways.l0, if_pos (by omega), if_pos (by omega), if_pos (by omega), hs]
    rw [h, hk0, List.map_cons, og127 (f81 ⟨F0, F1, f2⟩) (l.map f81) D X a dd xx (by show (0 : Int) ≤ F0; omega) (by show xx + ((F1 : Int)).toNat ≤ _; rw [Int.toNat_natCast]; omega)]
    simp only [f81, Int.toNat_natCast, List.append_assoc]
theorem ways_f (L : List S81) (D X : List Int) (hL : L.length ≤ 9223372036854775806) (hD : D.length ≤ 100000000) (hX : X.length ≤ 100000000) (hm : (L.map f81).all may = true) (h0 : sA (L.map f81) = (D.length : Int)) (h1 : sC (L.map f81) = (X.length : Int)) :
    ∃ k, sapperref17_Ways.f k L D X 0 = some ((og (L.map f81) D X 0).map to127) := by
  obtain ⟨k, hk⟩ := wy_l0 L D X hL hD hX L 0 [] 0 0 0 rfl (by omega) hm (by omega) (by omega) (by simpa using h0) (by simpa using h1) (by simp only [List.length_nil]; omega)
  refine ⟨k, ?_⟩
  rw [w64 0 (by omega)] at hk
  exact hk
end Go.Proofs.Ytinlfoblpgpikaa
