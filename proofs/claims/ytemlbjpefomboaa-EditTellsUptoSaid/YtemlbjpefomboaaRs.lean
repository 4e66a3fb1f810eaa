/- edit: the document's functions, told plainly. -/
import Derived.Test.YtemlbjpefomboaaE2
import Derived.Test.YtemlbjpefomboaaAc
namespace Go.Proofs.Ytemlbjpefomboaa
open Go.RowKit Go.Shelf Go.Proofs.YtemlbjpefomboaaW.PrintWords Go.Proofs.YtemlbjpefomboaaW.PrintLast Go.Proofs.YtemlbjpefomboaaW.PrintMore Go.Proofs.Ytemlbjpefomboaa.Pr
set_option linter.unusedVariables false
set_option linter.unusedSimpArgs false
theorem rstep_f (s : S80) : sapperref16_StepMay.f s.f0 s.f1 s.f2 = some (may s) := by
  unfold sapperref16_StepMay.f
  have hm := may_iff s
  cases h : may s with
  | true =>
    have := hm.1 h
    simp [this]
  | false =>
    have hn : ¬ (0 ≤ s.f0 ∧ s.f0 ≤ 16777216 ∧ 0 ≤ s.f1 ∧ s.f1 ≤ 16777216 ∧ -16777216 ≤ s.f2 ∧ s.f2 ≤ 16777216) := fun h' => by rw [hm.2 h'] at h; cases h
    by_cases h0 : 0 ≤ s.f0 <;> by_cases h1 : s.f0 ≤ 16777216 <;> by_cases h2 : 0 ≤ s.f1 <;> by_cases h3 : s.f1 ≤ 16777216 <;> by_cases h4 : -16777216 ≤ s.f2 <;> by_cases h5 : s.f2 ≤ 16777216 <;> simp [h0, h1, h2, h3, h4, h5]
    exact hn ⟨h0, h1, h2, h3, h4, h5⟩
theorem ritself_l0 (st : List S80) (d x : List Int) (hf : st.length ≤ 1048576) : ∀ (j i : Nat) (a c : Int), i + j = st.length → 0 ≤ a → a ≤ 16777216 * i → 0 ≤ c → c ≤ 16777216 * i →
    sapperref16_Itself.l0 (j + 1) a c i st d x = some (if (st.drop i).all may = true then (if a + c + (sA (st.drop i) + sC (st.drop i)) ≤ 16777216 ∧ a + sA (st.drop i) = d.length ∧ c + sC (st.drop i) = x.length then 0 else 162) else 160)
  | 0, i, a, c, hi, h1, h2, h3, h4 => by
    obtain rfl : i = st.length := by omega
    rw [sapperref16_Itself.l0, if_neg (by omega), List.drop_length, w64 (a + c) (by omega)]
    simp only [sA, sC, List.all_nil, if_true, Int.add_zero]
    by_cases g1 : a > 16777216
    · rw [if_pos g1, if_neg (by omega)]
    · rw [if_neg g1]
      by_cases g2 : c > 16777216
      · rw [if_pos g2, if_neg (by omega)]
      · rw [if_neg g2]
        by_cases g3 : a + c > 16777216
        · rw [if_pos g3, if_neg (by omega)]
        · rw [if_neg g3]
          by_cases g4 : a = d.length
          · rw [if_pos g4]
            by_cases g5 : c = x.length
            · rw [if_pos g5, if_pos ⟨by omega, g4, g5⟩]
            · rw [if_neg g5, if_neg (fun h => g5 h.2.2)]
          · rw [if_neg g4, if_neg (fun h => g4 h.2.1)]
  | j + 1, i, a, c, hi, h1, h2, h3, h4 => by
    have hlt : i < st.length := by omega
    have hd := drop_rd st i hlt
    rw [sapperref16_Itself.l0, if_pos (by omega), if_pos (by omega), rstep_f, Option.bind_some]
    have eA : sA (st.drop i) = (rd_T80 st i).f0 + sA (st.drop (i + 1)) := by rw [hd]; rfl
    have eC : sC (st.drop i) = (rd_T80 st i).f1 + sC (st.drop (i + 1)) := by rw [hd]; rfl
    have eL : (st.drop i).all may = (may (rd_T80 st i) && (st.drop (i + 1)).all may) := by rw [hd]; rfl
    by_cases hm : may (rd_T80 st i) = true
    · have hmm := (may_iff _).1 hm
      rw [if_pos hm, w64 (a + _) (by omega), w64 (c + _) (by omega), w64 ((i : Int) + 1) (by omega), show ((i : Int) + 1) = ((i + 1 : Nat) : Int) by omega, ritself_l0 st d x hf j (i + 1) _ _ (by omega) (by omega) (by omega) (by omega) (by omega), eL, hm, Bool.true_and]
      have e1 : a + (rd_T80 st i).f0 + (c + (rd_T80 st i).f1) + (sA (st.drop (i + 1)) + sC (st.drop (i + 1))) = a + c + (sA (st.drop i) + sC (st.drop i)) := by omega
      have e2 : a + (rd_T80 st i).f0 + sA (st.drop (i + 1)) = a + sA (st.drop i) := by omega
      have e3 : c + (rd_T80 st i).f1 + sC (st.drop (i + 1)) = c + sC (st.drop i) := by omega
      rw [e1, e2, e3]
    · rw [if_neg hm, eL, if_neg]
      intro h
      rw [Bool.and_eq_true] at h
      exact hm h.1
theorem ritself_f (st : List S80) (d x : List Int) (hf : st.length ≤ 1048576) : ∃ k, sapperref16_Itself.f k st d x = some (ited st d x).2 := by
  refine ⟨st.length + 1, ?_⟩
  have := ritself_l0 st d x hf st.length 0 0 0 (by omega) (by omega) (by omega) (by omega) (by omega)
  simp only [List.drop_zero, Int.zero_add] at this
  unfold sapperref16_Itself.f ited
  rw [show ((0 : Nat) : Int) = 0 from rfl] at this
  rw [this]
  by_cases h : st.all may = true
  · rw [if_pos h, if_pos h]
    by_cases h2 : sA st + sC st ≤ 16777216 ∧ sA st = d.length ∧ sC st = x.length
    · rw [if_pos h2, if_pos h2]
    · rw [if_neg h2, if_neg h2]
  · rw [if_neg h, if_neg h]
def outB (n : Int) (o : S94) : Bool := o.f0 && (decide (o.f1 < 0) || decide (n ≤ o.f1))
theorem outside_l0 (L : List S94) (n : Int) (hf : fits L) : ∀ (j i : Nat), i + j = L.length → sapperref16_outside.l0 (j + 1) L n i = some ((L.drop i).any (outB n))
  | 0, i, hi => by
    obtain rfl : i = L.length := by omega
    rw [sapperref16_outside.l0, if_neg (by omega), List.drop_length]
    rfl
  | j + 1, i, hi => by
    have hlt : i < L.length := by omega
    have hf' := hf
    unfold fits at hf
    have hd : L.drop i = rd_T94 L i :: L.drop (i + 1) := by
      rw [List.drop_eq_getElem_cons hlt]
      congr 1
      simp [rd_T94, List.getD_eq_getElem?_getD, List.getElem?_eq_getElem hlt]
    rw [sapperref16_outside.l0, if_pos (by omega), if_pos (by omega), hd, List.any_cons, w64 ((i : Int) + 1) (by omega), show ((i : Int) + 1) = ((i + 1 : Nat) : Int) by omega, outside_l0 L n hf' j (i + 1) (by omega)]
    unfold outB
    cases h0 : (rd_T94 L i).f0 with
    | false => simp
    | true =>
      by_cases h1 : (rd_T94 L i).f1 < 0
      · simp [h1]
      · by_cases h2 : (rd_T94 L i).f1 ≥ n
        · simp [h1, h2]
        · have h2' : ¬ n ≤ (rd_T94 L i).f1 := h2
          simp [h1, h2']
theorem outside_f (L : List S94) (n : Int) (hf : fits L) : ∃ k, sapperref16_outside.f k L n = some (L.any (outB n)) :=
  ⟨L.length + 1, by have := outside_l0 L n hf L.length 0 (by omega); simpa [sapperref16_outside.f] using this⟩
end Go.Proofs.Ytemlbjpefomboaa
