/- edit: what an edit means, in plain Lean: may a step be, what an edit is by itself, how far it reads, the origins of its bytes. -/
import Derived.Test.YtemlbjpefomboaaE1
namespace Go.Proofs.Ytemlbjpefomboaa.Pr
open Go.RowKit
set_option linter.unusedVariables false
set_option linter.unusedSimpArgs false
theorem w64 (n : Int) (h : -9223372036854775808 ≤ n ∧ n ≤ 9223372036854775807) : wrap64 n = n := by unfold wrap64; omega
theorem w64_add (a b : Int) : wrap64 (wrap64 a + b) = wrap64 (a + b) := by unfold wrap64; omega
theorem w64_add' (a b : Int) : wrap64 (a + wrap64 b) = wrap64 (a + b) := by unfold wrap64; omega
/-- A cap on the lengths that a row of cells may have. -/
def fits {α : Type} (l : List α) : Prop := l.length ≤ 9223372036854775807
def may (s : S80) : Bool := decide (0 ≤ s.f0 ∧ s.f0 ≤ 16777216 ∧ 0 ≤ s.f1 ∧ s.f1 ≤ 16777216 ∧ -16777216 ≤ s.f2 ∧ s.f2 ≤ 16777216)
theorem may_iff (s : S80) : may s = true ↔ 0 ≤ s.f0 ∧ s.f0 ≤ 16777216 ∧ 0 ≤ s.f1 ∧ s.f1 ≤ 16777216 ∧ -16777216 ≤ s.f2 ∧ s.f2 ≤ 16777216 := decide_eq_true_iff
theorem stepMay_f (s : S80) : edit_stepMay.f s.f0 s.f1 s.f2 = some (may s) := by
  unfold edit_stepMay.f edit_within.f
  have hm := may_iff s
  cases h : may s with
  | true =>
    have := hm.1 h
    simp [this]
  | false =>
    have hn : ¬ (0 ≤ s.f0 ∧ s.f0 ≤ 16777216 ∧ 0 ≤ s.f1 ∧ s.f1 ≤ 16777216 ∧ -16777216 ≤ s.f2 ∧ s.f2 ≤ 16777216) := fun h' => by rw [hm.2 h'] at h; cases h
    by_cases h0 : 0 ≤ s.f0 <;> by_cases h1 : s.f0 ≤ 16777216 <;> by_cases h2 : 0 ≤ s.f1 <;> by_cases h3 : s.f1 ≤ 16777216 <;> by_cases h4 : -16777216 ≤ s.f2 <;> by_cases h5 : s.f2 ≤ 16777216 <;> simp [h0, h1, h2, h3, h4, h5]
    exact hn ⟨h0, h1, h2, h3, h4, h5⟩
def sA : List S80 → Int
  | [] => 0
  | s :: l => s.f0 + sA l
def sC : List S80 → Int
  | [] => 0
  | s :: l => s.f1 + sC l
theorem sA_nn : ∀ (l : List S80), l.all may = true → 0 ≤ sA l
  | [], _ => by simp [sA]
  | s :: l, h => by
    simp only [List.all_cons, Bool.and_eq_true] at h
    have := sA_nn l h.2
    have := (may_iff s).1 h.1
    simp only [sA]
    omega
theorem sC_nn : ∀ (l : List S80), l.all may = true → 0 ≤ sC l
  | [], _ => by simp [sC]
  | s :: l, h => by
    simp only [List.all_cons, Bool.and_eq_true] at h
    have := sC_nn l h.2
    have := (may_iff s).1 h.1
    simp only [sC]
    omega
def ited (st : List S80) (d x : List Int) : Int × Int :=
  if st.all may = true then (if sA st + sC st ≤ 16777216 ∧ sA st = d.length ∧ sC st = x.length then (sA st + sC st, 0) else (0, 162)) else (0, 160)
theorem drop_rd (st : List S80) (i : Nat) (h : i < st.length) : st.drop i = rd_T80 st i :: st.drop (i + 1) := by
  rw [List.drop_eq_getElem_cons h]
  congr 1
  simp [rd_T80, List.getD_eq_getElem?_getD, List.getElem?_eq_getElem h]
theorem all_drop {st : List S80} (h : st.all may = true) (i : Nat) : (st.drop i).all may = true := by
  rw [List.all_eq_true] at h ⊢
  exact fun x hx => h x (List.mem_of_mem_drop hx)
theorem it_l1 (st : List S80) (d x : List Int) (hst : st.all may = true) (hf : fits st) : ∀ (j i : Nat) (a c : Int), i + j = st.length → 0 ≤ a → 0 ≤ c → a + c ≤ 16777216 →
    edit_itself.l1 (j + 1) a c st (st.length : Int) i st d x =
      some (if a + c + (sA (st.drop i) + sC (st.drop i)) ≤ 16777216 ∧ a + sA (st.drop i) = d.length ∧ c + sC (st.drop i) = x.length then (a + sA (st.drop i) + (c + sC (st.drop i)), 0) else (0, 162))
  | 0, i, a, c, hi, ha, hc, hac => by
    obtain rfl : i = st.length := by omega
    simp only [edit_itself.l1, List.drop_length, sA, sC]
    rw [if_neg (by omega)]
    rw [w64 _ (by omega)]
    by_cases h1 : a = d.length <;> by_cases h2 : c = x.length <;> simp [h1, h2] <;> omega
  | j + 1, i, a, c, hi, ha, hc, hac => by
    have hlt : i < st.length := by omega
    have hd := drop_rd st i hlt
    have hall := all_drop hst i
    rw [hd, List.all_cons, Bool.and_eq_true] at hall
    have hm := (may_iff _).1 hall.1
    have hA := sA_nn _ hall.2
    have hC := sC_nn _ hall.2
    unfold fits at hf
    rw [edit_itself.l1, if_pos (by omega), if_pos (by omega), if_pos (by omega)]
    rw [w64 (a + _) (by omega), w64 (c + _) (by omega), w64 (_ + _) (by omega), w64 ((i : Int) + 1) (by omega)]
    have eA : sA (st.drop i) = (rd_T80 st i).f0 + sA (st.drop (i + 1)) := by rw [hd]; rfl
    have eC : sC (st.drop i) = (rd_T80 st i).f1 + sC (st.drop (i + 1)) := by rw [hd]; rfl
    by_cases ht : a + (rd_T80 st i).f0 + (c + (rd_T80 st i).f1) > 16777216
    · rw [if_pos ht, if_neg (by omega)]
    · rw [if_neg ht, show ((i : Int) + 1) = ((i + 1 : Nat) : Int) by omega, it_l1 st d x hst hf j (i + 1) _ _ (by omega) (by omega) (by omega) (by omega)]
      congr 1
      have e1 : a + (rd_T80 st i).f0 + sA (st.drop (i + 1)) = a + sA (st.drop i) := by omega
      have e2 : c + (rd_T80 st i).f1 + sC (st.drop (i + 1)) = c + sC (st.drop i) := by omega
      rw [e1, e2]
      by_cases h : a + c + (sA (st.drop i) + sC (st.drop i)) ≤ 16777216 ∧ a + sA (st.drop i) = d.length ∧ c + sC (st.drop i) = x.length
      · rw [if_pos h, if_pos ⟨by omega, h.2⟩]
      · rw [if_neg h, if_neg (fun h' => h ⟨by omega, h'.2⟩)]
theorem it_l0 (st : List S80) (d x : List Int) (hf : fits st) : ∀ (j i : Nat), i + j = st.length → (st.take i).all may = true →
    edit_itself.l0 (st.length + 2 + j) 0 0 st (st.length : Int) i st d x = some (ited st d x)
  | 0, i, hi, ht => by
    obtain rfl : i = st.length := by omega
    rw [List.take_length] at ht
    rw [edit_itself.l0, if_neg (by omega)]
    have := it_l1 st d x ht hf st.length 0 0 0 (by omega) (by omega) (by omega) (by omega)
    rw [show ((0 : Nat) : Int) = 0 from rfl] at this
    simp only [List.drop_zero, Int.zero_add, Int.add_zero] at this
    rw [show st.length + 1 + 0 = st.length + 1 from rfl]
    rw [this]
    unfold ited
    rw [if_pos ht]
  | j + 1, i, hi, ht => by
    have hlt : i < st.length := by omega
    have hd := drop_rd st i hlt
    have hf' := hf
    unfold fits at hf
    rw [show st.length + 2 + (j + 1) = (st.length + 2 + j) + 1 by omega, edit_itself.l0, if_pos (by omega), if_pos (by omega), if_pos (by omega), stepMay_f, Option.bind_some]
    have hta : st.take (i + 1) = st.take i ++ [rd_T80 st i] := by
      rw [List.take_succ_eq_append_getElem hlt]
      congr 2
      simp [rd_T80, List.getD_eq_getElem?_getD, List.getElem?_eq_getElem hlt]
    by_cases hm : may (rd_T80 st i) = true
    · rw [if_pos hm, w64 _ (by omega), show ((i : Int) + 1) = ((i + 1 : Nat) : Int) by omega]
      exact it_l0 st d x hf' j (i + 1) (by omega) (by rw [hta, List.all_append, ht]; simp [hm])
    · rw [if_neg hm]
      unfold ited
      rw [if_neg]
      intro h
      have := all_drop h i
      rw [hd, List.all_cons, Bool.and_eq_true] at this
      exact hm this.1
theorem itself_f (st : List S80) (d x : List Int) (hf : fits st) : ∃ k, edit_itself.f k st d x = some (ited st d x) :=
  ⟨_, it_l0 st d x hf st.length 0 (by omega) (by simp)⟩
/-- Where reading goes is reckoned as the machine does. -/
def rds (old : Int) : List S80 → Int → Bool
  | [], _ => true
  | s :: l, a => if 0 < s.f0 ∧ (wrap64 a < 0 ∨ old < wrap64 (a + s.f0)) then false else rds old l (a + s.f0 + s.f2)
theorem rds_l0 (st : List S80) (old : Int) (hf : fits st) : ∀ (j i : Nat) (a : Int), i + j = st.length → edit_reads.l0 (j + 1) old (wrap64 a) st (st.length : Int) i = some (rds old (st.drop i) a)
  | 0, i, a, hi => by
    obtain rfl : i = st.length := by omega
    simp [edit_reads.l0, rds]
  | j + 1, i, a, hi => by
    have hlt : i < st.length := by omega
    rw [drop_rd st i hlt, rds]
    have hf' := hf
    unfold fits at hf
    rw [edit_reads.l0, if_pos (by omega), if_pos (by omega), if_pos (by omega)]
    have ih := rds_l0 st old hf' j (i + 1) (a + (rd_T80 st i).f0 + (rd_T80 st i).f2) (by omega)
    rw [w64_add' (wrap64 a), w64_add a, w64_add a, ← Int.add_assoc, w64 ((i : Int) + 1) (by omega), show ((i : Int) + 1) = ((i + 1 : Nat) : Int) by omega, ih]
    by_cases h0 : (rd_T80 st i).f0 > 0
    · rw [if_pos h0]
      by_cases h1 : wrap64 a < 0
      · rw [if_pos h1, if_pos ⟨h0, .inl h1⟩]
      · rw [if_neg h1]
        by_cases h2 : wrap64 (a + (rd_T80 st i).f0) > old
        · rw [if_pos h2, if_pos ⟨h0, .inr h2⟩]
        · rw [if_neg h2, if_neg (fun h => h.2.elim h1 h2)]
    · rw [if_neg h0, if_neg (fun h => h0 h.1)]
theorem reads_f (st : List S80) (old : Int) (hf : fits st) : ∃ k, edit_reads.f k st old = some (rds old st 0) :=
  ⟨st.length + 1, by
    have := rds_l0 st old hf st.length 0 0 (by omega)
    simpa [edit_reads.f, w64] using this⟩
/-! ### Origins -/
def og : List S80 → List Int → List Int → Int → List S94
  | [], _, _, _ => []
  | s :: l, d, x, a => (List.range s.f0.toNat).map (fun i => ⟨true, wrap64 (a + (i : Int)), d.getD i 0⟩) ++ ((x.take s.f1.toNat).map (fun b => ⟨false, 0, b⟩) ++ og l (d.drop s.f0.toNat) (x.drop s.f1.toNat) (a + s.f0.toNat + s.f2))
/-- What is left of a step, and behind it. -/
def ogr (n m : Nat) (sk : Int) (l : List S80) (d x : List Int) (a : Int) : List S94 :=
  (List.range n).map (fun i => ⟨true, wrap64 (a + (i : Int)), d.getD i 0⟩) ++ ((x.take m).map (fun b => ⟨false, 0, b⟩) ++ og l (d.drop n) (x.drop m) (a + n + sk))
theorem og_cons (s : S80) (l : List S80) (d x : List Int) (a : Int) : og (s :: l) d x a = ogr s.f0.toNat s.f1.toNat s.f2 l d x a := rfl
theorem ogr_add (n m : Nat) (sk : Int) (l : List S80) (b : Int) (d x : List Int) (a : Int) : ogr (n + 1) m sk l (b :: d) x a = ⟨true, wrap64 a, b⟩ :: ogr n m sk l d x (a + 1) := by
  unfold ogr
  rw [List.range_succ_eq_map, List.map_cons, List.map_map, List.cons_append]
  congr 1
  · simp
  · congr 1
    · apply List.map_congr_left
      intro i _
      simp only [Function.comp, List.getD_cons_succ]
      congr 2
      omega
    · rw [List.drop_succ_cons]
      congr 2
      omega
theorem ogr_copy (m : Nat) (sk : Int) (l : List S80) (d : List Int) (b : Int) (x : List Int) (a : Int) : ogr 0 (m + 1) sk l d (b :: x) a = ⟨false, 0, b⟩ :: ogr 0 m sk l d x a := by
  simp [ogr]
theorem ogr_end (sk : Int) (l : List S80) (d x : List Int) (a : Int) : ogr 0 0 sk l d x a = og l d x (a + sk) := by
  simp [ogr]
theorem og_len : ∀ (st : List S80) (d x : List Int) (a : Int), st.all may = true → sA st = d.length → sC st = x.length → ((og st d x a).length : Int) = sA st + sC st
  | [], d, x, a, _, _, _ => by simp [og, sA, sC]
  | s :: l, d, x, a, h, hd, hx => by
    simp only [List.all_cons, Bool.and_eq_true] at h
    have h1 := (may_iff s).1 h.1
    have h2 := sA_nn l h.2
    have h3 := sC_nn l h.2
    simp only [sA, sC] at hd hx ⊢
    have ih := og_len l (d.drop s.f0.toNat) (x.drop s.f1.toNat) (a + s.f0.toNat + s.f2) h.2 (by rw [List.length_drop]; omega) (by rw [List.length_drop]; omega)
    simp only [og, List.length_append, List.length_map, List.length_range, List.length_take]
    omega
end Go.Proofs.Ytemlbjpefomboaa.Pr
