/- edit: what Compose and Apply answer, in plain Lean. -/
import Derived.Test.YtemlbjpefomboaaNq
import Derived.Test.YtemlbjpefomboaaCc
namespace Go.Proofs.Ytemlbjpefomboaa
open Go.RowKit Go.Shelf Go.Proofs.YtemlbjpefomboaaW.PrintWords Go.Proofs.YtemlbjpefomboaaW.PrintLast Go.Proofs.YtemlbjpefomboaaW.PrintMore Go.Proofs.Ytemlbjpefomboaa.Pr
set_option linter.unusedVariables false
set_option linter.unusedSimpArgs false
theorem normOf_st {L : List S94} (hl : L.length ≤ 16777216) : (normOf L).1.length ≤ 16777217 := by
  unfold normOf
  cases h : tks L ts0 with
  | none => simp [nrm]
  | some t =>
    have hv := vt_tks L L.length t (Nat.le_refl _) (by rw [List.take_length]; exact h)
    have h1 := hv.n
    have h2 : t.cu.toList.length ≤ 1 := by cases t.cu <;> simp
    simp only [nrm, TS.st, List.length_append]
    omega
theorem og_ited {st : List S80} {d x : List Int} (h : (ited st d x).2 = 0) : ((og st d x 0).length : Int) = (ited st d x).1 := by
  have ha := ited_all h
  rw [og_len st d x 0 ha.1 ha.2.2.1 ha.2.2.2.1, ← ha.2.2.2.2]
/-- Of two edits that are made one without an error. -/
theorem composeE_ok {st : List S80} {d x : List Int} {sb : List S80} {db xb : List Int} {S : List S80} {D X : List Int} (hfb : sb.length ≤ 34359738368) (h : composeE st d x sb db xb = (S, D, X, 0)) :
    (ited st d x).2 = 0 ∧ (ited sb db xb).2 = 0 ∧ rds (ited st d x).1 sb 0 = true ∧ Inn (og st d x 0).length (og sb db xb 0) ∧ og S D X 0 = (og sb db xb 0).map (cmp1 (og st d x 0)) ∧ (ited S D X).2 = 0 ∧ S.length ≤ 16777217 := by
  unfold composeE at h
  by_cases h1 : (ited st d x).2 = 0
  rotate_left
  · rw [if_pos h1] at h
    exact absurd (congrArg (fun z => z.2.2.2) h) h1
  rw [if_neg (fun h' => h' h1)] at h
  by_cases h2 : (ited sb db xb).2 = 0
  rotate_left
  · rw [if_pos h2] at h
    exact absurd (congrArg (fun z => z.2.2.2) h) h2
  rw [if_neg (fun h' => h' h2)] at h
  cases h3 : rds (ited st d x).1 sb 0 with
  | false =>
    rw [if_pos h3] at h
    exact absurd (congrArg (fun z => z.2.2.2) h) (by simp)
  | true =>
    rw [if_neg (by rw [h3]; decide)] at h
    have hin : Inn (og st d x 0).length (og sb db xb 0) := by
      rw [og_ited h1]
      exact inn_of2 (ited_all h2).1 hfb h3
    have hl : ((og sb db xb 0).map (cmp1 (og st d x 0))).length ≤ 16777216 := by rw [List.length_map]; exact og_fit h2
    have hn := normOf_og (cmp_can (og_can st d x 0) (og_can sb db xb 0) hin) hl h
    have hs := normOf_st hl
    rw [h] at hs
    exact ⟨h1, h2, rfl, hin, hn.1, by rw [hn.2], hs⟩
theorem composeE_bad {st : List S80} {d x : List Int} {sb : List S80} {db xb : List Int} (h : (composeE st d x sb db xb).2.2.2 ≠ 0) : (composeE st d x sb db xb).1 = [] := by
  unfold composeE at h ⊢
  split
  · rfl
  split
  · rfl
  split
  · rfl
  rename_i h1 h2 h3
  rw [if_neg h1, if_neg h2, if_neg h3] at h
  rw [normOf_bad h]
theorem appliedE_ok {old : List Int} {st : List S80} {d x : List Int} (h : appliedE old st d x = 0) : old.length ≤ 16777216 ∧ (ited st d x).2 = 0 ∧ rds old.length st 0 = true := by
  unfold appliedE at h
  by_cases h1 : 16777216 < (old.length : Int)
  · rw [if_pos h1] at h; cases h
  rw [if_neg h1] at h
  by_cases h2 : (ited st d x).2 = 0
  rotate_left
  · rw [if_pos h2] at h; exact absurd h h2
  rw [if_neg (fun h' => h' h2)] at h
  cases hr : rds old.length st 0 with
  | false => rw [hr] at h; cases h
  | true => exact ⟨by omega, h2, rfl⟩
theorem appliedE_mk {old : List Int} {st : List S80} {d x : List Int} (h1 : old.length ≤ 16777216) (h2 : (ited st d x).2 = 0) (h3 : rds old.length st 0 = true) : appliedE old st d x = 0 := by
  unfold appliedE
  rw [if_neg (by omega), if_neg (fun h' => h' h2), if_neg (by rw [h3]; decide)]
theorem applied_ok {old : List Int} {st : List S80} {d x : List Int} (h : appliedE old st d x = 0) : applied old st d x = (og st d x 0).map (ob old) := by
  unfold applied
  rw [if_pos h]
end Go.Proofs.Ytemlbjpefomboaa
