/- edit: which places are read, for lists of any length that fits. -/
import Derived.Test.YtemlbjpefomboaaRc
namespace Go.Proofs.Ytemlbjpefomboaa
open Go.RowKit Go.Shelf Go.Proofs.YtemlbjpefomboaaW.PrintWords Go.Proofs.YtemlbjpefomboaaW.PrintLast Go.Proofs.YtemlbjpefomboaaW.PrintMore Go.Proofs.Ytemlbjpefomboaa.Pr
set_option linter.unusedVariables false
set_option linter.unusedSimpArgs false
theorem out_rds2 {st : List S80} {d x : List Int} (hst : st.all may = true) (hf : st.length ≤ 34359738368) (old : Int) : (og st d x 0).any (outB old) = !(rds old st 0) := by
  rw [out_rdx old st d x 0 0 hst (by omega) (by omega) (by omega), rds_rdx old st 0 0 hst (by omega) (by omega) (by omega)]
theorem inn_of2 {st : List S80} {d x : List Int} (hst : st.all may = true) (hf : st.length ≤ 34359738368) {old : Int} (h : rds old st 0 = true) : Inn old (og st d x 0) := by
  have := out_rds2 (d := d) (x := x) hst hf old
  rw [h] at this
  intro o ho h0
  have hb := List.any_eq_false.1 this o ho
  simp only [outB, h0, Bool.true_and, Bool.or_eq_true, decide_eq_true_iff, not_or] at hb
  omega
theorem rds_of_inn {st : List S80} {d x : List Int} (hst : st.all may = true) (hf : st.length ≤ 34359738368) {old : Int} (h : Inn old (og st d x 0)) : rds old st 0 = true := by
  have := out_rds2 (d := d) (x := x) hst hf old
  cases hr : rds old st 0 with
  | true => rfl
  | false =>
    rw [hr] at this
    obtain ⟨o, ho, hb⟩ := List.any_eq_true.1 this
    unfold outB at hb
    have h0 : o.f0 = true := by
      cases h0 : o.f0 with
      | true => rfl
      | false => rw [h0] at hb; simp at hb
    have := h o ho h0
    rw [h0, decide_eq_false (by omega), decide_eq_false (by omega)] at hb
    simp at hb
theorem inn_applied2 {old : List Int} {st : List S80} {d x : List Int} (hf : st.length ≤ 34359738368) (h : appliedE old st d x = 0) : Inn old.length (og st d x 0) := by
  unfold appliedE at h
  by_cases h1 : 16777216 < (old.length : Int)
  · rw [if_pos h1] at h; cases h
  · rw [if_neg h1] at h
    by_cases h2 : (ited st d x).2 ≠ 0
    · rw [if_pos h2] at h; exact absurd h h2
    · rw [if_neg h2] at h
      have h3 := Decidable.not_not.1 h2
      cases hr : rds old.length st 0 with
      | false => rw [hr] at h; cases h
      | true => exact inn_of2 (ited_all h3).1 hf hr
end Go.Proofs.Ytemlbjpefomboaa
