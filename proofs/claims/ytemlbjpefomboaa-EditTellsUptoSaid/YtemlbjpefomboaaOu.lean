/- edit: what lies outside of an image. -/
import Derived.Test.YtemlbjpefomboaaRt2
import Derived.Test.YtemlbjpefomboaaTl
namespace Go.Proofs.Ytemlbjpefomboaa
open Go.RowKit Go.Shelf Go.Proofs.YtemlbjpefomboaaW.PrintWords Go.Proofs.YtemlbjpefomboaaW.PrintLast Go.Proofs.YtemlbjpefomboaaW.PrintMore Go.Proofs.Ytemlbjpefomboaa.Pr
set_option linter.unusedVariables false
set_option linter.unusedSimpArgs false
theorem any_run (old a : Int) (d : List Int) (n : Nat) (h : -4611686018427387904 ≤ a ∧ a + n ≤ 4611686018427387904) :
    ((List.range n).map (fun (i : Nat) => (⟨true, wrap64 (a + (i : Int)), d.getD i 0⟩ : S94))).any (outB old) = decide (0 < n ∧ (a < 0 ∨ old < a + n)) := by
  rw [Bool.eq_iff_iff, List.any_eq_true, decide_eq_true_iff]
  constructor
  · rintro ⟨o, ho, hb⟩
    obtain ⟨i, hi, rfl⟩ := List.mem_map.1 ho
    have hin := List.mem_range.1 hi
    simp only [outB, Bool.true_and, Bool.or_eq_true, decide_eq_true_iff, w64 (a + (i : Int)) (by omega)] at hb
    exact ⟨by omega, by omega⟩
  · rintro ⟨h0, h1⟩
    rcases h1 with h1 | h1
    · refine ⟨_, List.mem_map.2 ⟨0, List.mem_range.2 h0, rfl⟩, ?_⟩
      simp only [outB, Bool.true_and, Bool.or_eq_true, decide_eq_true_iff]
      rw [w64 _ (by omega)]
      left
      omega
    · refine ⟨_, List.mem_map.2 ⟨n - 1, List.mem_range.2 (by omega), rfl⟩, ?_⟩
      simp only [outB, Bool.true_and, Bool.or_eq_true, decide_eq_true_iff]
      rw [w64 _ (by omega)]
      right
      omega
theorem out_rdx (old : Int) : ∀ (st : List S80) (d x : List Int) (a B : Int), st.all may = true → -B ≤ a → a ≤ B → B + 33554432 * (st.length + 1) ≤ 4611686018427387904 → (og st d x a).any (outB old) = !(rdx old st a)
  | [], _, _, _, _, _, _, _, _ => rfl
  | s :: l, d, x, a, B, h, h1, h2, h3 => by
    simp only [List.all_cons, Bool.and_eq_true] at h
    have hm := (may_iff s).1 h.1
    simp only [List.length_cons] at h3
    rw [og, List.any_append, List.any_append, any_run old a d s.f0.toNat (by omega), out_rdx old l _ _ _ (B + 33554432) h.2 (by omega) (by omega) (by omega), rdx]
    have hc : ((x.take s.f1.toNat).map (fun (b : Int) => (⟨false, 0, b⟩ : S94))).any (outB old) = false := by
      rw [List.any_eq_false]
      intro o ho
      obtain ⟨b, _, rfl⟩ := List.mem_map.1 ho
      simp [outB]
    rw [hc, Bool.false_or]
    have e1 : (s.f0.toNat : Int) = s.f0 := by omega
    rw [e1]
    by_cases hq : 0 < s.f0 ∧ (a < 0 ∨ old < a + s.f0)
    · rw [if_pos hq, decide_eq_true (by omega)]
      rfl
    · rw [if_neg hq, decide_eq_false (by omega)]
      rfl
theorem out_rds {st : List S80} {d x : List Int} (hst : st.all may = true) (hf : st.length ≤ 1048576) (old : Int) : (og st d x 0).any (outB old) = !(rds old st 0) := by
  rw [out_rdx old st d x 0 0 hst (by omega) (by omega) (by omega), rds_rdx old st 0 0 hst (by omega) (by omega) (by omega)]
theorem inn_of {st : List S80} {d x : List Int} (hst : st.all may = true) (hf : st.length ≤ 1048576) {old : Int} (h : rds old st 0 = true) : Inn old (og st d x 0) := by
  have := out_rds (d := d) (x := x) hst hf old
  rw [h] at this
  intro o ho h0
  have hb := List.any_eq_false.1 this o ho
  simp only [outB, h0, Bool.true_and, Bool.or_eq_true, decide_eq_true_iff, not_or] at hb
  omega
end Go.Proofs.Ytemlbjpefomboaa
