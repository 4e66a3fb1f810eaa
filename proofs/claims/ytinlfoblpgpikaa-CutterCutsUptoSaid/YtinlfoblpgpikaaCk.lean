/- cutter: edit.Check, told plainly. (Turned from edit/Tl.) -/
import Derived.Test.YtinlfoblpgpikaaBs
import Derived.Test.YtinlfoblpgpikaaE6
namespace Go.Proofs.Ytinlfoblpgpikaa
open Go.RowKit Go.Shelf Go.Proofs.YtinlfoblpgpikaaW.PrintWords Go.Proofs.YtinlfoblpgpikaaW.PrintLast Go.Proofs.YtinlfoblpgpikaaW.PrintMore Go.Proofs.Ytinlfoblpgpikaa.Pr
set_option linter.unusedVariables false
set_option linter.unusedSimpArgs false
theorem itself_mono (st : List S82) (d x : List Int) {k k' : Nat} (h : k ≤ k') {r : Int × Int} (hk : edit_itself.f k st d x = some r) : edit_itself.f k' st d x = some r := at_rounds (g := fun k => edit_itself.f k st d x) (fun k => edit_itself.mono st d x k) h hk
def checked (st : List S82) (d x : List Int) (old size : Int) : Int :=
  if ¬ (0 ≤ old ∧ old ≤ 16777216 ∧ 0 ≤ size ∧ size ≤ 16777216) then 1 else if (ited st d x).2 ≠ 0 then (ited st d x).2 else if (ited st d x).1 ≠ size then 162 else if rds old st 0 = true then 0 else 161
theorem within_f (a lo hi : Int) : edit_within.f a lo hi = some (decide (lo ≤ a ∧ a ≤ hi)) := by
  unfold edit_within.f
  by_cases h : lo ≤ a <;> simp [h]
theorem check_f (st : List S82) (d x : List Int) (old size : Int) (hf : fits st) : ∃ k, edit_Check.f k st d x old size = some (checked st d x old size) := by
  obtain ⟨k0, hk0⟩ := itself_f st d x hf
  obtain ⟨k1, hk1⟩ := reads_f st old hf
  refine ⟨k0 + k1 + 1, ?_⟩
  have h0 := itself_mono st d x (show k0 ≤ k0 + k1 by omega) hk0
  have h1 : edit_reads.f (k0 + k1) st old = some (rds old st 0) := at_rounds (g := fun k => edit_reads.f k st old) (fun k => edit_reads.mono st old k) (by omega) hk1
  unfold edit_Check.f checked
  rw [within_f, Option.bind_some, within_f]
  by_cases ho : 0 ≤ old ∧ old ≤ 16777216
  · rw [decide_eq_true ho, if_pos rfl, Option.bind_some]
    by_cases hs : 0 ≤ size ∧ size ≤ 16777216
    · rw [decide_eq_true hs, if_neg (by omega), edit_Check.j0, Bool.not_true, if_neg (by decide), h0, Option.bind_some, h1]
      by_cases h2 : (ited st d x).2 = 0
      · by_cases h3 : (ited st d x).1 = size
        · cases hr : rds old st 0 <;> simp [h2, h3, hr]
        · simp [h2, h3]
      · simp [h2]
    · rw [decide_eq_false hs, if_pos (by omega), edit_Check.j0]
      rfl
  · rw [decide_eq_false ho, if_neg (by decide), if_pos (by omega), edit_Check.j0]
    rfl
end Go.Proofs.Ytinlfoblpgpikaa
