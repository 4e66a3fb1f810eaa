/- crc: slices of bytes as lists of numbers (as in num's Rd). -/
import Derived.Test.YtelmkcbakeccoaaM
namespace Go.Proofs.Ytelmkcbakeccoaa
open Go.RowKit Go.Proofs.YtelmkcbakeccoaaW.PrintWords Go.Proofs.YtelmkcbakeccoaaW.PrintLast Go.Proofs.YtelmkcbakeccoaaW.PrintMore
set_option linter.unusedVariables false
set_option linter.unusedSimpArgs false
theorem C_pre {α : Type} {d : Kd α} {w : World} {A : Option Addr} {n : Nat} {xs : List α} (h : d.C w A n xs) (m : Nat) (hm : m ≤ n) : d.C w A m (xs.take m) := by
  obtain rfl := h.1
  have := Kd.C_take h hm
  rwa [List.length_take, Nat.min_eq_left hm] at this
def gb (xs : List Int) (k : Nat) : Int := xs.getD k 0
theorem rd_gb (xs : List Int) (k : Nat) : rd xs (k : Int) = gb xs k := by unfold rd gb; simp
theorem at_byte {ik : IntKind} {w : World} {A : Option Addr} {n : Nat} {xs : List Int} (h : (Kd.int ik).C w A n xs) (k : Nat) (hk : k < n) : ∃ ad, A = some ad ∧ w.cell? (ad.add k) = some (.int ik (gb xs k)) := by
  obtain ⟨ad, e, hc⟩ := Kd.at_int h (k : Int) (by omega) (by omega)
  rw [Int.toNat_natCast, rd_gb] at hc
  exact ⟨ad, e, hc⟩
theorem gb_range {xs : List Int} (h : ∀ x ∈ xs, 0 ≤ x ∧ x ≤ 255) (k : Nat) : 0 ≤ gb xs k ∧ gb xs k ≤ 255 := by
  unfold gb
  by_cases hk : k < xs.length
  · simpa [hk] using h xs[k] (List.getElem_mem hk)
  · simp [List.getElem?_eq_none (by omega : xs.length ≤ k)]
end Go.Proofs.Ytelmkcbakeccoaa
