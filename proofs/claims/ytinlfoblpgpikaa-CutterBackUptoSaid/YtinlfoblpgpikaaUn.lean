/- cutter: Uncontrol, by contract. -/
import Derived.Test.YtinlfoblpgpikaaZ3
import Derived.Test.YtinlfoblpgpikaaZ1
namespace Go.Proofs.Ytinlfoblpgpikaa
open Go.RowKit Go.Shelf Go.Proofs.YtinlfoblpgpikaaW.PrintWords Go.Proofs.YtinlfoblpgpikaaW.PrintLast Go.Proofs.YtinlfoblpgpikaaW.PrintMore Go.Proofs.Ytinlfoblpgpikaa.Pr
set_option linter.unusedVariables false
set_option linter.unusedSimpArgs false
attribute [-go_sem] Builtin.append_
theorem Bs.fin {w : World} {A : Option Addr} {n c m : Nat} {b : List Int} (h : Bs w A n c b) (hm : m ≤ n) (h0 : n - m = 0) (A' : Option Addr) : Bs w A' (n - m) 0 (b.drop m) := by
  have e : b.drop m = [] := List.drop_eq_nil_of_le (by have := h.len; omega)
  rw [e, h0]
  exact ⟨⟨rfl, by simp, fun h => by simp at h⟩, Nat.le_refl _, fun x hx => by cases hx⟩
end Go.Proofs.Ytinlfoblpgpikaa
