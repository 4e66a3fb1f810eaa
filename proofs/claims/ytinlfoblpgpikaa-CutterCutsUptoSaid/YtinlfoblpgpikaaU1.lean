/- cutter: bytes as steps, plainly. -/
import Derived.Test.YtinlfoblpgpikaaN4
import Derived.Test.YtinlfoblpgpikaaN5
import Derived.Test.YtinlfoblpgpikaaPc
namespace Go.Proofs.Ytinlfoblpgpikaa
open Go.RowKit Go.Shelf Go.Proofs.YtinlfoblpgpikaaW.PrintWords Go.Proofs.YtinlfoblpgpikaaW.PrintLast Go.Proofs.YtinlfoblpgpikaaW.PrintMore Go.Proofs.Ytinlfoblpgpikaa.Pr
set_option linter.unusedVariables false
set_option linter.unusedSimpArgs false
theorem own_slice' {w : World} {base : Nat} {e : TypeId} {size n m : Nat} {v : Value} {xs : List Value} (h : w.ownsRow base e size v n xs) (hn : n = m) : ∃ A c, v = .slice A m c := hn ▸ own_slice h
theorem own_cap' {w : World} {base : Nat} {e : TypeId} {size n m c : Nat} {A : Option Addr} {xs : List Value} (h : w.ownsRow base e size (.slice A m c) n xs) : m ≤ c := by
  rcases h.2 with ⟨e1, _⟩ | ⟨g, cap, cur, e1, _, _, h1, _⟩
  · cases e1; exact Nat.le_refl _
  · cases e1; exact h1
end Go.Proofs.Ytinlfoblpgpikaa
