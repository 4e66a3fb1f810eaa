/- the reference's Same, Lend, Kept. -/
import Derived.Test.YtinlfoblpgpikaaN4
namespace Go.Proofs.Ytinlfoblpgpikaa
open Go.RowKit Go.Proofs.YtinlfoblpgpikaaW.PrintWords Go.Proofs.YtinlfoblpgpikaaW.PrintLast Go.Proofs.YtinlfoblpgpikaaW.PrintMore
set_option linter.unusedVariables false
set_option linter.unusedSimpArgs false

/-- A slice of bytes that is read. -/
structure Bs (w : World) (A : Option Addr) (n c : Nat) (xs : List Int) : Prop where
  C : (Kd.int .u8).C w A n xs
  hc : n ≤ c
  hr : ∀ x ∈ xs, 0 ≤ x ∧ x ≤ 255
theorem Bs.below {w w' : World} {A : Option Addr} {n c : Nat} {xs : List Int} (h : Bs w A n c xs) (hb : Below w.heap.size w w') : Bs w' A n c xs := ⟨Kd.C_below h.C hb, h.hc, h.hr⟩
theorem Bs.len {w : World} {A : Option Addr} {n c : Nat} {xs : List Int} (h : Bs w A n c xs) : xs.length = n := h.C.1
theorem OB.bs {w : World} {base : Nat} {v : Value} {xs : List Int} (h : OB w base v xs) (hr : ∀ x ∈ xs, 0 ≤ x ∧ x ≤ 255) : ∃ A c, v = .slice A xs.length c ∧ Bs w A xs.length c xs := by
  obtain ⟨A, c, e, h1, h2⟩ := own_C h
  exact ⟨A, c, e, h2, h1, hr⟩
end Go.Proofs.Ytinlfoblpgpikaa
