/- num: writing numbers: lay, Encode, Size; the reference's Bytes, Encode. -/
import Derived.Test.YtinlfoblpgpikaaBs
import Derived.WalkSpells
import Derived.Test.YtinlfoblpgpikaaN1
namespace Go.Proofs.Ytinlfoblpgpikaa
open Go.RowKit Go.Proofs.YtinlfoblpgpikaaW.PrintWords Go.Proofs.YtinlfoblpgpikaaW.PrintLast Go.Proofs.YtinlfoblpgpikaaW.PrintMore
set_option linter.unusedVariables false
set_option linter.unusedSimpArgs false

/-- v is a slice of bytes of the call's own: xs. -/
abbrev OB (w : World) (base : Nat) (v : Value) (xs : List Int) : Prop := w.ownsRow base 5 1 v xs.length (nums .u8 xs)
theorem OB.snoc {w : World} {base : Nat} {v : Value} {xs ys : List Int} {n : Nat} (h : w.ownsRow base 5 1 v n (nums .u8 xs ++ nums .u8 ys)) (hn : n = xs.length + ys.length) : OB w base v (xs ++ ys) := by
  rw [OB, nums_append, List.length_append, ← hn]
  exact h

theorem own_C {w : World} {base : Nat} {e : TypeId} {k : IntKind} {v : Value} {xs : List Int} (h : w.ownsRow base e 1 v xs.length (nums k xs)) : ∃ A c, v = .slice A xs.length c ∧ xs.length ≤ c ∧ (Kd.int k).C w A xs.length xs := by
  obtain ⟨A, c, rfl, hr⟩ := own_reads h
  exact ⟨A, c, rfl, own_cap h, Kd.C_of_reads (d := (0 : Int)) (h1 := fun _ => rfl) hr⟩
/-! ### plain -/
/-- A slice of uint64 that came in. -/
structure U64s (w : World) (A : Option Addr) (n c : Nat) (l : List Int) : Prop where
  C : (Kd.int .u64).C w A n l
  hc : n ≤ c
  hr : ∀ x ∈ l, 0 ≤ x ∧ x ≤ 18446744073709551615
  hn : n * 8 ≤ 140737488351232
theorem U64s.below {w w' : World} {A : Option Addr} {n c : Nat} {l : List Int} (h : U64s w A n c l) (hb : Below w.heap.size w w') : U64s w' A n c l := ⟨Kd.C_below h.C hb, h.hc, h.hr, h.hn⟩
end Go.Proofs.Ytinlfoblpgpikaa
