/- cutter: bytes as steps, plainly. -/
import Derived.Test.YtinlfoblpgpikaaN8
import Derived.Test.YtinlfoblpgpikaaPc
namespace Go.Proofs.Ytinlfoblpgpikaa
open Go.RowKit Go.Shelf Go.Proofs.YtinlfoblpgpikaaW.PrintWords Go.Proofs.YtinlfoblpgpikaaW.PrintLast Go.Proofs.YtinlfoblpgpikaaW.PrintMore Go.Proofs.Ytinlfoblpgpikaa.Pr
set_option linter.unusedVariables false
set_option linter.unusedSimpArgs false
def lim (k : Nat) : Int := if k = 0 then 33554432 else 65536
/-- k numbers more: the error, the numbers, the bytes behind. -/
def un3 : Nat → List Int → List Int → Int × List Int × List Int
  | 0, b, vs => (0, vs, b)
  | k + 1, b, vs => if (rdN b).2.2 ≠ 0 then ((rdN b).2.2, [], []) else if lim k < (rdN b).1 then (171, [], []) else un3 k (b.drop (rdN b).2.1.toNat) (vs ++ [(rdN b).1])
def mkS (vs : List Int) : S82 := ⟨gb vs 0, gb vs 1, zag (gb vs 2)⟩
def unc : Nat → List Int → List S82 → List S82 × Int
  | 0, _, l => (l, 0)
  | k + 1, b, l => if b.length = 0 then (l, 0) else if (un3 3 b []).1 ≠ 0 then ([], (un3 3 b []).1) else unc k (un3 3 b []).2.2 (l ++ [mkS (un3 3 b []).2.1])
/-- The steps of these bytes, and the error. -/
def uncR (b : List Int) : List S82 × Int := unc (b.length + 1) b []
theorem unc_nil (k : Nat) (l : List S82) : unc k [] l = (l, 0) := by cases k <;> rfl
theorem un3_err {k : Nat} {b vs : List Int} (h : (rdN b).2.2 ≠ 0) : un3 (k + 1) b vs = ((rdN b).2.2, [], []) := if_pos h
theorem un3_big {k : Nat} {b vs : List Int} (h : (rdN b).2.2 = 0) (hl : lim k < (rdN b).1) : un3 (k + 1) b vs = (171, [], []) := by
  rw [un3, if_neg (by simp [h]), if_pos hl]
theorem un3_go {k : Nat} {b vs : List Int} (h : (rdN b).2.2 = 0) (hl : ¬ lim k < (rdN b).1) : un3 (k + 1) b vs = un3 k (b.drop (rdN b).2.1.toNat) (vs ++ [(rdN b).1]) := by
  rw [un3, if_neg (by simp [h]), if_neg hl]
theorem unc_err {k : Nat} {b : List Int} {l : List S82} (hb : 0 < b.length) (h : (un3 3 b []).1 ≠ 0) : unc (k + 1) b l = ([], (un3 3 b []).1) := by
  rw [unc, if_neg (by omega), if_pos h]
theorem unc_go {k : Nat} {b : List Int} {l : List S82} (hb : 0 < b.length) (h : (un3 3 b []).1 = 0) : unc (k + 1) b l = unc k (un3 3 b []).2.2 (l ++ [mkS (un3 3 b []).2.1]) := by
  rw [unc, if_neg (by omega), if_neg (by simp [h])]
theorem rd_err {b : List Int} (hr : ∀ x ∈ b, 0 ≤ x ∧ x ≤ 255) (h : (rdN b).2.2 = 0) : ∃ j : Nat, (rdN b).2.1 = (j : Int) + 1 ∧ j < b.length ∧ 0 ≤ (rdN b).1 ∧ (rdN b).1 ≤ 18446744073709551615 ∧ bytesN (rdN b).1 = b.take (j + 1) := by
  rcases rdN_ok hr (show rdN b = ((rdN b).1, (rdN b).2.1, (rdN b).2.2) from rfl) with ⟨h1, _⟩ | ⟨_, j, h1, h2, _, h3, h4, h5⟩
  · exact absurd h h1
  · exact ⟨j, h1, h2, h3, h4, h5⟩
theorem unc_len : ∀ (k : Nat) (b : List Int) (l : List S82), (unc k b l).1.length ≤ l.length + k
  | 0, b, l => by simp [unc]
  | k + 1, b, l => by
    unfold unc
    split
    · simp only; omega
    · split
      · simp
      · have := unc_len k (un3 3 b []).2.2 (l ++ [mkS (un3 3 b []).2.1])
        simp only [List.length_append, List.length_cons, List.length_nil] at this
        omega
theorem uncR_len (b : List Int) : (uncR b).1.length ≤ b.length + 1 := by
  have := unc_len (b.length + 1) b []
  rw [List.length_nil, Nat.zero_add] at this
  exact this
theorem own_slice' {w : World} {base : Nat} {e : TypeId} {size n m : Nat} {v : Value} {xs : List Value} (h : w.ownsRow base e size v n xs) (hn : n = m) : ∃ A c, v = .slice A m c := hn ▸ own_slice h
theorem own_cap' {w : World} {base : Nat} {e : TypeId} {size n m c : Nat} {A : Option Addr} {xs : List Value} (h : w.ownsRow base e size (.slice A m c) n xs) : m ≤ c := by
  rcases h.2 with ⟨e1, _⟩ | ⟨g, cap, cur, e1, _, _, h1, _⟩
  · cases e1; exact Nat.le_refl _
  · cases e1; exact h1
end Go.Proofs.Ytinlfoblpgpikaa
