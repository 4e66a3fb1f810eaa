/- the reference's Own: lists of bytes that have memory of their own. -/
import Derived.Test.YtinlfoblpgpikaaN5
namespace Go.Proofs.Ytinlfoblpgpikaa
open Go.RowKit Go.Proofs.YtinlfoblpgpikaaW.PrintWords Go.Proofs.YtinlfoblpgpikaaW.PrintLast Go.Proofs.YtinlfoblpgpikaaW.PrintMore
set_option linter.unusedVariables false
set_option linter.unusedSimpArgs false

def mk (i n : Nat) : List Int := (List.range n).map fun k : Nat => ((i : Int) + 7 * (k : Int)) % 256
/-- The rows of a family. -/
def Fam (w : World) (base n : Nat) (vs : Nat → Value) (xs : Nat → List Int) : Prop := ∀ j, j < n → OB w base (vs j) (xs j)
theorem Fam.upd {S : Nat → Prop} {w w' : World} {base n : Nat} {vs : Nat → Value} {xs : Nat → List Int} (h : Fam w base n vs xs) (hu : Upd S w w') (hs : ∀ k, S k → ∀ j, j < n → (vs j).ownBlock ≠ some k) : Fam w' base n vs xs :=
  fun j hj => own_upd (h j hj) hu (fun k hk hS => hs k hS j hj hk)
/-- One of them has turned. -/
theorem Fam.one {w w' : World} {base n i : Nat} {vs : Nat → Value} {xs ys : Nat → List Int} (h : Fam w base n vs xs) (hu : Upd (fun k => (vs i).ownBlock = some k) w w')
    (hne : ∀ j, j < n → j ≠ i → ∀ k, (vs j).ownBlock = some k → (vs i).ownBlock ≠ some k) (hi : OB w' base (vs i) (ys i)) (hy : ∀ j, j < n → j ≠ i → ys j = xs j) : Fam w' base n vs ys := by
  intro j hj
  by_cases e : j = i
  · subst e
    exact hi
  · rw [hy j hj e]
    exact own_upd (h j hj) hu (fun k hk hS => hne j hj e k hk hS)

def up (gl : Nat → Value) (i : Nat) (u : Value) : Nat → Value := fun j => if j = i then u else gl j
theorem up_set (gl : Nat → Value) (n i : Nat) (u : Value) (h : i < n) : ((List.range n).map gl).set i u = (List.range n).map (up gl i u) := by
  apply List.ext_getElem?
  intro j
  rw [List.getElem?_set]
  by_cases e : i = j
  · subst e
    simp [h, up]
  · rw [if_neg e]
    simp only [List.getElem?_map]
    rcases Nat.lt_or_ge j n with hj | hj
    · rw [List.getElem?_range hj]
      simp [up, Ne.symm e]
    · rw [List.getElem?_eq_none (by simpa using hj)]
      rfl
/-- The row of rows. -/
abbrev GR (w : World) (G n : Nat) (gl : Nat → Value) : Prop := w.ownsRow G 24 1 (.slice (some ⟨G, 0, none⟩) n n) n ((List.range n).map gl)
theorem GR.cell {w : World} {G n : Nat} {gl : Nat → Value} (h : GR w G n gl) (i : Nat) (hi : i < n) : w.cell? ⟨G, i, none⟩ = some (gl i) := by
  rw [World.ownsRow.cellAt h i (by omega)]
  simp [hi]
theorem GR.store {w : World} {G n : Nat} {gl : Nat → Value} (h : GR w G n gl) (i : Nat) (hi : i < n) (u : Value) : GR (w.setCell ⟨G, i, none⟩ u) G n (up gl i u) := by
  have := (World.ownsRow.stored h i u).1
  rwa [up_set gl n i u hi] at this

/-- No block of both. -/
def Dj (u v : Value) : Prop := ∀ k, u.ownBlock = some k → v.ownBlock ≠ some k
theorem Dj.symm {u v : Value} (h : Dj u v) : Dj v u := fun k hk hk' => h k hk' hk
theorem Dj.of {w w' : World} {b b' : Nat} {e e' : TypeId} {s s' n n' : Nat} {u v : Value} {xs ys : List Value} (h : w.ownsRow b e s u n xs) (h' : w'.ownsRow b' e' s' v n' ys) (hb : w.heap.size ≤ b') : Dj u v := fun k hk hk' => by
  have := own_lt h k hk
  have := own_base h' k hk'
  omega

end Go.Proofs.Ytinlfoblpgpikaa
