/- Opening a slice of structs of one-cell fields that came in: its cells, field by field. -/
import Derived.Test.YtemlbjpefomboaaBulk
import Derived.Deep.Slices
import Derived.Deep.Fields
import Derived.ChangeSame
import Derived.SizedLaws
import Derived.OpenShut
namespace Go.Proofs.Ytemlbjpefomboaa
open Go.RowKit Go.ChangeShapes Go.WideShapes
set_option linter.unusedVariables false
theorem cell_at {w : World} {base : Nat} {x : Addr} {k m j : Nat} {cs : List Value} (h : w.cells? base (x.add k) m = some cs) (hj : j < m) : ∃ v, w.cell? (x.add (k + j)) = some v ∧ (cs.drop j).take 1 = [v] := by
  obtain ⟨_, hl, hc⟩ := World.cells?_some h
  have hlt : j < cs.length := by omega
  refine ⟨cs[j], ?_, by rw [List.drop_eq_getElem_cons hlt]; rfl⟩
  rw [← Go.Deep.add_add, hc j hj, List.getElem?_eq_getElem hlt]
structure OpenRows {H : Type} (enc : TypeId × Value → H) (P : Program) (W : World) (base : Nat) (sp : Nat → Bool) (held : Bool) (fs : Array Field) (a : Option Addr) (len cap : Nat) (d : DataW H) : Prop where
  cap_ : len ≤ cap
  max : cap ≤ maxLen
  at_ : ∃ (D : Nat → DataW H) (rest : List (DataW H)), ((d = .nil ∧ len = 0) ∨ d = .slice ((List.range len).map D) rest) ∧ ∀ i, i < len → ∃ (x : Addr) (ys : List (DataW H × List MemPlace)) (n : Nat), a = some x ∧ D i = .agg (ys.map (·.1)) ∧ ys.length = fs.size ∧
    ∀ (j : Nat) (f : Field), fs[j]? = some f → ∃ (v : Value) (y : DataW H × List MemPlace), W.cell? (x.add (i * fs.size + j)) = some v ∧ ys[j]? = some y ∧ DataW.trod enc P W base sp held n f.type [v] = some y
theorem open_rows {H : Type} {enc : TypeId × Value → H} {P : Program} {W : World} {base : Nat} {sp : Nat → Bool} {held : Bool} {t e : TypeId} {fs : Array Field} {fuel : Nat} {a : Option Addr} {len cap : Nat} {x : DataW H × List MemPlace}
    (ht : P.underlying t = some (.slice e)) (he : P.underlying e = some (.struct fs)) (hone : Go.Deep.oneCellFields P fs = true) (hC : P.cellsOf e = fs.size) (h : DataW.trod enc P W base sp held fuel t [.slice a len cap] = some x) :
    OpenRows enc P W base sp held fs a len cap x.1 := by
  rcases Go.Deep.open_slice ht h with ⟨hcs, hx⟩ | ⟨x0, l, c, m, n, D, Pl, hcs, _, hl, hm, hmm, hx, hi⟩
  · simp at hcs
    obtain ⟨rfl, rfl, rfl⟩ := hcs
    exact ⟨Nat.le_refl _, Nat.zero_le _, fun _ => .nil, [], .inl ⟨by rw [hx], rfl⟩, fun i h => absurd h (by omega)⟩
  · simp at hcs
    obtain ⟨rfl, rfl, rfl⟩ := hcs
    refine ⟨hl, hm, D, _, .inr (by rw [hx]), fun i hil => ?_⟩
    obtain ⟨cs', hc, ht'⟩ := hi i (by rw [hmm]; split <;> omega)
    rw [hC] at hc
    obtain ⟨ys, n', _, hy, _, hyl, hf⟩ := DataW.trod_struct he ht'
    refine ⟨x0, ys, n', rfl, congrArg Prod.fst hy, hyl, fun j f hj => ?_⟩
    obtain ⟨ho, hk⟩ := Go.Deep.hone_of hone j f hj
    have hjl : j < fs.size := (Array.getElem?_eq_some_iff.1 hj).1
    obtain ⟨v, hv, h1⟩ := cell_at hc hjl
    have h2 := hf j f hj
    rw [ho, hk, h1] at h2
    have hys : ys[j]? = some (ys[j]'(by omega)) := List.getElem?_eq_getElem (by omega)
    exact ⟨v, _, hv, hys, h2.trans hys⟩
end Go.Proofs.Ytemlbjpefomboaa
