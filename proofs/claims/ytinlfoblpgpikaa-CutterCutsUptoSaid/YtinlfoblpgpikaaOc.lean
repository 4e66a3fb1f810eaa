/- cutter: opening windows that came in. (Turned from edit/Oe.) -/
import Derived.Test.YtinlfoblpgpikaaAp
import Derived.Deep.Slices
import Derived.Deep.Fields
import Derived.ChangeSame
import Derived.SizedLaws
import Derived.OpenShut
import Derived.Test.YtinlfoblpgpikaaBs
import Derived.Lib.SmallJoins
namespace Go.Proofs.Ytinlfoblpgpikaa
open Go.RowKit Go.ChangeShapes Go.WideShapes
set_option linter.unusedVariables false
theorem cell_at {w : World} {base : Nat} {x : Addr} {k m j : Nat} {cs : List Value} (h : w.cells? base (x.add k) m = some cs) (hj : j < m) : ∃ v, w.cell? (x.add (k + j)) = some v ∧ (cs.drop j).take 1 = [v] := by
  obtain ⟨_, hl, hc⟩ := World.cells?_some h
  have hlt : j < cs.length := by omega
  refine ⟨cs[j], ?_, by rw [List.drop_eq_getElem_cons hlt]; rfl⟩
  rw [← Go.Deep.add_add, hc j hj, List.getElem?_eq_getElem hlt]
structure OpenRows {H : Type} (enc : TypeId × Value → H) (P : Program) (W : World) (base : Nat) (sp : Nat → Bool) (held : Bool) (fs : Array Field) (a : Option Addr) (len cap : Nat) (d : DataW H) : Prop where
  cap_ : len ≤ cap
  max : cap ≤ maxLen
  at_ : ∃ (D : Nat → DataW H) (rest : List (DataW H)), ((d = .nil ∧ len = 0) ∨ d = .slice ((List.range len).map D) rest) ∧ ∀ i, i < len → ∃ (x : Addr) (ys : List (DataW H × List MemPlace)) (n : Nat), a = some x ∧ D i = .agg (ys.map (·.1)) ∧ ys.length = fs.size ∧
    ∀ (j : Nat) (f : Field), fs[j]? = some f → ∃ (v : Value) (y : DataW H × List MemPlace), W.cell? (x.add (i * fs.size + j)) = some v ∧ ys[j]? = some y ∧ DataW.trod enc P W base sp held n f.type [v] = some y
theorem open_rows {H : Type} {enc : TypeId × Value → H} {P : Program} {W : World} {base : Nat} {sp : Nat → Bool} {held : Bool} {t e : TypeId} {fs : Array Field} {fuel : Nat} {a : Option Addr} {len cap : Nat} {x : DataW H × List MemPlace}
    (ht : P.underlying t = some (.slice e)) (he : P.underlying e = some (.struct fs)) (hone : Go.Deep.oneCellFields P fs = true) (hC : P.cellsOf e = fs.size) (h : DataW.trod enc P W base sp held fuel t [.slice a len cap] = some x) :
    OpenRows enc P W base sp held fs a len cap x.1 := by
  rcases Go.Deep.open_slice ht h with ⟨hcs, hx⟩ | ⟨x0, l, c, m, n, D, Pl, hcs, _, hl, hm, hmm, hx, hi⟩
  · simp at hcs
    obtain ⟨rfl, rfl, rfl⟩ := hcs
    exact ⟨Nat.le_refl _, Nat.zero_le _, fun _ => .nil, [], .inl ⟨by rw [hx], rfl⟩, fun i h => absurd h (by omega)⟩
  · simp at hcs
    obtain ⟨rfl, rfl, rfl⟩ := hcs
    refine ⟨hl, hm, D, _, .inr (by rw [hx]), fun i hil => ?_⟩
    obtain ⟨cs', hc, ht'⟩ := hi i (by rw [hmm]; split <;> omega)
    rw [hC] at hc
    obtain ⟨ys, n', _, hy, _, hyl, hf⟩ := DataW.trod_struct he ht'
    refine ⟨x0, ys, n', rfl, congrArg Prod.fst hy, hyl, fun j f hj => ?_⟩
    obtain ⟨ho, hk⟩ := Go.Deep.hone_of hone j f hj
    have hjl : j < fs.size := (Array.getElem?_eq_some_iff.1 hj).1
    obtain ⟨v, hv, h1⟩ := cell_at hc hjl
    have h2 := hf j f hj
    rw [ho, hk, h1] at h2
    have hys : ys[j]? = some (ys[j]'(by omega)) := List.getElem?_eq_getElem (by omega)
    exact ⟨v, _, hv, hys, h2.trans hys⟩
end Go.Proofs.Ytinlfoblpgpikaa
namespace Go.Proofs.Ytinlfoblpgpikaa
open Go.RowKit Go.ChangeShapes Go.WideShapes Go.Proofs.YtinlfoblpgpikaaW.PrintWords Go.Proofs.Ytinlfoblpgpikaa.Pr
set_option linter.unusedVariables false
theorem listed_of {α : Type} {n : Nat} {p : Nat → α → Prop} (h : ∀ i, i < n → ∃ a, p i a) : ∃ l : List α, l.length = n ∧ ∀ i a, l[i]? = some a → p i a := by
  induction n with
  | zero => exact ⟨[], rfl, fun i a h => by simp at h⟩
  | succ n ih =>
    obtain ⟨l, hl, hp⟩ := ih (fun i hi => h i (by omega))
    obtain ⟨a, ha⟩ := h n (by omega)
    refine ⟨l ++ [a], by simp [hl], fun i b hb => ?_⟩
    rcases Nat.lt_or_ge i l.length with hi | hi
    · rw [List.getElem?_append_left hi] at hb
      exact hp i b hb
    · rw [List.getElem?_append_right hi] at hb
      obtain ⟨h0, h1⟩ := List.getElem?_eq_some_iff.1 hb
      have hi0 : i = n := by simp at h0; omega
      subst hi0
      simp [hl] at h1
      subst h1
      exact ha
/-- Bytes that are read. -/
structure Bys (W : World) (A : Option Addr) (c : Nat) (l : List Int) : Prop where
  r : Kd.C (Kd.int .u8) W A l.length l
  hc : l.length ≤ c
  hr : ∀ x ∈ l, 0 ≤ x ∧ x ≤ 255
theorem bytes_of_trod {H : Type} {enc : TypeId × Value → H} {W : World} {base : Nat} {sp : Nat → Bool} {held : Bool} {n : Nat} {v : Value} {y : DataW H × List MemPlace} (h : DataW.trod enc Try.prog W base sp held n 24 [v] = some y) :
    ∃ (A : Option Addr) (c : Nat) (l : List Int), v = .slice A l.length c ∧ Bys W A c l ∧ l.length ≤ Rows.uptoBulk y.1 := by
  rcases Go.Deep.open_slice1 Try.underlying24 (by kernel_rfl) h with ⟨hcs, rfl⟩ | ⟨a, len, cap, m, n', V, D, Pl, hcs, _, hl, hm, hmm, rfl, hV⟩
  · obtain rfl := (List.cons.inj hcs).1
    exact ⟨none, 0, [], rfl, ⟨⟨rfl, by simp, fun h => by simp at h⟩, by simp, by simp⟩, by simp⟩
  · obtain rfl := (List.cons.inj hcs).1
    obtain ⟨l, hll, hp⟩ := listed_of (α := Int) (n := len) (p := fun i b => W.cell? (a.add i) = some (.int .u8 b) ∧ 0 ≤ b ∧ b ≤ 255) (fun i hi => by
      obtain ⟨h1, h2⟩ := hV i (by rw [hmm]; split <;> omega)
      obtain ⟨b, hb, _, wb⟩ := DataW.trod_int Try.underlying5 h2
      obtain rfl' := (List.cons.inj hb).1
      rw [rfl'] at h1
      exact ⟨b, h1, bounds_u8 wb⟩)
    subst hll
    have hmx : l.length ≤ 9223372036854775807 := by unfold maxLen at hm; omega
    refine ⟨some a, cap, l, rfl, ⟨Kd.C_of_reads (enc := Value.int .u8) (d := (0 : Int)) (h1 := fun _ => rfl) ⟨rfl, hmx, fun _ => ⟨a, rfl, fun j hj => ?_⟩⟩, hl, fun x hx => ?_⟩, ?_⟩
    · have := (hp j _ (List.getElem?_eq_getElem hj)).1
      rw [this]
      simp [List.getD_eq_getElem?_getD, List.getElem?_eq_getElem hj]
    · obtain ⟨j, hj, rfl⟩ := List.mem_iff_getElem.1 hx
      exact (hp j _ (List.getElem?_eq_getElem hj)).2
    · have := bulks.slice_le ((List.range l.length).map D) ((List.range (m - l.length)).map fun j => D (l.length + j))
      simp only [List.length_map, List.length_range] at this
      exact Nat.le_trans (by omega) this
def wfS (s : S81) : Prop := (-9223372036854775808 ≤ s.f0 ∧ s.f0 ≤ 9223372036854775807) ∧ (-9223372036854775808 ≤ s.f1 ∧ s.f1 ≤ 9223372036854775807) ∧ (-9223372036854775808 ≤ s.f2 ∧ s.f2 ≤ 9223372036854775807)
theorem steps_of_trod {H : Type} {enc : TypeId × Value → H} {W : World} {base : Nat} {sp : Nat → Bool} {held : Bool} {n : Nat} {v : Value} {y : DataW H × List MemPlace} (h : DataW.trod enc Try.prog W base sp held n 23 [v] = some y) :
    ∃ (A : Option Addr) (c : Nat) (l : List S81), v = .slice A l.length c ∧ Kd.C k81 W A l.length l ∧ l.length ≤ c ∧ (∀ s ∈ l, wfS s) ∧ l.length ≤ Rows.uptoBulk y.1 := by
  have h0 := h
  rcases Go.Deep.open_slice Try.underlying23 h with ⟨hcs, rfl⟩ | ⟨a, len, cap, m, n', D, Pl, hcs, _, hl, hm, hmm, rfl, _⟩
  · obtain rfl := (List.cons.inj hcs).1
    exact ⟨none, 0, [], rfl, ⟨rfl, by simp, fun h => by simp at h⟩, by simp, by simp, by simp⟩
  · obtain rfl := (List.cons.inj hcs).1
    have o := open_rows Try.underlying23 Try.underlying81 (by kernel_rfl) (by kernel_rfl) h0
    obtain ⟨D', rest, _, hi⟩ := o.at_
    obtain ⟨l, hll, hp⟩ := listed_of (α := S81) (n := len) (p := fun i s => W.cell? (a.add (i * 3 + 0)) = some (.int .i64 s.f0) ∧ W.cell? (a.add (i * 3 + 1)) = some (.int .i64 s.f1) ∧ W.cell? (a.add (i * 3 + 2)) = some (.int .i64 s.f2) ∧ wfS s) (fun i hil => by
      obtain ⟨x, ys, n'', e, _, _, hf⟩ := hi i hil
      cases e
      obtain ⟨v0, y0, c0, _, t0⟩ := hf 0 _ rfl
      obtain ⟨v1, y1, c1, _, t1⟩ := hf 1 _ rfl
      obtain ⟨v2, y2, c2, _, t2⟩ := hf 2 _ rfl
      obtain ⟨b0, hb0, _, w0⟩ := DataW.trod_int Try.underlying3 t0
      obtain ⟨b1, hb1, _, w1⟩ := DataW.trod_int Try.underlying3 t1
      obtain ⟨b2, hb2, _, w2⟩ := DataW.trod_int Try.underlying3 t2
      have e0 := (List.cons.inj hb0).1
      have e1 := (List.cons.inj hb1).1
      have e2 := (List.cons.inj hb2).1
      rw [e0] at c0
      rw [e1] at c1
      rw [e2] at c2
      exact ⟨⟨b0, b1, b2⟩, c0, c1, c2, bounds_i64 w0, bounds_i64 w1, bounds_i64 w2⟩)
    subst hll
    have hmx : l.length ≤ 9223372036854775807 := by unfold maxLen at hm; omega
    refine ⟨some a, cap, l, rfl, ⟨rfl, hmx, fun _ => ⟨a, rfl, fun j s hj => ⟨[.int .i64 s.f0, .int .i64 s.f1, .int .i64 s.f2], rfl, k81_mk W s, fun i u hu => ?_⟩⟩⟩, hl, fun s hs => ?_, ?_⟩
    · obtain ⟨h0, h1, h2, _⟩ := hp j s hj
      match i, hu with
      | 0, hu => simp at hu; subst hu; exact h0
      | 1, hu => simp at hu; subst hu; exact h1
      | 2, hu => simp at hu; subst hu; exact h2
      | i + 3, hu => simp at hu
    · obtain ⟨j, hj, rfl⟩ := List.mem_iff_getElem.1 hs
      exact (hp j _ (List.getElem?_eq_getElem hj)).2.2.2
    · have := bulks.slice_le ((List.range l.length).map D) ((List.range (m - l.length)).map fun j => D (l.length + j))
      simp only [List.length_map, List.length_range] at this
      exact Nat.le_trans (by omega) this
/-- A window that came in. -/
structure WinI (W : World) (pos : Int) (A0 : Option Addr) (c0 : Nat) (st : List S81) (A1 : Option Addr) (c1 : Nat) (d : List Int) (A2 : Option Addr) (c2 : Nat) (x : List Int) : Prop where
  s : Kd.C k81 W A0 st.length st
  di : Kd.C (Kd.int .u8) W A1 d.length d
  ex : Kd.C (Kd.int .u8) W A2 x.length x
  hs : st.length ≤ c0
  hd : d.length ≤ c1
  hx : x.length ≤ c2
  ws : ∀ s ∈ st, wfS s
  hp : -9223372036854775808 ≤ pos ∧ pos ≤ 9223372036854775807
  l0 : st.length * 24 ≤ 140737488351232
  l1 : d.length * 1 ≤ 140737488351232
  l2 : x.length * 1 ≤ 140737488351232
end Go.Proofs.Ytinlfoblpgpikaa
