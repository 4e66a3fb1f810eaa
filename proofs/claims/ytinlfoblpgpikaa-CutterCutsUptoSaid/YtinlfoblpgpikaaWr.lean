/- cutter: windows in rows: read, and owned; the same windows. -/
import Derived.Test.YtinlfoblpgpikaaSp
import Derived.Test.YtinlfoblpgpikaaS7
namespace Go.Proofs.Ytinlfoblpgpikaa
open Go.RowKit Go.Shelf Go.Proofs.YtinlfoblpgpikaaW.PrintWords Go.Proofs.YtinlfoblpgpikaaW.PrintLast Go.Proofs.YtinlfoblpgpikaaW.PrintMore Go.Proofs.Ytinlfoblpgpikaa.Pr
set_option linter.unusedVariables false
set_option linter.unusedSimpArgs false
/-- A window as the document has it. -/
def to45 (y : S43) : S45 := ⟨y.f0, ⟨y.f1.f0.map t81, y.f1.f1, y.f1.f2⟩⟩
/-- A window in memory: its lists' values. -/
structure Wv where
  s : Value
  d : Value
  x : Value
  y : S43
def Wv.cells (a : Wv) : List Value := [.int .i64 a.y.f0, a.s, a.d, a.x]
def cellsW (l : List Wv) : List Value := l.flatMap Wv.cells
theorem cellsW_snoc (l : List Wv) (a : Wv) : cellsW (l ++ [a]) = cellsW l ++ a.cells := by simp [cellsW]
theorem cellsW_at : ∀ (l : List Wv) (j : Nat) (p : Wv), l[j]? = some p → ∀ i u, p.cells[i]? = some u → (cellsW l)[j * 4 + i]? = some u
  | [], j, p, h => by simp at h
  | s :: l, 0, p, h => by
    simp at h
    subst h
    intro i u hu
    have hi : i < 4 := by have := (List.getElem?_eq_some_iff.1 hu).1; simpa [Wv.cells] using this
    show (s.cells ++ cellsW l)[0 * 4 + i]? = some u
    rw [List.getElem?_append_left (by simp [Wv.cells]; omega)]
    simpa using hu
  | s :: l, j + 1, p, h => by
    intro i u hu
    have := cellsW_at l j p (by simpa using h) i u hu
    show (s.cells ++ cellsW l)[(j + 1) * 4 + i]? = some u
    rw [List.getElem?_append_right (by simp [Wv.cells]; omega)]
    rw [← this]
    congr 1
    simp [Wv.cells]
    omega
/-- The blocks of a window's lists. -/
def Wv.B (a : Wv) (k : Nat) : Prop := a.s.ownBlock = some k ∨ a.d.ownBlock = some k ∨ a.x.ownBlock = some k
/-- A window's lists are its own. -/
structure WvO (W : World) (base : Nat) (a : Wv) : Prop where
  s : OS 82 W base a.s a.y.f1.f0
  d : OB W base a.d a.y.f1.f1
  x : OB W base a.x a.y.f1.f2
  ne : Dj a.d a.x
theorem WvO.upd {W W' : World} {base : Nat} {a : Wv} {S : Nat → Prop} (h : WvO W base a) (hu : Upd S W W') (hs : ∀ k, a.B k → ¬ S k) : WvO W' base a :=
  ⟨own_upd h.s hu (fun k hk => hs k (.inl hk)), own_upd h.d hu (fun k hk => hs k (.inr (.inl hk))), own_upd h.x hu (fun k hk => hs k (.inr (.inr hk))), h.ne⟩
theorem WvO.below {W W' : World} {base : Nat} {a : Wv} (h : WvO W base a) (hb : Below W.heap.size W W') : WvO W' base a :=
  ⟨pw_own_below h.s hb, pw_own_below h.d hb, pw_own_below h.x hb, h.ne⟩
theorem WvO.lt {W : World} {base : Nat} {a : Wv} (h : WvO W base a) : ∀ k, a.B k → k < W.heap.size := by
  rintro k (hk | hk | hk)
  · exact own_lt h.s k hk
  · exact own_lt h.d k hk
  · exact own_lt h.x k hk
theorem WvO.base {W : World} {base : Nat} {a : Wv} (h : WvO W base a) : ∀ k, a.B k → base ≤ k := by
  rintro k (hk | hk | hk)
  · exact own_base h.s k hk
  · exact own_base h.d k hk
  · exact own_base h.x k hk
theorem WvO.lower {W : World} {base base' : Nat} {a : Wv} (h : WvO W base a) (hb : base' ≤ base) : WvO W base' a := ⟨own_weaken h.s hb, own_weaken h.d hb, own_weaken h.x hb, h.ne⟩
/-- Its blocks' type is no window's. -/
theorem WvO.not43 {W : World} {base : Nat} {a : Wv} (h : WvO W base a) {b n : Nat} {v : Value} {cs : List Value} (hr : W.ownsRow b 43 4 v n cs) : ∀ k, v.ownBlock = some k → ¬ a.B k := by
  intro k hv hk
  obtain ⟨c2, h2⟩ := own_typed hr k hv
  have key : ∀ {u : Value} {e : TypeId} {sz m b' : Nat} {us : List Value}, W.ownsRow b' e sz u m us → e ≠ 43 → u.ownBlock ≠ some k := fun hu he hu2 => by
    obtain ⟨c1, h1⟩ := own_typed hu k hu2
    rw [h1] at h2
    cases h2
    exact he rfl
  rcases hk with hk | hk | hk
  · exact key h.s (by decide) hk
  · exact key h.d (by decide) hk
  · exact key h.x (by decide) hk
/-- A window's lists, read. -/
def WvC (W : World) (a : Wv) : Prop := ∃ A0 c0 A1 c1 A2 c2, a.s = .slice A0 a.y.f1.f0.length c0 ∧ a.d = .slice A1 a.y.f1.f1.length c1 ∧ a.x = .slice A2 a.y.f1.f2.length c2 ∧ EdC W A0 c0 a.y.f1.f0 A1 c1 a.y.f1.f1 A2 c2 a.y.f1.f2
theorem WvO.c {W : World} {base : Nat} {a : Wv} (h : WvO W base a) : WvC W a := by
  obtain ⟨A0, c0, e0⟩ := own_slice h.s
  obtain ⟨A1, c1, e1⟩ := own_slice h.d
  obtain ⟨A2, c2, e2⟩ := own_slice h.x
  have h0 := h.s
  have h1 := h.d
  have h2 := h.x
  rw [e0] at h0
  rw [e1] at h1
  rw [e2] at h2
  exact ⟨A0, c0, A1, c1, A2, c2, e0, e1, e2, h0.C82 rfl, own_C8 h1, own_C8 h2, own_cap' h0, own_cap' h1, own_cap' h2⟩
theorem row_C43 {W : World} {b c n : Nat} {A : Option Addr} {l : List Wv} (h : W.ownsRow b 43 4 (.slice A n c) n (cellsW l)) (hn : l.length = n) (hc : ∀ a ∈ l, WvC W a) : Kd.C k43 W A n (l.map Wv.y) ∧ n ≤ c := by
  subst hn
  refine ⟨?_, own_cap' h⟩
  rcases h.2 with ⟨e1, e2⟩ | ⟨g, cap, cur, e1, _, _, h1, h2, _⟩
  · have : l = [] := List.eq_nil_of_length_eq_zero e2
    subst this
    exact ⟨rfl, by simp, fun h => by simp at h⟩
  · cases e1
    have hcs := h.cells (g := g) rfl
    refine ⟨by rw [List.length_map], by simp only [maxLen] at h2; omega, fun _ => ⟨_, rfl, fun j p hj => ?_⟩⟩
    rw [List.getElem?_map, Option.map_eq_some_iff] at hj
    obtain ⟨a, ha, rfl⟩ := hj
    obtain ⟨A0, c0, A1, c1, A2, c2, e0, e1, e2, hE⟩ := hc a (List.mem_of_getElem? ha)
    refine ⟨[.int .i64 a.y.f0, .slice A0 a.y.f1.f0.length c0, .slice A1 a.y.f1.f1.length c1, .slice A2 a.y.f1.f2.length c2], rfl, k43_mk W a.y hE.hs hE.s hE.hd hE.di hE.hx hE.ex, fun i u hu => ?_⟩
    have := cellsW_at l j a ha i u (by rw [Wv.cells, e0, e1, e2]; exact hu)
    exact hcs _ _ this
end Go.Proofs.Ytinlfoblpgpikaa
