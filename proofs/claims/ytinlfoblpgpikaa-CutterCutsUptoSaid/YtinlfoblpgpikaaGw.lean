/- cutter: windows given: a row of one's own. -/
import Derived.Test.YtinlfoblpgpikaaF2
import Derived.Test.YtinlfoblpgpikaaJw
import Derived.Test.YtinlfoblpgpikaaCt
import Derived.Test.YtinlfoblpgpikaaOc
namespace Go.Proofs.Ytinlfoblpgpikaa
open Go.RowKit Go.Shelf Go.Proofs.YtinlfoblpgpikaaW.PrintWords Go.Proofs.YtinlfoblpgpikaaW.PrintLast Go.Proofs.YtinlfoblpgpikaaW.PrintMore Go.Proofs.Ytinlfoblpgpikaa.Pr
set_option linter.unusedVariables false
set_option linter.unusedSimpArgs false
def from45 (e : S45) : S43 := ⟨e.f0, ⟨e.f1.f0.map f81, e.f1.f1, e.f1.f2⟩⟩
/-- A row of windows, all one's own. -/
structure RowO (W : World) (base : Nat) (v : Value) (l : List Wv) : Prop where
  row : W.ownsRow base 43 4 v l.length (cellsW l)
  el : ∀ a ∈ l, WvO W base a
  dis : l.Pairwise (fun a b => ∀ k, a.B k → ¬ b.B k)
theorem RowO.below {W W' : World} {base : Nat} {v : Value} {l : List Wv} (h : RowO W base v l) (hb : Below W.heap.size W W') : RowO W' base v l :=
  ⟨pw_own_below h.row hb, fun a ha => (h.el a ha).below hb, h.dis⟩
theorem RowO.nil (W : World) (base : Nat) : RowO W base (.slice none 0 0) [] := ⟨own_nil _ _ _ _, fun a ha => (by cases ha), List.Pairwise.nil⟩
theorem RowO.push {W : World} {base lo : Nat} {v : Value} {l : List Wv} {a : Wv} (h : RowO W base v l) (ha : WvO W lo a) (hlo : base ≤ lo) (hold : ∀ b ∈ l, ∀ k, b.B k → k < lo) {A0 : Option Addr} {n0 c0 : Nat} {A1 : Option Addr} {n1 c1 : Nat} {A2 : Option Addr} {n2 c2 : Nat} (e0 : a.s = .slice A0 n0 c0) (e1 : a.d = .slice A1 n1 c1) (e2 : a.x = .slice A2 n2 c2) (hb : base ≤ W.heap.size) {g : Nat} {ty : TypeId} (hg : W.heap[g]? = some (.cells #[.int .i64 a.y.f0, a.s, a.d, a.x] ty)) (hl : l.length ≤ 2000000) :
    ∃ v' w', (Builtin.append_ #[31, 31] 31 #[v, .slice (some ⟨g, 0, none⟩) 1 1]).run Try.prog W = .ok v' w' ∧ RowO w' base v' (l ++ [a]) ∧ W.grownBy w' v.ownBlock := by
  have hsrc : Src W (some ⟨g, 0, none⟩) 1 4 a.cells := by
    refine ⟨rfl, fun j u hj => ?_, by rw [Wv.cells, e0, e1, e2]; simp [Value.oneCell']⟩
    have hj4 : j < 4 := by
      rcases Nat.lt_or_ge j 4 with h3 | h3
      · exact h3
      · rw [List.getElem?_eq_none (by simpa [Wv.cells] using h3)] at hj; cases hj
    refine ⟨_, rfl, ?_⟩
    match j, hj4, hj with
    | 0, _, hj => rw [add_plain, blk_cell hg, ← hj]; rfl
    | 1, _, hj => rw [add_plain, blk_cell hg, ← hj]; rfl
    | 2, _, hj => rw [add_plain, blk_cell hg, ← hj]; rfl
    | 3, _, hj => rw [add_plain, blk_cell hg, ← hj]; rfl
  obtain ⟨v', w', hrun, ho, hgr, _, _⟩ := run_app (P := Try.prog) W base 31 31 43 (.agg #[.int .i64 0, .slice none 0 0, .slice none 0 0, .slice none 0 0]) 4 80 eltW v _ _ h.row (some ⟨g, 0, none⟩) 1 1 a.cells hsrc (by omega) hb
  refine ⟨v', w', hrun, ⟨by rw [List.length_append, cellsW_snoc]; exact ho, fun b hbm => ?_, ?_⟩, hgr⟩
  · have key : ∀ (b : Wv) (bs : Nat), WvO W bs b → WvO w' bs b := fun b bs hw =>
      hw.upd (S := fun k => v.ownBlock = some k) (Upd.of_grown hgr (fun k e => e)) (fun k hk hv => hw.not43 h.row k hv hk)
    rcases List.mem_append.1 hbm with hbm | hbm
    · exact key b base (h.el b hbm)
    · obtain rfl := List.mem_singleton.1 hbm
      exact (key b lo ha).lower hlo
  · rw [List.pairwise_append]
    refine ⟨h.dis, List.pairwise_singleton _ _, fun b hbm c hc k hk hk2 => ?_⟩
    obtain rfl := List.mem_singleton.1 hc
    have := hold b hbm k hk
    have := ha.base k hk2
    omega
theorem RowO.C {W : World} {base c n : Nat} {A : Option Addr} {l : List Wv} (h : RowO W base (.slice A n c) l) (hn : l.length = n) : Kd.C k43 W A n (l.map Wv.y) ∧ n ≤ c := by
  refine row_C43 (b := base) ?_ hn (fun a ha => (h.el a ha).c)
  have := h.row
  rwa [hn] at this
theorem RowO.form {W : World} {base n : Nat} {v : Value} {l : List Wv} (h : RowO W base v l) (hn : l.length = n) : ∃ A c, v = .slice A n c := hn ▸ own_slice h.row
theorem RowO.lt {W : World} {base : Nat} {v : Value} {l : List Wv} (h : RowO W base v l) : ∀ b ∈ l, ∀ k, b.B k → k < W.heap.size := fun b hb k hk => (h.el b hb).lt k hk
theorem R_upd {α : Type} {d : Kd α} {e base : Nat} {ok S : Nat → Prop} {W W' : World} {v : Value} {xs : List α} (h : d.R e W base ok v xs) (hu : Upd S W W') (hs : ∀ k, base ≤ k → ¬ S k) : d.R e W' base ok v xs :=
  Kd.R_mono (Kd.R_move (Kd.R_bound h) (fun k hk => hu.block k hk.2.2.1 (hs k hk.2.1))) (fun _ hk => hk.1)
theorem WvO.notblk {W : World} {base g : Nat} {a : Wv} {cs : Array Value} {t : TypeId} (h : WvO W base a) (hg : W.heap[g]? = some (.cells cs t (0, 0))) (h1 : 82 ≠ t) (h2 : 5 ≠ t) : ¬ a.B g := by
  rintro (hk | hk | hk)
  · exact own_ne h.s hg h1 hk.symm
  · exact own_ne h.d hg h2 hk.symm
  · exact own_ne h.x hg h2 hk.symm
theorem row_cells {W : World} {b n c : Nat} {A : Option Addr} {cs : List Value} (h : W.ownsRow b 43 4 (.slice A n c) n cs) (hn : 0 < n) : ∃ ad, A = some ad ∧ ∀ q u, cs[q]? = some u → W.cell? (ad.add q) = some u := by
  rcases h.2 with ⟨e1, e2⟩ | ⟨g, cap, cur, e1, _⟩
  · omega
  · cases e1
    exact ⟨_, rfl, fun q u hu => h.cells (g := g) rfl q u hu⟩
end Go.Proofs.Ytinlfoblpgpikaa
