/- vcd: a cache in memory: new, is, know, reset. -/
import Derived.Test.YtmfnjmecnhagmaaCn
namespace Go.Proofs.Ytmfnjmecnhagmaa
open Go.RowKit Go.ChangeShapes Go.WideShapes Go.Shelf Go.Maps Go.Proofs.YtmfnjmecnhagmaaW.PrintWords Go.Proofs.YtmfnjmecnhagmaaW.PrintLast Go.Proofs.YtmfnjmecnhagmaaW.PrintMore Go.Proofs.Ytmfnjmecnhagmaa.Pr
set_option linter.unusedVariables false
set_option linter.unusedSimpArgs false
/-- What a cache knows. -/
structure Kc where
  near : List Int
  next : Nat
  same : List Int
def kc0 : Kc := ⟨List.replicate 4 0, 0, List.replicate 768 0⟩
def iV (n : Int) : Value := .int .i64 n
def Kc.cells (k : Kc) : List Value := .bool true :: (k.near.map iV ++ (.int .i64 k.next :: k.same.map iV))
/-- A made cache in block g. -/
structure KB (W : World) (g : Nat) (k : Kc) : Prop where
  c : ∃ cur : Array Value, W.heap[g]? = some (.cells cur 76 (0, 0)) ∧ cur.toList = k.cells
  ln : k.near.length = 4
  lx : k.next < 4
  ls : k.same.length = 768
theorem KB.below {W W' : World} {g : Nat} {k : Kc} (h : KB W g k) (hb : Below W.heap.size W W') : KB W' g k := by
  obtain ⟨cur, h1, h2⟩ := h.c
  exact ⟨⟨cur, blk_below h1 hb, h2⟩, h.ln, h.lx, h.ls⟩
theorem KB.lt {W : World} {g : Nat} {k : Kc} (h : KB W g k) : g < W.heap.size := by
  obtain ⟨cur, h1, _⟩ := h.c
  exact blk_lt h1
/-- Of the blocks this one alone has turned. -/
structure On (g : Nat) (W W' : World) : Prop where
  os : W'.os = W.os
  tape : W'.tape = W.tape
  output : W'.output = W.output
  size : W'.heap.size = W.heap.size
  blk : ∀ j, j ≠ g → W'.heap[j]? = W.heap[j]?
theorem On.drew (g : Nat) (W : World) : On g W W.drew := ⟨rfl, rfl, rfl, rfl, fun _ _ => rfl⟩
theorem On.setCell {g : Nat} {W W' : World} (h : On g W W') (j : Nat) (v : Value) : On g W (W'.setCell ⟨g, j, none⟩ v) :=
  ⟨h.os, h.tape, h.output, by rw [← h.size]; simp [World.setCell], fun k hk => (Below.heap_setCell W' ⟨g, j, none⟩ v k hk).trans (h.blk k hk)⟩
theorem On.below {g n : Nat} {W W' : World} (h : On g W W') (hn : n ≤ g) : Below n W W' := ⟨h.os, h.tape, h.output, Nat.le_of_eq h.size.symm, fun k hk => h.blk k (by omega)⟩
def Kc.know (k : Kc) (addr : Nat) : Kc := ⟨k.near.set k.next addr, (k.next + 1) % 4, k.same.set (addr % 768) addr⟩
section
variable {W : World} {g : Nat} {k : Kc}
theorem KB.cell (h : KB W g k) (j : Nat) (v : Value) (hv : k.cells[j]? = some v) : W.cell? ⟨g, j, none⟩ = some v ∧ W.frozen? ⟨g, j, none⟩ = false := by
  obtain ⟨cur, h1, h2⟩ := h.c
  refine ⟨?_, blk_frozen h1 _⟩
  rw [blk_cell h1, ← hv, ← h2, Array.getElem?_toList]
theorem KB.made (h : KB W g k) : W.cell? ⟨g, 0, none⟩ = some (.bool true) := (h.cell 0 _ rfl).1
theorem cells_near (k : Kc) (h : k.near.length = 4) (i : Nat) (hi : i < 4) : k.cells[1 + i]? = some (iV (k.near.getD i 0)) := by
  unfold Kc.cells
  rw [show 1 + i = i + 1 by omega, List.getElem?_cons_succ, List.getElem?_append_left (by rw [List.length_map]; omega), List.getElem?_map, List.getD_eq_getElem?_getD, List.getElem?_eq_getElem (by omega)]
  rfl
theorem cells_next (k : Kc) (h : k.near.length = 4) : k.cells[5]? = some (.int .i64 k.next) := by
  unfold Kc.cells
  rw [show (5 : Nat) = 4 + 1 from rfl, List.getElem?_cons_succ, List.getElem?_append_right (by rw [List.length_map]; omega), List.length_map, h]
  rfl
theorem cells_same (k : Kc) (h : k.near.length = 4) (hs : k.same.length = 768) (i : Nat) (hi : i < 768) : k.cells[6 + i]? = some (iV (k.same.getD i 0)) := by
  unfold Kc.cells
  rw [show 6 + i = (5 + i) + 1 by omega, List.getElem?_cons_succ, List.getElem?_append_right (by rw [List.length_map]; omega), List.length_map, h, show 5 + i - 4 = i + 1 by omega, List.getElem?_cons_succ, List.getElem?_map, List.getD_eq_getElem?_getD, List.getElem?_eq_getElem (by omega)]
  rfl
/-- A cell of it is written. -/
theorem KB.set (h : KB W g k) (j : Nat) (v : Value) (k' : Kc) (hk : k'.cells = k.cells.set j v) (hn : k'.near.length = 4) (hx : k'.next < 4) (hs : k'.same.length = 768) : KB (W.setCell ⟨g, j, none⟩ v) g k' := by
  obtain ⟨cur, h1, h2⟩ := h.c
  refine ⟨⟨cur.setIfInBounds j v, blk_set h1 j v, ?_⟩, hn, hx, hs⟩
  rw [Array.toList_setIfInBounds, h2, hk]
theorem set_near (k : Kc) (h : k.near.length = 4) (i : Nat) (hi : i < 4) (n : Int) : (⟨k.near.set i n, k.next, k.same⟩ : Kc).cells = k.cells.set (1 + i) (.int .i64 n) := by
  unfold Kc.cells
  rw [show 1 + i = i + 1 by omega, List.set_cons_succ, List.set_append_left _ _ (by rw [List.length_map]; omega), List.map_set]
  rfl
theorem set_next (k : Kc) (h : k.near.length = 4) (n : Nat) : (⟨k.near, n, k.same⟩ : Kc).cells = k.cells.set 5 (.int .i64 n) := by
  unfold Kc.cells
  rw [show (5 : Nat) = 4 + 1 from rfl, List.set_cons_succ, List.set_append_right _ _ (by rw [List.length_map]; omega), List.length_map, h]
  rfl
theorem set_same (k : Kc) (h : k.near.length = 4) (i : Nat) (n : Int) : (⟨k.near, k.next, k.same.set i n⟩ : Kc).cells = k.cells.set (6 + i) (.int .i64 n) := by
  unfold Kc.cells
  rw [show 6 + i = (5 + i) + 1 by omega, List.set_cons_succ, List.set_append_right _ _ (by rw [List.length_map]; omega), List.length_map, h, show 5 + i - 4 = i + 1 by omega, List.set_cons_succ, List.map_set]
  rfl
end
theorem new76 : (Try.zeroCells76.setIfInBounds 0 (.bool true)).toList = kc0.cells := by kernel_rfl
set_option maxRecDepth 100000 in
theorem newCache_c (w : World) : Calls Try.prog 30 #[] w fun e w' => e = .returned (.pointer (some ⟨w.heap.size, 0, none⟩)) ∧ KB w' w.heap.size kc0 ∧ Below w.heap.size w w' := by
  have HK : Hd (KB (w.alloc (.cells (Try.zeroCells76.setIfInBounds 0 (.bool true)) 76)) w.heap.size kc0) := ⟨⟨⟨_, blk_new w _, new76⟩, by decide, by decide, by decide⟩⟩
  have HB := Hd.mk ((Below.refl w.heap.size w).alloc (Nat.le_refl _) (.cells (Try.zeroCells76.setIfInBounds 0 (.bool true)) 76))
  go_enter Try.func30, Try.ntmps30
  go_wp2
  go_ret
  exact ⟨rfl, HK.out, HB.out⟩
theorem is_c {W : World} {g : Nat} {k : Kc} (h : KB W g k) : Calls Try.prog 49 #[.pointer (some ⟨g, 0, none⟩)] W fun e w' => e = .returned (.bool true) ∧ w' = W := by
  have c0 := h.made
  clear h
  go_enter Try.func49, Try.ntmps49
  go_wp2
  go_ret
  exact ⟨rfl, rfl⟩
end Go.Proofs.Ytmfnjmecnhagmaa
