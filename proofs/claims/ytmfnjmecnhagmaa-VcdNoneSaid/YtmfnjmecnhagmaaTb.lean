/- vcd: Table by contract. -/
import Derived.Test.YtmfnjmecnhagmaaTa
namespace Go.Proofs.Ytmfnjmecnhagmaa
open Go.RowKit Go.ChangeShapes Go.WideShapes Go.Shelf Go.Proofs.YtmfnjmecnhagmaaW.PrintWords Go.Proofs.YtmfnjmecnhagmaaW.PrintLast Go.Proofs.YtmfnjmecnhagmaaW.PrintMore Go.Proofs.Ytmfnjmecnhagmaa.Pr
set_option linter.unusedVariables false
set_option linter.unusedSimpArgs false
def rowA (n : Nat) : Hf × Hf := ((1, (n : Int), 0), hz)
def pre1 (n : Nat) : List (Hf × Hf) := ((2, 0, 0), hz) :: (List.range n).map rowA
def rowB (m n : Nat) : Hf × Hf := ((3, 4 + (n : Int), (m : Int)), hz)
def rowC (m n : Nat) : List (Hf × Hf) := ((3, 0, (m : Int)), hz) :: (List.range n).map (rowB m)
def pre2 (m : Nat) : List (Hf × Hf) := pre1 18 ++ (List.range m).flatMap (fun i => rowC i 15)
def cellD (m n c : Nat) : Hf × Hf := ((1, (n : Int) + 1, 0), (3, 4 + (c : Int), (m : Int)))
def mostD (m : Nat) : Nat := if m < 6 then 3 else 1
def rowD (m n c : Nat) : List (Hf × Hf) := (List.range c).map (cellD m n)
def rowE (m n : Nat) : List (Hf × Hf) := (List.range n).flatMap (fun i => rowD m i (mostD m))
def pre3 (m : Nat) : List (Hf × Hf) := pre2 9 ++ (List.range m).flatMap (fun i => rowE i 4)
def cellF (m : Nat) : Hf × Hf := ((3, 4, (m : Int)), (1, 1, 0))
def pre4 (m : Nat) : List (Hf × Hf) := pre3 9 ++ (List.range m).map cellF
/-- The 256 codes. -/
def tabL : List (Hf × Hf) := pre4 9
theorem tabL_len : tabL.length = 256 := by decide +kernel
theorem len1 : ∀ n, n < 18 → (pre1 n).length < 256 := by decide +kernel
theorem len2 : ∀ m, m < 9 → (pre2 m).length < 256 := by decide +kernel
theorem len2b : ∀ m, m < 9 → ∀ n, n < 15 → (pre2 m ++ rowC m n).length < 256 := by decide +kernel
theorem len3 : ∀ m, m < 9 → ∀ n, n < 4 → ∀ c, c < 3 → (pre3 m ++ rowE m n ++ rowD m n c).length < 256 ∨ mostD m ≤ c := by decide +kernel
theorem len4 : ∀ m, m < 9 → (pre4 m).length < 256 := by decide +kernel
theorem pre1_s (n : Nat) : pre1 n ++ [rowA n] = pre1 (n + 1) := by simp [pre1, List.range_succ]
theorem rowC_s (m n : Nat) : rowC m n ++ [rowB m n] = rowC m (n + 1) := by simp [rowC, List.range_succ]
theorem pre2_s (m : Nat) : pre2 m ++ rowC m 15 = pre2 (m + 1) := by simp [pre2, List.range_succ]
theorem rowD_s (m n c : Nat) : rowD m n c ++ [cellD m n c] = rowD m n (c + 1) := by simp [rowD, List.range_succ]
theorem rowE_s (m n : Nat) : rowE m n ++ rowD m n (mostD m) = rowE m (n + 1) := by simp [rowE, List.range_succ]
theorem pre3_s (m : Nat) : pre3 m ++ rowE m 4 = pre3 (m + 1) := by simp [pre3, List.range_succ]
theorem pre4_s (m : Nat) : pre4 m ++ [cellF m] = pre4 (m + 1) := by simp [pre4, List.range_succ]
theorem pre3_0 : pre3 0 = pre2 9 := by simp [pre3]
theorem pre2_0 : pre2 0 = pre1 18 := by simp [pre2]
theorem pre4_0 : pre4 0 = pre3 9 := by simp [pre4]
theorem zero26 (w : World) : (zeroValue 26).run Try.prog w = .ok (.agg (Array.replicate 1536 z0)) w := by kernel_rfl
theorem info26 : (Try.prog.info? 26).map (·.size) = some 1536 := by kernel_rfl
theorem info24 : (Try.prog.info? 24).map (·.size) = some 3 := by kernel_rfl
theorem wpList_alloc {P : Program} {ops : Array Oper} {rest : List Oper} {op : Oper} {a : Act} {w : World} {Q : Exit → Act → World → Prop} (hgd : op.guard = none) (ty : TypeId) (ho : op.op = .alloc ty) (c : Array Value)
    (hz : ∀ w : World, (zeroValue ty).run P w = .ok (.agg c) w) (h : wpList P ops Q rest (a.put op.dst (.pointer (some ⟨w.heap.size, 0, none⟩))) (w.alloc (.cells c ty))) : wpList P ops Q (op :: rest) a w :=
  wpList_plain hgd fun K hK => by
    unfold Oper.wp execOp
    simp [ho, Instr.alloc, hz, newVar, Value.cells, Result.andThen]
    exact hK _ _ h
theorem wpList_store_row {P : Program} {ops : Array Oper} {rest : List Oper} {o : Oper} {a : Act} {w : World} {Q : Exit → Act → World → Prop} (hgd : o.guard = none) (ty : TypeId) (x y : Operand) (ho : o.op = .store ty x y)
    (g : Nat) (cells : Array Value) (hx : a.eval x = .pointer (some ⟨g, 0, none⟩)) (hy : a.eval y = .agg cells)
    (t : TypeId) (old : Array Value) (hg : w.heap[g]? = some (.cells old t (0, 0))) (hi : (P.info? ty).map (·.size) = some cells.size)
    (hold : old.size = cells.size) (h1 : cells.all (·.oneCell') = true)
    (h : wpList P ops Q rest (a.put o.dst undef) (w.setRow g cells)) : wpList P ops Q (o :: rest) a w :=
  wpList_plain hgd fun _ hK => wp_store_row ty x y ho g cells hx hy t old hg hi hold h1 (hK _ _ h)
theorem tcells_one : ∀ (P : List (Hf × Hf)), ∀ v ∈ tcells P, v.oneCell' = true := by
  intro P v hv
  unfold tcells at hv
  obtain ⟨p, _, hp⟩ := List.mem_flatMap.1 hv
  simp only [pcells, hcells, List.mem_append, List.mem_cons, List.not_mem_nil, or_false] at hp
  rcases hp with (rfl | rfl | rfl) | (rfl | rfl | rfl) <;> rfl
theorem below_setRow {n : Nat} {w0 w : World} {g : Nat} (cs : Array Value) (h : Below n w0 w) (hg : n ≤ g) : Below n w0 (w.setRow g cs) :=
  h.trans ⟨rfl, rfl, rfl, by simp, fun k hk => setRow_other w g k cs (by omega)⟩
end Go.Proofs.Ytmfnjmecnhagmaa
