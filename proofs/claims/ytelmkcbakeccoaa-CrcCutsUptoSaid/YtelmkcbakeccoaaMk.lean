/- crc: make of bytes. -/
import Derived.Test.YtelmkcbakeccoaaOb
namespace Go.Proofs.Ytelmkcbakeccoaa
open Go.RowKit Go.Proofs.YtelmkcbakeccoaaW.PrintWords Go.Proofs.YtelmkcbakeccoaaW.PrintLast Go.Proofs.YtelmkcbakeccoaaW.PrintMore
set_option linter.unusedVariables false
set_option linter.unusedSimpArgs false
theorem zeros_mem (n : Nat) : ∀ x ∈ List.replicate n (0 : Int), 0 ≤ x ∧ x ≤ 255 := by
  intro x hx
  rw [(List.mem_replicate.1 hx).2]
  omega
theorem wpList_makeB {w : World} {ops : Array Oper} {rest : List Oper} {o : Oper} {a : Act} {Q : Exit → Act → World → Prop} (hg : o.guard = none) (l c : Operand) (hop : o.op = Op.makeSlice 23 l c)
    (n : Nat) (hl : a.eval l = .int .i64 n) (hc : a.eval c = .int .i64 n) (hn : n ≤ 140737488351232)
    (h : ∀ w', Hd (OB w' w.heap.size (.slice (some ⟨w.heap.size, 0, none⟩) n n) (List.replicate n 0)) → Hd (Bs w' (some ⟨w.heap.size, 0, none⟩) n n (List.replicate n 0)) → Hd (Below w.heap.size w w') → wpList Try.prog ops Q rest (a.put o.dst (.slice (some ⟨w.heap.size, 0, none⟩) n n)) w') :
    wpList Try.prog ops Q (o :: rest) a w := by
  obtain ⟨i0, hi, hz0, hz1, hz2⟩ := info_parts eltB.hi
  refine wpList_make_full w hg l c _ hop w.heap.size 5 i0 (.int .u8 0) 1 Try.underlying23 hi hz0 hz1 .i64 .i64 _ _ n hl hc rfl rfl (by rw [hz2]; omega) (by simp only [maxLen]; omega) (Nat.le_refl _) ?_
  intro w1 h1 h2
  have e : (madeCells (Value.int .u8 0).cells (n * 1)).toList = nums .u8 (List.replicate n 0) := by
    apply List.ext_getElem
    · simp [madeCells, nums]
    · intro i h1 h2
      simp [madeCells, Value.cells, Nat.mod_one, nums]
  rw [e] at h1
  have hO : OB w1 w.heap.size (.slice (some ⟨w.heap.size, 0, none⟩) n n) (List.replicate n 0) := by
    rw [OB, List.length_replicate]
    exact h1
  have hb : Bs w1 (some ⟨w.heap.size, 0, none⟩) n n (List.replicate n 0) := by
    obtain ⟨A, c, e, hb⟩ := OB.bs hO (zeros_mem n)
    rw [List.length_replicate] at e hb
    cases e
    exact hb
  exact h w1 ⟨hO⟩ ⟨hb⟩ ⟨(Below.refl _ _).grown h2 (Nat.le_refl _) (fun k e => by cases e)⟩
end Go.Proofs.Ytelmkcbakeccoaa
