/- vcd: bytes of a literal, turned; bytes behind a full row. -/
import Derived.Test.YtmfnjmecnhagmaaOg
namespace Go.Proofs.Ytmfnjmecnhagmaa
open Go.RowKit Go.ChangeShapes Go.WideShapes Go.Shelf Go.Maps Go.Proofs.YtmfnjmecnhagmaaW.PrintWords Go.Proofs.YtmfnjmecnhagmaaW.PrintLast Go.Proofs.YtmfnjmecnhagmaaW.PrintMore Go.Proofs.Ytmfnjmecnhagmaa.Pr
set_option linter.unusedVariables false
set_option linter.unusedSimpArgs false
theorem conv_lit (w : World) (cs : Array Value) (n c : Nat) : (convert 34 34 (.slice (some ⟨w.heap.size, 0, none⟩) n c)).run Try.prog (w.alloc (.cells cs 5)) = .ok (.slice (some ⟨w.heap.size, 0, none⟩) n c) (w.alloc (.cells cs 5 (cs.size, cs.size + 1))) := by
  have hsh : (w.alloc (.cells cs 5)).shape? w.heap.size = some (5, cs.size) := by
    unfold World.shape?
    rw [blk_new w _]
  have hfr : (w.alloc (.cells cs 5)).freeze ⟨w.heap.size, cs.size, none⟩ 1 = w.alloc (.cells cs 5 (cs.size, cs.size + 1)) := by
    have hm : ∀ (a : Array Obj) (x : Obj) (f : Obj → Obj), (a.push x).modify a.size f = a.push (f x) := by
      intro a x f
      apply Array.ext
      · simp
      · intro i h1 h2
        simp only [Array.getElem_modify, Array.getElem_push]
        by_cases h : a.size = i
        · subst h
          simp
        · have hi : i < a.size := by simp at h1; omega
          simp [h, hi]
    unfold World.freeze
    rw [if_neg (by decide)]
    show ({ w.alloc (.cells cs 5) with heap := (w.heap.push (.cells cs 5)).modify w.heap.size _ } : World) = _
    rw [hm]
    rfl
  simp [convert, run_underlying Try.underlying34, run_underlying Try.underlying5, markStringish, hsh]
  rw [hfr]
theorem litC (w : World) (l : List Int) (n : Nat) (t : TypeId) (fr : Nat × Nat) (hl : l.length = n) (hn : n ≤ 140737488351232) : (Kd.int .u8).C (w.alloc (.cells (nums .u8 l).toArray t fr)) (some ⟨w.heap.size, 0, none⟩) n l := by
  subst hl
  refine Kd.C_of_reads (enc := Value.int .u8) (d := (0 : Int)) (h1 := fun _ => rfl) ⟨rfl, by omega, fun _ => ⟨_, rfl, fun j hj => ?_⟩⟩
  rw [Go.Proofs.YtmfnjmecnhagmaaW.PrintWords.add_plain, cell_of_row _ _ _ _ _ fr (blk_new w _)]
  simp [nums, hj]
theorem appFull {W : World} {a a2 : Addr} {n m c2 : Nat} {l ys : List Int} (h : (Kd.int .u8).C W (some a) n l) (hy : (Kd.int .u8).C W (some a2) m ys) (hm : 0 < m) (hl : n + m ≤ 1000000000) :
    ∃ c' w', (Builtin.append_ #[34, 34] 34 #[.slice (some a) n n, .slice (some a2) m c2]).run Try.prog W = .ok (.slice (some ⟨W.heap.size, 0, none⟩) (n + m) c') w' ∧ OB w' W.heap.size (.slice (some ⟨W.heap.size, 0, none⟩) (n + m) c') (l ++ ys) ∧ Below W.heap.size W w' := by
  have hn1 : l.length = n := h.1
  have hm1 : ys.length = m := hy.1
  obtain ⟨ht, hi0, hzs, hsz, hb0⟩ := eltB
  obtain ⟨i, hi, hz, hsize, hby⟩ := info_parts hi0
  obtain ⟨e1, e2, e3⟩ := Src.of_C h
  obtain ⟨f1, f2, f3⟩ := Src.of_C hy
  have holds : ∀ j u, (nums .u8 l)[j]? = some u → W.cell? (a.add j) = some u := fun j u hj => by obtain ⟨ad, e, hc⟩ := e2 j u hj; cases e; exact hc
  have hnews : ∀ j u, (nums .u8 ys)[j]? = some u → W.cell? (a2.add j) = some u := fun j u hj => by obtain ⟨ad, e, hc⟩ := f2 j u hj; cases e; exact hc
  have hr := run_append_grow (P := Try.prog) W 34 34 5 i (.int .u8 0) ht hi hz a n n (nums .u8 l) (by rw [hsize]; exact e1) holds a2 m c2 (nums .u8 ys) (by rw [hsize]; exact f1) hnews (by omega) (by omega) (by rw [hby]; have := nsc_le (need := n + m) (old := n) (by omega); omega)
  have hge := grownCap_ge W (n + m) n 5
  have hcm : grownCap W (n + m) n 5 ≤ maxLen := grownCap_le_maxLen W (n + m) n 5 (by simp only [maxLen]; omega)
  have hlen : (nums .u8 (l ++ ys)).length = (n + m) * 1 := by simp [nums, hn1, hm1]
  refine ⟨_, _, hr, ?_, ⟨rfl, rfl, rfl, by simp, fun k hk => Below.heap_alloc W.drew _ k hk⟩⟩
  rw [OB, List.length_append, hn1, hm1]
  refine ⟨hlen, .inr ⟨W.heap.size, _, _, rfl, Nat.le_refl _, heap_alloc_new W.drew _, hge, hcm, ?_, ?_⟩⟩
  · simp only [Array.size_append, List.size_toArray, size_zeroCells, nums, List.length_map, hn1, hm1, Value.cells]
    simp
    omega
  · rw [nums_append, ← hlen, nums_append]
    simp only [Array.toList_append]
    exact List.take_left
end Go.Proofs.Ytmfnjmecnhagmaa
