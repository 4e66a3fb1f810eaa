/- cutter: what Join makes, in memory. -/
import Derived.Test.YtinlfoblpgpikaaWs
namespace Go.Proofs.Ytinlfoblpgpikaa
open Go.RowKit Go.Shelf Go.Proofs.YtinlfoblpgpikaaW.PrintWords Go.Proofs.YtinlfoblpgpikaaW.PrintLast Go.Proofs.YtinlfoblpgpikaaW.PrintMore Go.Proofs.Ytinlfoblpgpikaa.Pr
set_option linter.unusedVariables false
set_option linter.unusedSimpArgs false
/-- The edit that is being joined: its block g1, the answer's block g0. -/
structure JB (w0 : World) (g0 g1 : Nat) (W : World) (s d x : Value) (sl : List S82) (dl xl : List Int) : Prop where
  b0 : W.heap[g0]? = some (.cells #[.slice none 0 0, .slice none 0 0, .slice none 0 0] 29 (0, 0))
  b1 : W.heap[g1]? = some (.cells #[s, d, x] 29 (0, 0))
  h0 : w0.heap.size ≤ g0
  h1 : w0.heap.size ≤ g1
  hne : g0 ≠ g1
  ne : Dj d x
  s : OS 82 W w0.heap.size s sl
  d : OB W w0.heap.size d dl
  x : OB W w0.heap.size x xl
  be : Below w0.heap.size w0 W
section
variable {w0 : World} {g0 g1 : Nat} {W W' : World} {s d x : Value} {sl : List S82} {dl xl : List Int}
theorem JB.below (h : JB w0 g0 g1 W s d x sl dl xl) (hb : Below W.heap.size W W') : JB w0 g0 g1 W' s d x sl dl xl :=
  ⟨blk_below h.b0 hb, blk_below h.b1 hb, h.h0, h.h1, h.hne, h.ne, pw_own_below h.s hb, pw_own_below h.d hb, pw_own_below h.x hb, below_step h.be hb⟩
theorem JB.le (h : JB w0 g0 g1 W s d x sl dl xl) : w0.heap.size ≤ W.heap.size := h.be.size
theorem JB.pushS (h : JB w0 g0 g1 W s d x sl dl xl) {g : Nat} {ty : TypeId} {t : S82} (hg : W.heap[g]? = some (.cells #[.int .i64 t.f0, .int .i64 t.f1, .int .i64 t.f2] ty)) (hl : sl.length ≤ 5864062014805) :
    ∃ A c w1, (Builtin.append_ #[27, 27] 27 #[s, .slice (some ⟨g, 0, none⟩) 1 1]).run Try.prog W = .ok (.slice A (sl.length + 1) c) w1 ∧
      w1.heap[g1]? = some (.cells #[s, d, x] 29 (0, 0)) ∧ JB w0 g0 g1 (w1.setCell ⟨g1, 0, none⟩ (.slice A (sl.length + 1) c)) (.slice A (sl.length + 1) c) d x (sl ++ [t]) dl xl ∧
      ∀ q cs ty', W.heap[q]? = some (.cells cs ty' (0, 0)) → q ≠ g1 → ty' ≠ 82 → (w1.setCell ⟨g1, 0, none⟩ (.slice A (sl.length + 1) c)).heap[q]? = some (.cells cs ty' (0, 0)) := by
  obtain ⟨v', w1, hrun, ho, hgr⟩ := _root_.Go.Proofs.Ytinlfoblpgpikaa.pushS (s := t) elt82 h.s h.le hg hl
  obtain ⟨A, c, rfl⟩ := ho.form (n := sl.length + 1) (by rw [List.length_append]; rfl)
  have hb1 := blk_grown h.b1 hgr (own_ne h.s h.b1 (by decide))
  have hb0 := blk_grown h.b0 hgr (own_ne h.s h.b0 (by decide))
  have e := blk_set hb1 0 (.slice A (sl.length + 1) c)
  have hd := own_other h.d hgr (own_type_ne h.d h.s (by decide))
  have hx := own_other h.x hgr (own_type_ne h.x h.s (by decide))
  refine ⟨A, c, w1, hrun, hb1, ⟨(Below.heap_setCell w1 ⟨g1, 0, none⟩ _ g0 h.hne).trans hb0, by simpa using e, h.h0, h.h1, h.hne, h.ne, ?_, ?_, ?_, (h.be.grown hgr h.le (own_base h.s)).setCell h.h1 _⟩, fun q cs ty' hq hq1 hty => ?_⟩
  · exact own_setCell ho (p := ⟨g1, 0, none⟩) (own_ne ho hb1 (by decide)) _
  · exact own_setCell hd (p := ⟨g1, 0, none⟩) (own_ne hd hb1 (by decide)) _
  · exact own_setCell hx (p := ⟨g1, 0, none⟩) (own_ne hx hb1 (by decide)) _
  · exact (Below.heap_setCell w1 ⟨g1, 0, none⟩ _ q hq1).trans (blk_grown hq hgr (own_ne h.s hq (fun e => hty e.symm)))
end
end Go.Proofs.Ytinlfoblpgpikaa
