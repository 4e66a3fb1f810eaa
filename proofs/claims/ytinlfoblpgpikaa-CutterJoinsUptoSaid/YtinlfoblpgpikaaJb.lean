/- cutter: what Join makes, in memory. -/
import Derived.Test.YtinlfoblpgpikaaWs
namespace Go.Proofs.Ytinlfoblpgpikaa
open Go.RowKit Go.Shelf Go.Proofs.YtinlfoblpgpikaaW.PrintWords Go.Proofs.YtinlfoblpgpikaaW.PrintLast Go.Proofs.YtinlfoblpgpikaaW.PrintMore Go.Proofs.Ytinlfoblpgpikaa.Pr
set_option linter.unusedVariables false
set_option linter.unusedSimpArgs false
/-- The edit that is being joined: its block g1, the answer's block g0. -/
structure JB (w0 : World) (g0 g1 : Nat) (W : World) (s d x : Value) (sl : List S82) (dl xl : List Int) : Prop where
  b0 : W.heap[g0]? = some (.cells #[.slice none 0 0, .slice none 0 0, .slice none 0 0] 29 (0, 0))
  b1 : W.heap[g1]? = some (.cells #[s, d, x] 29 (0, 0))
  h0 : w0.heap.size ≤ g0
  h1 : w0.heap.size ≤ g1
  hne : g0 ≠ g1
  ne : Dj d x
  s : OS 82 W w0.heap.size s sl
  d : OB W w0.heap.size d dl
  x : OB W w0.heap.size x xl
  be : Below w0.heap.size w0 W
section
variable {w0 : World} {g0 g1 : Nat} {W W' : World} {s d x : Value} {sl : List S82} {dl xl : List Int}
theorem JB.below (h : JB w0 g0 g1 W s d x sl dl xl) (hb : Below W.heap.size W W') : JB w0 g0 g1 W' s d x sl dl xl :=
  ⟨blk_below h.b0 hb, blk_below h.b1 hb, h.h0, h.h1, h.hne, h.ne, pw_own_below h.s hb, pw_own_below h.d hb, pw_own_below h.x hb, below_step h.be hb⟩
theorem JB.le (h : JB w0 g0 g1 W s d x sl dl xl) : w0.heap.size ≤ W.heap.size := h.be.size
theorem JB.pushS (h : JB w0 g0 g1 W s d x sl dl xl) {g : Nat} {ty : TypeId} {t : S82} (hg : W.heap[g]? = some (.cells #[.int .i64 t.f0, .int .i64 t.f1, .int .i64 t.f2] ty)) (hl : sl.length ≤ 5864062014805) :
    ∃ A c w1, (Builtin.append_ #[27, 27] 27 #[s, .slice (some ⟨g, 0, none⟩) 1 1]).run Try.prog W = .ok (.slice A (sl.length + 1) c) w1 ∧
      w1.heap[g1]? = some (.cells #[s, d, x] 29 (0, 0)) ∧ JB w0 g0 g1 (w1.setCell ⟨g1, 0, none⟩ (.slice A (sl.length + 1) c)) (.slice A (sl.length + 1) c) d x (sl ++ [t]) dl xl ∧
      ∀ q cs ty', W.heap[q]? = some (.cells cs ty' (0, 0)) → q ≠ g1 → ty' ≠ 82 → (w1.setCell ⟨g1, 0, none⟩ (.slice A (sl.length + 1) c)).heap[q]? = some (.cells cs ty' (0, 0)) := by
  obtain ⟨v', w1, hrun, ho, hgr⟩ := _root_.Go.Proofs.Ytinlfoblpgpikaa.pushS (s := t) elt82 h.s h.le hg hl
  obtain ⟨A, c, rfl⟩ := ho.form (n := sl.length + 1) (by rw [List.length_append]; rfl)
  have hb1 := blk_grown h.b1 hgr (own_ne h.s h.b1 (by decide))
  have hb0 := blk_grown h.b0 hgr (own_ne h.s h.b0 (by decide))
  have e := blk_set hb1 0 (.slice A (sl.length + 1) c)
  have hd := own_other h.d hgr (own_type_ne h.d h.s (by decide))
  have hx := own_other h.x hgr (own_type_ne h.x h.s (by decide))
  refine ⟨A, c, w1, hrun, hb1, ⟨(Below.heap_setCell w1 ⟨g1, 0, none⟩ _ g0 h.hne).trans hb0, by simpa using e, h.h0, h.h1, h.hne, h.ne, ?_, ?_, ?_, (h.be.grown hgr h.le (own_base h.s)).setCell h.h1 _⟩, fun q cs ty' hq hq1 hty => ?_⟩
  · exact own_setCell ho (p := ⟨g1, 0, none⟩) (own_ne ho hb1 (by decide)) _
  · exact own_setCell hd (p := ⟨g1, 0, none⟩) (own_ne hd hb1 (by decide)) _
  · exact own_setCell hx (p := ⟨g1, 0, none⟩) (own_ne hx hb1 (by decide)) _
  · exact (Below.heap_setCell w1 ⟨g1, 0, none⟩ _ q hq1).trans (blk_grown hq hgr (own_ne h.s hq (fun e => hty e.symm)))
theorem JB.addD (h : JB w0 g0 g1 W s d x sl dl xl) {A : Option Addr} {m c : Nat} {ys : List Int} (hy : (Kd.int .u8).C W A m ys) (hl : dl.length + m ≤ 200000000000000) :
    ∃ A' c' w1, (Builtin.append_ #[24, 24] 24 #[d, .slice A m c]).run Try.prog W = .ok (.slice A' (dl.length + m) c') w1 ∧
      w1.heap[g1]? = some (.cells #[s, d, x] 29 (0, 0)) ∧ JB w0 g0 g1 (w1.setCell ⟨g1, 1, none⟩ (.slice A' (dl.length + m) c')) s (.slice A' (dl.length + m) c') x sl (dl ++ ys) xl ∧
      ∀ q cs ty', W.heap[q]? = some (.cells cs ty' (0, 0)) → q ≠ g1 → ty' ≠ 5 → (w1.setCell ⟨g1, 1, none⟩ (.slice A' (dl.length + m) c')).heap[q]? = some (.cells cs ty' (0, 0)) := by
  obtain ⟨v', w1, hrun, ho, hgr, hp, _⟩ := run_app (P := Try.prog) W w0.heap.size 24 24 5 (.int .u8 0) 1 1 eltB d _ _ h.d A m c _ (Src.of_C hy) (by omega) h.le
  obtain ⟨A', c', rfl⟩ := own_slice ho
  have ho2 : OB w1 w0.heap.size (.slice A' (dl.length + m) c') (dl ++ ys) := OB.snoc ho (by rw [hy.1])
  have hb1 := blk_grown h.b1 hgr (own_ne h.d h.b1 (by decide))
  have hb0 := blk_grown h.b0 hgr (own_ne h.d h.b0 (by decide))
  have e := blk_set hb1 1 (.slice A' (dl.length + m) c')
  have hs := own_other h.s hgr (own_type_ne h.s h.d (by decide))
  have hx := own_other h.x hgr (by
    cases hq : x.ownBlock with
    | none => exact .inl rfl
    | some g => exact .inr (fun e => h.ne g e.symm hq))
  have hlt := own_lt h.x
  have hnew : ∀ k, (Value.slice A' (dl.length + m) c').ownBlock = some k → x.ownBlock ≠ some k := by
    intro k hk hk2
    rcases hp.block with e | e
    · rw [e] at hk
      exact h.ne k hk hk2
    · rw [e] at hk
      cases hk
      exact absurd (hlt _ hk2) (Nat.lt_irrefl _)
  refine ⟨A', c', w1, hrun, hb1, ⟨(Below.heap_setCell w1 ⟨g1, 1, none⟩ _ g0 h.hne).trans hb0, by simpa using e, h.h0, h.h1, h.hne, hnew, ?_, ?_, ?_, (h.be.grown hgr h.le (own_base h.d)).setCell h.h1 _⟩, fun q cs ty' hq hq1 hty => ?_⟩
  · exact own_setCell hs (p := ⟨g1, 1, none⟩) (own_ne hs hb1 (by decide)) _
  · exact own_setCell ho2 (p := ⟨g1, 1, none⟩) (own_ne ho2 hb1 (by decide)) _
  · exact own_setCell hx (p := ⟨g1, 1, none⟩) (own_ne hx hb1 (by decide)) _
  · exact (Below.heap_setCell w1 ⟨g1, 1, none⟩ _ q hq1).trans (blk_grown hq hgr (own_ne h.d hq (fun e => hty e.symm)))
theorem JB.addX (h : JB w0 g0 g1 W s d x sl dl xl) {A : Option Addr} {m c : Nat} {ys : List Int} (hy : (Kd.int .u8).C W A m ys) (hl : xl.length + m ≤ 200000000000000) :
    ∃ A' c' w1, (Builtin.append_ #[24, 24] 24 #[x, .slice A m c]).run Try.prog W = .ok (.slice A' (xl.length + m) c') w1 ∧
      w1.heap[g1]? = some (.cells #[s, d, x] 29 (0, 0)) ∧ JB w0 g0 g1 (w1.setCell ⟨g1, 2, none⟩ (.slice A' (xl.length + m) c')) s d (.slice A' (xl.length + m) c') sl dl (xl ++ ys) ∧
      ∀ q cs ty', W.heap[q]? = some (.cells cs ty' (0, 0)) → q ≠ g1 → ty' ≠ 5 → (w1.setCell ⟨g1, 2, none⟩ (.slice A' (xl.length + m) c')).heap[q]? = some (.cells cs ty' (0, 0)) := by
  obtain ⟨v', w1, hrun, ho, hgr, hp, _⟩ := run_app (P := Try.prog) W w0.heap.size 24 24 5 (.int .u8 0) 1 1 eltB x _ _ h.x A m c _ (Src.of_C hy) (by omega) h.le
  obtain ⟨A', c', rfl⟩ := own_slice ho
  have ho2 : OB w1 w0.heap.size (.slice A' (xl.length + m) c') (xl ++ ys) := OB.snoc ho (by rw [hy.1])
  have hb1 := blk_grown h.b1 hgr (own_ne h.x h.b1 (by decide))
  have hb0 := blk_grown h.b0 hgr (own_ne h.x h.b0 (by decide))
  have e := blk_set hb1 2 (.slice A' (xl.length + m) c')
  have hs := own_other h.s hgr (own_type_ne h.s h.x (by decide))
  have hx := own_other h.d hgr (by
    cases hq : d.ownBlock with
    | none => exact .inl rfl
    | some g => exact .inr (fun e => h.ne g hq e.symm))
  have hlt := own_lt h.d
  have hnew : ∀ k, (Value.slice A' (xl.length + m) c').ownBlock = some k → d.ownBlock ≠ some k := by
    intro k hk hk2
    rcases hp.block with e | e
    · rw [e] at hk
      exact h.ne k hk2 hk
    · rw [e] at hk
      cases hk
      exact absurd (hlt _ hk2) (Nat.lt_irrefl _)
  refine ⟨A', c', w1, hrun, hb1, ⟨(Below.heap_setCell w1 ⟨g1, 2, none⟩ _ g0 h.hne).trans hb0, by simpa using e, h.h0, h.h1, h.hne, fun k hk hk2 => hnew k hk2 hk, ?_, ?_, ?_, (h.be.grown hgr h.le (own_base h.x)).setCell h.h1 _⟩, fun q cs ty' hq hq1 hty => ?_⟩
  · exact own_setCell hs (p := ⟨g1, 2, none⟩) (own_ne hs hb1 (by decide)) _
  · exact own_setCell hx (p := ⟨g1, 2, none⟩) (own_ne hx hb1 (by decide)) _
  · exact own_setCell ho2 (p := ⟨g1, 2, none⟩) (own_ne ho2 hb1 (by decide)) _
  · exact (Below.heap_setCell w1 ⟨g1, 2, none⟩ _ q hq1).trans (blk_grown hq hgr (own_ne h.x hq (fun e => hty e.symm)))
end
end Go.Proofs.Ytinlfoblpgpikaa
