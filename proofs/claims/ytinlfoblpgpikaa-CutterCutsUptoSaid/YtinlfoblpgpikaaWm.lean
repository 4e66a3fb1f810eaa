/- cutter: the window that is being made, in memory: its lists, and what becomes of them. (Turned from edit/Mk.) -/
import Derived.Test.YtinlfoblpgpikaaBs
namespace Go.Proofs.Ytinlfoblpgpikaa
open Go.RowKit Go.Shelf Go.Proofs.YtinlfoblpgpikaaW.PrintWords Go.Proofs.YtinlfoblpgpikaaW.PrintLast Go.Proofs.YtinlfoblpgpikaaW.PrintMore Go.Proofs.Ytinlfoblpgpikaa.Pr
set_option linter.unusedVariables false
set_option linter.unusedSimpArgs false
/-- What a window holds beside its lists: where it begins, how many bytes, where the next byte must stand, has one been added. -/
structure Wx where
  pos : Int
  sz : Int
  at_ : Int
  any : Bool
def MS (Bm : Nat) (s d x : Value) (k : Nat) : Prop := k = Bm ∨ s.ownBlock = some k ∨ d.ownBlock = some k ∨ x.ownBlock = some k
structure Mkr (base : Nat) (W : World) (Bm : Nat) (s d x : Value) (sl : List S82) (dl xl : List Int) (a : Wx) : Prop where
  b : W.heap[Bm]? = some (.cells #[.int .i64 a.pos, s, d, x, .int .i64 a.sz, .int .i64 a.at_, .bool a.any] 86 (0, 0))
  hb : base ≤ Bm
  rs : W.ownsRow base 82 3 s sl.length (cells82 sl)
  rd : W.ownsRow base 5 1 d dl.length (nums .u8 dl)
  rx : W.ownsRow base 5 1 x xl.length (nums .u8 xl)
  ne : ∀ g, d.ownBlock = some g → x.ownBlock ≠ some g
theorem Mkr.le {base : Nat} {W : World} {Bm : Nat} {s d x : Value} {sl : List S82} {dl xl : List Int} {a : Wx} (h : Mkr base W Bm s d x sl dl xl a) : base ≤ W.heap.size := by
  have := blk_lt h.b
  have := h.hb
  omega
/-- The maker, with what has been done since W0, Wk; Z: blocks beside it. -/
structure Mq (base : Nat) (W0 : World) (S0 : Nat → Prop) (Z : List (Nat × Obj)) (Wk W : World) (Bm : Nat) (s d x : Value) (sl : List S82) (dl xl : List Int) (a : Wx) : Prop where
  m : Mkr base W Bm s d x sl dl xl a
  u : Upd S0 W0 W
  k : ∀ k, MS Bm s d x k → S0 k ∨ W0.heap.size ≤ k
  z : ∀ q ∈ Z, W.heap[q.1]? = some q.2 ∧ ¬ MS Bm s d x q.1
  ko : KeepsOthers Wk W
theorem own_cells {w : World} {base : Nat} {e : TypeId} {size n : Nat} {v : Value} {xs : List Value} (h : w.ownsRow base e size v n xs) {j : Nat} {o : Obj} (ej : v.ownBlock = some j) (hj : w.heap[j]? = some o) : o.isCells = true := by
  rcases h.2 with ⟨rfl, _⟩ | ⟨g, cap, cur, rfl, _, hh, _⟩
  · simp [Value.ownBlock] at ej
  · have : g = j := by simpa [Value.ownBlock] using ej
    subst this
    rw [hh] at hj
    cases hj
    rfl
theorem KeepsOthers.of_below' {W W' : World} (h : Below W.heap.size W W') : KeepsOthers W W' := by
  refine ⟨h.size, fun k o hk _ => ?_⟩
  exact (h.block k (Array.getElem?_eq_some_iff.1 hk).1).trans hk
section
variable {base : Nat} {W0 : World} {S0 : Nat → Prop} {Z : List (Nat × Obj)} {Wk W W' : World} {Bm : Nat} {s d x : Value} {sl : List S82} {dl xl : List Int} {a : Wx}
theorem Mq.reset (h : Mq base W0 S0 Z Wk W Bm s d x sl dl xl a) : Mq base W0 S0 Z W W Bm s d x sl dl xl a := ⟨h.m, h.u, h.k, h.z, KeepsOthers.refl _⟩
theorem Mq.lt (h : Mq base W0 S0 Z Wk W Bm s d x sl dl xl a) : ∀ k, MS Bm s d x k → k < W.heap.size := by
  intro k hk
  rcases hk with rfl | hk | hk | hk
  · exact blk_lt h.m.b
  · exact own_lt h.m.rs k hk
  · exact own_lt h.m.rd k hk
  · exact own_lt h.m.rx k hk
theorem Mq.below (h : Mq base W0 S0 Z Wk W Bm s d x sl dl xl a) (hb : Below W.heap.size W W') : Mq base W0 S0 Z Wk W' Bm s d x sl dl xl a := by
  refine ⟨⟨blk_below h.m.b hb, h.m.hb, pw_own_below h.m.rs hb, pw_own_below h.m.rd hb, pw_own_below h.m.rx hb, h.m.ne⟩, h.u.trans (S' := fun _ => False) (Upd.of_below hb) (fun _ _ h => h.elim), h.k, fun q hq => ?_, h.ko.trans (KeepsOthers.of_below' hb)⟩
  exact ⟨blk_below (h.z q hq).1 hb, (h.z q hq).2⟩
theorem Mq.add (h : Mq base W0 S0 Z Wk W Bm s d x sl dl xl a) (o : Obj) : Mq base W0 S0 ((W.heap.size, o) :: Z) Wk (W.alloc o) Bm s d x sl dl xl a := by
  have h2 := h.below ((Below.refl W.heap.size W).alloc (Nat.le_refl _) o)
  refine ⟨h2.m, h2.u, h2.k, fun q hq => ?_, h2.ko⟩
  rcases List.mem_cons.1 hq with rfl | hq
  · refine ⟨blk_new W o, fun hk => ?_⟩
    have := h.lt _ hk
    simp at this
  · exact h2.z q hq
theorem Mq.less {Z' : List (Nat × Obj)} (h : Mq base W0 S0 Z Wk W Bm s d x sl dl xl a) (hs : ∀ q ∈ Z', q ∈ Z) : Mq base W0 S0 Z' Wk W Bm s d x sl dl xl a := ⟨h.m, h.u, h.k, fun q hq => h.z q (hs q hq), h.ko⟩
/-- A store into the maker's own blocks. -/
theorem Mq.store {p : Addr} {u : Value} {s' d' x' : Value} {sl' : List S82} {dl' xl' : List Int} {a' : Wx} (h : Mq base W0 S0 Z Wk W Bm s d x sl dl xl a) (hp : MS Bm s d x p.block)
    (hs : ∀ k, MS Bm s' d' x' k → MS Bm s d x k) (hm : Mkr base (W.setCell p u) Bm s' d' x' sl' dl' xl' a') : Mq base W0 S0 Z Wk (W.setCell p u) Bm s' d' x' sl' dl' xl' a' := by
  refine ⟨hm, h.u.setCell p (h.k _ hp) u, fun k hk => h.k k (hs k hk), fun q hq => ?_, h.ko.trans (KeepsOthers.setCell _ _ _)⟩
  obtain ⟨h1, h2⟩ := h.z q hq
  have hne : q.1 ≠ p.block := fun e => h2 (by rw [e]; exact hp)
  exact ⟨(Below.heap_setCell W p u q.1 hne).trans h1, fun hk => h2 (hs _ hk)⟩
theorem Mq.setPos (h : Mq base W0 S0 Z Wk W Bm s d x sl dl xl a) (v : Int) : Mq base W0 S0 Z Wk (W.setCell ⟨Bm, 0, none⟩ (.int .i64 v)) Bm s d x sl dl xl ⟨v, a.sz, a.at_, a.any⟩ := by
  have e := blk_set h.m.b 0 (.int .i64 v)
  have e' : (W.setCell ⟨Bm, 0, none⟩ (.int .i64 v)).heap[Bm]? = some (.cells #[.int .i64 v, s, d, x, .int .i64 a.sz, .int .i64 a.at_, .bool a.any] 86 (0, 0)) := by simpa using e
  refine h.store (.inl rfl) (fun _ hk => hk) ⟨e', h.m.hb, ?_, ?_, ?_, h.m.ne⟩
  · exact own_setCell h.m.rs (p := ⟨Bm, 0, none⟩) (own_ne h.m.rs h.m.b (by decide)) _
  · exact own_setCell h.m.rd (p := ⟨Bm, 0, none⟩) (own_ne h.m.rd h.m.b (by decide)) _
  · exact own_setCell h.m.rx (p := ⟨Bm, 0, none⟩) (own_ne h.m.rx h.m.b (by decide)) _
theorem Mq.setSz (h : Mq base W0 S0 Z Wk W Bm s d x sl dl xl a) (v : Int) : Mq base W0 S0 Z Wk (W.setCell ⟨Bm, 4, none⟩ (.int .i64 v)) Bm s d x sl dl xl ⟨a.pos, v, a.at_, a.any⟩ := by
  have e := blk_set h.m.b 4 (.int .i64 v)
  have e' : (W.setCell ⟨Bm, 4, none⟩ (.int .i64 v)).heap[Bm]? = some (.cells #[.int .i64 a.pos, s, d, x, .int .i64 v, .int .i64 a.at_, .bool a.any] 86 (0, 0)) := by simpa using e
  refine h.store (.inl rfl) (fun _ hk => hk) ⟨e', h.m.hb, ?_, ?_, ?_, h.m.ne⟩
  · exact own_setCell h.m.rs (p := ⟨Bm, 4, none⟩) (own_ne h.m.rs h.m.b (by decide)) _
  · exact own_setCell h.m.rd (p := ⟨Bm, 4, none⟩) (own_ne h.m.rd h.m.b (by decide)) _
  · exact own_setCell h.m.rx (p := ⟨Bm, 4, none⟩) (own_ne h.m.rx h.m.b (by decide)) _
theorem Mq.setAt (h : Mq base W0 S0 Z Wk W Bm s d x sl dl xl a) (v : Int) : Mq base W0 S0 Z Wk (W.setCell ⟨Bm, 5, none⟩ (.int .i64 v)) Bm s d x sl dl xl ⟨a.pos, a.sz, v, a.any⟩ := by
  have e := blk_set h.m.b 5 (.int .i64 v)
  have e' : (W.setCell ⟨Bm, 5, none⟩ (.int .i64 v)).heap[Bm]? = some (.cells #[.int .i64 a.pos, s, d, x, .int .i64 a.sz, .int .i64 v, .bool a.any] 86 (0, 0)) := by simpa using e
  refine h.store (.inl rfl) (fun _ hk => hk) ⟨e', h.m.hb, ?_, ?_, ?_, h.m.ne⟩
  · exact own_setCell h.m.rs (p := ⟨Bm, 5, none⟩) (own_ne h.m.rs h.m.b (by decide)) _
  · exact own_setCell h.m.rd (p := ⟨Bm, 5, none⟩) (own_ne h.m.rd h.m.b (by decide)) _
  · exact own_setCell h.m.rx (p := ⟨Bm, 5, none⟩) (own_ne h.m.rx h.m.b (by decide)) _
theorem Mq.setAny (h : Mq base W0 S0 Z Wk W Bm s d x sl dl xl a) (v : Bool) : Mq base W0 S0 Z Wk (W.setCell ⟨Bm, 6, none⟩ (.bool v)) Bm s d x sl dl xl ⟨a.pos, a.sz, a.at_, v⟩ := by
  have e := blk_set h.m.b 6 (.bool v)
  have e' : (W.setCell ⟨Bm, 6, none⟩ (.bool v)).heap[Bm]? = some (.cells #[.int .i64 a.pos, s, d, x, .int .i64 a.sz, .int .i64 a.at_, .bool v] 86 (0, 0)) := by simpa using e
  refine h.store (.inl rfl) (fun _ hk => hk) ⟨e', h.m.hb, ?_, ?_, ?_, h.m.ne⟩
  · exact own_setCell h.m.rs (p := ⟨Bm, 6, none⟩) (own_ne h.m.rs h.m.b (by decide)) _
  · exact own_setCell h.m.rd (p := ⟨Bm, 6, none⟩) (own_ne h.m.rd h.m.b (by decide)) _
  · exact own_setCell h.m.rx (p := ⟨Bm, 6, none⟩) (own_ne h.m.rx h.m.b (by decide)) _
end
/-! The last step. -/
def getf (t : S82) : Nat → Int
  | 0 => t.f0
  | 1 => t.f1
  | _ => t.f2
def setf (t : S82) : Nat → Int → S82
  | 0, v => ⟨v, t.f1, t.f2⟩
  | 1, v => ⟨t.f0, v, t.f2⟩
  | _, v => ⟨t.f0, t.f1, v⟩
theorem cells82_snoc (dn : List S82) (t : S82) : cells82 (dn ++ [t]) = cells82 dn ++ [.int .i64 t.f0, .int .i64 t.f1, .int .i64 t.f2] := by simp [cells82]
theorem cells82_put (dn : List S82) (t : S82) (j : Nat) (hj : j < 3) (v : Int) : (cells82 (dn ++ [t])).set (dn.length * 3 + j) (.int .i64 v) = cells82 (dn ++ [setf t j v]) := by
  rw [cells82_snoc, cells82_snoc, List.set_append_right _ _ (by rw [cells82_len]; omega), cells82_len, Nat.add_sub_cancel_left]
  match j, hj with
  | 0, _ => rfl
  | 1, _ => rfl
  | 2, _ => rfl
theorem cells82_get (dn : List S82) (t : S82) (j : Nat) (hj : j < 3) : (cells82 (dn ++ [t]))[dn.length * 3 + j]? = some (.int .i64 (getf t j)) := by
  rw [cells82_snoc, List.getElem?_append_right (by rw [cells82_len]; omega), cells82_len, Nat.add_sub_cancel_left]
  match j, hj with
  | 0, _ => rfl
  | 1, _ => rfl
  | 2, _ => rfl
section
variable {base : Nat} {W0 : World} {S0 : Nat → Prop} {Z : List (Nat × Obj)} {Wk W W' : World} {Bm : Nat} {s d x : Value} {sl dn : List S82} {t : S82} {dl xl : List Int} {a : Wx} {g c : Nat}
theorem Mq.form (h : Mq base W0 S0 Z Wk W Bm s d x (dn ++ [t]) dl xl a) : ∃ g c, s = .slice (some ⟨g, 0, none⟩) (dn.length + 1) c := by
  obtain ⟨g, cap, he, _⟩ := World.ownsRow.form h.m.rs (by simp)
  exact ⟨g, cap, by rw [he]; simp⟩
theorem own_last {base : Nat} {W : World} {v : Value} {dn : List S82} {t : S82} (h : W.ownsRow base 82 3 v (dn ++ [t]).length (cells82 (dn ++ [t]))) : W.ownsRow base 82 3 v (dn.length + 1) (cells82 (dn ++ [t])) := by
  rw [List.length_append, List.length_cons, List.length_nil, Nat.zero_add] at h
  exact h
theorem Mq.at_ (h : Mq base W0 S0 Z Wk W Bm (.slice (some ⟨g, 0, none⟩) (dn.length + 1) c) d x (dn ++ [t]) dl xl a) (j : Nat) (hj : j < 3) :
    W.cell? ⟨g, dn.length * 3 + j, none⟩ = some (.int .i64 (getf t j)) ∧ W.frozen? ⟨g, dn.length * 3 + j, none⟩ = false := by
  refine ⟨?_, World.ownsRow.frozenAt (own_last h.m.rs) _⟩
  rw [World.ownsRow.cellAt (own_last h.m.rs) _ (by omega)]
  exact cells82_get dn t j hj
theorem Mq.poke (h : Mq base W0 S0 Z Wk W Bm (.slice (some ⟨g, 0, none⟩) (dn.length + 1) c) d x (dn ++ [t]) dl xl a) (j : Nat) (hj : j < 3) (v : Int) :
    Mq base W0 S0 Z Wk (W.setCell ⟨g, dn.length * 3 + j, none⟩ (.int .i64 v)) Bm (.slice (some ⟨g, 0, none⟩) (dn.length + 1) c) d x (dn ++ [setf t j v]) dl xl a := by
  have hgb : g ≠ Bm := by
    have := own_ne h.m.rs h.m.b (by decide)
    intro e
    exact this (by rw [e]; rfl)
  have hs := (World.ownsRow.stored (own_last h.m.rs) (dn.length * 3 + j) (.int .i64 v)).1
  rw [cells82_put dn t j hj v] at hs
  have hd := own_type_ne h.m.rd h.m.rs (by decide)
  have hx := own_type_ne h.m.rx h.m.rs (by decide)
  refine h.store (p := ⟨g, dn.length * 3 + j, none⟩) (.inr (.inl rfl)) (fun _ hk => hk) ⟨(Below.heap_setCell W _ _ Bm (Ne.symm hgb)).trans h.m.b, h.m.hb, by simpa using hs, ?_, ?_, h.m.ne⟩
  · refine own_setCell h.m.rd (p := ⟨g, dn.length * 3 + j, none⟩) (fun e => ?_) _
    rcases hd with hd | hd
    · rw [hd] at e; cases e
    · exact hd (by rw [← e]; rfl)
  · refine own_setCell h.m.rx (p := ⟨g, dn.length * 3 + j, none⟩) (fun e => ?_) _
    rcases hx with hx | hx
    · rw [hx] at e; cases e
    · exact hx (by rw [← e]; rfl)
theorem Mq.newS (h : Mq base W0 S0 Z Wk W Bm s d x sl dl xl a) (hn : sl.length ≤ 20000000) : ∃ A c w1,
    (Builtin.append_ #[27, 27] 27 #[s, .slice (some ⟨W.heap.size, 0, none⟩) 1 1]).run Try.prog (W.alloc (.cells #[.int .i64 0, .int .i64 0, .int .i64 0] 82)) = .ok (.slice A (sl.length + 1) c) w1 ∧
      w1.heap[Bm]? = some (.cells #[.int .i64 a.pos, s, d, x, .int .i64 a.sz, .int .i64 a.at_, .bool a.any] 86 (0, 0)) ∧ Mq base W0 S0 Z Wk (w1.setCell ⟨Bm, 1, none⟩ (.slice A (sl.length + 1) c)) Bm (.slice A (sl.length + 1) c) d x (sl ++ [⟨0, 0, 0⟩]) dl xl a := by
  have hba : Below W.heap.size W (W.alloc (.cells #[.int .i64 0, .int .i64 0, .int .i64 0] 82)) := (Below.refl _ _).alloc (Nat.le_refl _) _
  have h2 := h.below hba
  have hlit : Kd.C k82 (W.alloc (.cells #[.int .i64 0, .int .i64 0, .int .i64 0] 82)) (some ⟨W.heap.size, 0, none⟩) ([⟨0, 0, 0⟩] : List S82).length [⟨0, 0, 0⟩] := C82_lit (l := [⟨0, 0, 0⟩]) (blk_new W _) (by decide)
  obtain ⟨v', w1, hrun, ho, hg, hp, _⟩ := run_app (P := Try.prog) (W.alloc (.cells #[.int .i64 0, .int .i64 0, .int .i64 0] 82)) base 27 27 82 _ 3 24 elt82 s sl.length _ h2.m.rs (some ⟨W.heap.size, 0, none⟩) 1 1 (cells82 [⟨0, 0, 0⟩]) (src82 hlit) (by omega) h2.m.le
  rw [show cells82 sl ++ cells82 [⟨0, 0, 0⟩] = cells82 (sl ++ [⟨0, 0, 0⟩]) from (List.flatMap_append ..).symm] at ho
  obtain ⟨A, c, rfl⟩ := own_slice ho
  have hb1 := blk_grown h2.m.b hg (own_ne h2.m.rs h2.m.b (by decide))
  refine ⟨A, c, w1, hrun, hb1, ?_⟩
  have hnew : ∀ k, (Value.slice A (sl.length + 1) c).ownBlock = some k → s.ownBlock = some k ∨ W.heap.size ≤ k := by
    intro k hk
    rcases hp.block with e | e
    · rw [← e]; exact .inl hk
    · rw [e] at hk; cases hk; right; simp
  have e := blk_set hb1 1 (.slice A (sl.length + 1) c)
  have e' : (w1.setCell ⟨Bm, 1, none⟩ (.slice A (sl.length + 1) c)).heap[Bm]? = some (.cells #[.int .i64 a.pos, .slice A (sl.length + 1) c, d, x, .int .i64 a.sz, .int .i64 a.at_, .bool a.any] 86 (0, 0)) := by simpa using e
  have hrd := own_other h2.m.rd hg (own_type_ne h2.m.rd h2.m.rs (by decide))
  have hrx := own_other h2.m.rx hg (own_type_ne h2.m.rx h2.m.rs (by decide))
  have hko : KeepsOthers Wk w1 := h2.ko.trans (KeepsOthers.of_grownBy hg fun j o ej hj => by
    exact own_cells h2.m.rs ej hj)
  refine ⟨⟨e', h.m.hb, ?_, ?_, ?_, h.m.ne⟩, ?_, ?_, ?_, hko.trans (KeepsOthers.setCell _ _ _)⟩
  · rw [List.length_append]
    exact own_setCell ho (p := ⟨Bm, 1, none⟩) (own_ne ho hb1 (by decide)) _
  · exact own_setCell hrd (p := ⟨Bm, 1, none⟩) (own_ne hrd hb1 (by decide)) _
  · exact own_setCell hrx (p := ⟨Bm, 1, none⟩) (own_ne hrx hb1 (by decide)) _
  · refine Upd.setCell (h2.u.trans (S' := fun k => s.ownBlock = some k) (Upd.of_grown hg (fun k e => e)) (fun j hj hk => ?_)) _ (h.k Bm (.inl rfl)) _
    rcases h.k j (.inr (.inl hk)) with q | q
    · exact q
    · omega
  · intro k hk
    rcases hk with rfl | hk | hk | hk
    · exact h.k _ (.inl rfl)
    · rcases hnew k hk with q | q
      · exact h.k k (.inr (.inl q))
      · right
        have := h.u.size
        omega
    · exact h.k k (.inr (.inr (.inl hk)))
    · exact h.k k (.inr (.inr (.inr hk)))
  · intro q hq
    obtain ⟨z1, z2⟩ := h2.z q hq
    have z3 := blk_lt (h.z q hq).1
    have hne : q.1 ≠ Bm := fun e => z2 (.inl e)
    refine ⟨(Below.heap_setCell w1 _ _ q.1 hne).trans ((hg.block q.1 (blk_lt z1) (fun e => z2 (.inr (.inl e.symm)))).trans z1), fun hk => ?_⟩
    rcases hk with hk | hk | hk | hk
    · exact hne hk
    · rcases hnew _ hk with g | g
      · exact z2 (.inr (.inl g))
      · omega
    · exact z2 (.inr (.inr (.inl hk)))
    · exact z2 (.inr (.inr (.inr hk)))
theorem Mq.newD (h : Mq base W0 S0 Z Wk W Bm s d x sl dl xl a) (b : Int) (hn : dl.length ≤ 20000000) : ∃ A c w1,
    (Builtin.append_ #[24, 24] 24 #[d, .slice (some ⟨W.heap.size, 0, none⟩) 1 1]).run Try.prog (W.alloc (.cells #[.int .u8 b] 5)) = .ok (.slice A (dl.length + 1) c) w1 ∧
      w1.heap[Bm]? = some (.cells #[.int .i64 a.pos, s, d, x, .int .i64 a.sz, .int .i64 a.at_, .bool a.any] 86 (0, 0)) ∧ Mq base W0 S0 Z Wk (w1.setCell ⟨Bm, 2, none⟩ (.slice A (dl.length + 1) c)) Bm s (.slice A (dl.length + 1) c) x sl (dl ++ [b]) xl a := by
  have hba : Below W.heap.size W (W.alloc (.cells #[.int .u8 b] 5)) := (Below.refl _ _).alloc (Nat.le_refl _) _
  have h2 := h.below hba
  obtain ⟨v', w1, hrun, ho, hg, hp, _⟩ := run_app (P := Try.prog) (W.alloc (.cells #[.int .u8 b] 5)) base 24 24 5 (.int .u8 0) 1 1 eltB d dl.length _ h2.m.rd (some ⟨W.heap.size, 0, none⟩) 1 1 [.int .u8 b] (Src.one W _ _ rfl) (by omega) h2.m.le
  rw [show nums .u8 dl ++ [.int .u8 b] = nums .u8 (dl ++ [b]) by simp [nums]] at ho
  obtain ⟨A, c, rfl⟩ := own_slice ho
  have hb1 := blk_grown h2.m.b hg (own_ne h2.m.rd h2.m.b (by decide))
  refine ⟨A, c, w1, hrun, hb1, ?_⟩
  have hnew : ∀ k, (Value.slice A (dl.length + 1) c).ownBlock = some k → d.ownBlock = some k ∨ W.heap.size ≤ k := by
    intro k hk
    rcases hp.block with e | e
    · rw [← e]; exact .inl hk
    · rw [e] at hk; cases hk; right; simp
  have e := blk_set hb1 2 (.slice A (dl.length + 1) c)
  have e' : (w1.setCell ⟨Bm, 2, none⟩ (.slice A (dl.length + 1) c)).heap[Bm]? = some (.cells #[.int .i64 a.pos, s, .slice A (dl.length + 1) c, x, .int .i64 a.sz, .int .i64 a.at_, .bool a.any] 86 (0, 0)) := by simpa using e
  have hrs := own_other h2.m.rs hg (own_type_ne h2.m.rs h2.m.rd (by decide))
  have hro := own_other h2.m.rx hg (by
    cases hq : x.ownBlock with
    | none => exact .inl rfl
    | some g => exact .inr (fun e => h.m.ne g (by rw [← e]) hq))
  have hko : KeepsOthers Wk w1 := h2.ko.trans (KeepsOthers.of_grownBy hg fun j o ej hj => by
    exact own_cells h2.m.rd ej hj)
  have hlt := h.lt
  refine ⟨⟨e', h.m.hb, ?_, ?_, ?_, fun g hk hk2 => ?_⟩, ?_, ?_, ?_, hko.trans (KeepsOthers.setCell _ _ _)⟩
  · exact own_setCell hrs (p := ⟨Bm, 2, none⟩) (own_ne hrs hb1 (by decide)) _
  · rw [List.length_append]
    exact own_setCell ho (p := ⟨Bm, 2, none⟩) (own_ne ho hb1 (by decide)) _
  · exact own_setCell hro (p := ⟨Bm, 2, none⟩) (own_ne hro hb1 (by decide)) _
  · rcases hnew g hk with q | q
    · exact h.m.ne g q hk2
    · have := hlt g (.inr (.inr (.inr hk2)))
      omega
  · refine Upd.setCell (h2.u.trans (S' := fun k => d.ownBlock = some k) (Upd.of_grown hg (fun k e => e)) (fun j hj hk => ?_)) _ (h.k Bm (.inl rfl)) _
    rcases h.k j (.inr (.inr (.inl hk))) with q | q
    · exact q
    · omega
  · intro k hk
    rcases hk with rfl | hk | hk | hk
    · exact h.k _ (.inl rfl)
    · exact h.k k (.inr (.inl hk))
    · rcases hnew k hk with q | q
      · exact h.k k (.inr (.inr (.inl q)))
      · right
        have := h.u.size
        omega
    · exact h.k k (.inr (.inr (.inr hk)))
  · intro q hq
    obtain ⟨z1, z2⟩ := h2.z q hq
    have z3 := blk_lt (h.z q hq).1
    have hne : q.1 ≠ Bm := fun e => z2 (.inl e)
    refine ⟨(Below.heap_setCell w1 _ _ q.1 hne).trans ((hg.block q.1 (blk_lt z1) (fun e => z2 (.inr (.inr (.inl e.symm))))).trans z1), fun hk => ?_⟩
    rcases hk with hk | hk | hk | hk
    · exact hne hk
    · exact z2 (.inr (.inl hk))
    · rcases hnew _ hk with g | g
      · exact z2 (.inr (.inr (.inl g)))
      · omega
    · exact z2 (.inr (.inr (.inr hk)))
theorem Mq.newX (h : Mq base W0 S0 Z Wk W Bm s d x sl dl xl a) (b : Int) (hn : xl.length ≤ 20000000) : ∃ A c w1,
    (Builtin.append_ #[24, 24] 24 #[x, .slice (some ⟨W.heap.size, 0, none⟩) 1 1]).run Try.prog (W.alloc (.cells #[.int .u8 b] 5)) = .ok (.slice A (xl.length + 1) c) w1 ∧
      w1.heap[Bm]? = some (.cells #[.int .i64 a.pos, s, d, x, .int .i64 a.sz, .int .i64 a.at_, .bool a.any] 86 (0, 0)) ∧ Mq base W0 S0 Z Wk (w1.setCell ⟨Bm, 3, none⟩ (.slice A (xl.length + 1) c)) Bm s d (.slice A (xl.length + 1) c) sl dl (xl ++ [b]) a := by
  have hba : Below W.heap.size W (W.alloc (.cells #[.int .u8 b] 5)) := (Below.refl _ _).alloc (Nat.le_refl _) _
  have h2 := h.below hba
  obtain ⟨v', w1, hrun, ho, hg, hp, _⟩ := run_app (P := Try.prog) (W.alloc (.cells #[.int .u8 b] 5)) base 24 24 5 (.int .u8 0) 1 1 eltB x xl.length _ h2.m.rx (some ⟨W.heap.size, 0, none⟩) 1 1 [.int .u8 b] (Src.one W _ _ rfl) (by omega) h2.m.le
  rw [show nums .u8 xl ++ [.int .u8 b] = nums .u8 (xl ++ [b]) by simp [nums]] at ho
  obtain ⟨A, c, rfl⟩ := own_slice ho
  have hb1 := blk_grown h2.m.b hg (own_ne h2.m.rx h2.m.b (by decide))
  refine ⟨A, c, w1, hrun, hb1, ?_⟩
  have hnew : ∀ k, (Value.slice A (xl.length + 1) c).ownBlock = some k → x.ownBlock = some k ∨ W.heap.size ≤ k := by
    intro k hk
    rcases hp.block with e | e
    · rw [← e]; exact .inl hk
    · rw [e] at hk; cases hk; right; simp
  have e := blk_set hb1 3 (.slice A (xl.length + 1) c)
  have e' : (w1.setCell ⟨Bm, 3, none⟩ (.slice A (xl.length + 1) c)).heap[Bm]? = some (.cells #[.int .i64 a.pos, s, d, .slice A (xl.length + 1) c, .int .i64 a.sz, .int .i64 a.at_, .bool a.any] 86 (0, 0)) := by simpa using e
  have hrs := own_other h2.m.rs hg (own_type_ne h2.m.rs h2.m.rx (by decide))
  have hro := own_other h2.m.rd hg (by
    cases hq : d.ownBlock with
    | none => exact .inl rfl
    | some g => exact .inr (fun e => h.m.ne g hq (by rw [← e])))
  have hko : KeepsOthers Wk w1 := h2.ko.trans (KeepsOthers.of_grownBy hg fun j o ej hj => by
    exact own_cells h2.m.rx ej hj)
  have hlt := h.lt
  refine ⟨⟨e', h.m.hb, ?_, ?_, ?_, fun g hk hk2 => ?_⟩, ?_, ?_, ?_, hko.trans (KeepsOthers.setCell _ _ _)⟩
  · exact own_setCell hrs (p := ⟨Bm, 3, none⟩) (own_ne hrs hb1 (by decide)) _
  · exact own_setCell hro (p := ⟨Bm, 3, none⟩) (own_ne hro hb1 (by decide)) _
  · rw [List.length_append]
    exact own_setCell ho (p := ⟨Bm, 3, none⟩) (own_ne ho hb1 (by decide)) _
  · rcases hnew g hk2 with q | q
    · exact h.m.ne g hk q
    · have := hlt g (.inr (.inr (.inl hk)))
      omega
  · refine Upd.setCell (h2.u.trans (S' := fun k => x.ownBlock = some k) (Upd.of_grown hg (fun k e => e)) (fun j hj hk => ?_)) _ (h.k Bm (.inl rfl)) _
    rcases h.k j (.inr (.inr (.inr hk))) with q | q
    · exact q
    · omega
  · intro k hk
    rcases hk with rfl | hk | hk | hk
    · exact h.k _ (.inl rfl)
    · exact h.k k (.inr (.inl hk))
    · exact h.k k (.inr (.inr (.inl hk)))
    · rcases hnew k hk with q | q
      · exact h.k k (.inr (.inr (.inr q)))
      · right
        have := h.u.size
        omega
  · intro q hq
    obtain ⟨z1, z2⟩ := h2.z q hq
    have z3 := blk_lt (h.z q hq).1
    have hne : q.1 ≠ Bm := fun e => z2 (.inl e)
    refine ⟨(Below.heap_setCell w1 _ _ q.1 hne).trans ((hg.block q.1 (blk_lt z1) (fun e => z2 (.inr (.inr (.inr e.symm))))).trans z1), fun hk => ?_⟩
    rcases hk with hk | hk | hk | hk
    · exact hne hk
    · exact z2 (.inr (.inl hk))
    · exact z2 (.inr (.inr (.inl hk)))
    · rcases hnew _ hk with g | g
      · exact z2 (.inr (.inr (.inr g)))
      · omega
theorem Mq.cells (h : Mq base W0 S0 Z Wk W Bm s d x sl dl xl a) : W.cell? ⟨Bm, 0, none⟩ = some (.int .i64 a.pos) ∧ W.cell? ⟨Bm, 1, none⟩ = some s ∧ W.cell? ⟨Bm, 2, none⟩ = some d ∧ W.cell? ⟨Bm, 3, none⟩ = some x ∧ W.cell? ⟨Bm, 4, none⟩ = some (.int .i64 a.sz) ∧ W.cell? ⟨Bm, 5, none⟩ = some (.int .i64 a.at_) ∧ W.cell? ⟨Bm, 6, none⟩ = some (.bool a.any) :=
  ⟨(blk_cell h.m.b 0).trans rfl, (blk_cell h.m.b 1).trans rfl, (blk_cell h.m.b 2).trans rfl, (blk_cell h.m.b 3).trans rfl, (blk_cell h.m.b 4).trans rfl, (blk_cell h.m.b 5).trans rfl, (blk_cell h.m.b 6).trans rfl⟩
theorem Mq.froz (h : Mq base W0 S0 Z Wk W Bm s d x sl dl xl a) : W.frozen? ⟨Bm, 0, none⟩ = false ∧ W.frozen? ⟨Bm, 1, none⟩ = false ∧ W.frozen? ⟨Bm, 2, none⟩ = false ∧ W.frozen? ⟨Bm, 3, none⟩ = false ∧ W.frozen? ⟨Bm, 4, none⟩ = false ∧ W.frozen? ⟨Bm, 5, none⟩ = false ∧ W.frozen? ⟨Bm, 6, none⟩ = false :=
  ⟨blk_frozen h.m.b 0, blk_frozen h.m.b 1, blk_frozen h.m.b 2, blk_frozen h.m.b 3, blk_frozen h.m.b 4, blk_frozen h.m.b 5, blk_frozen h.m.b 6⟩
theorem Mq.box {k : Nat} {v0 v1 v2 : Value} {ty : TypeId} (h : Mq base W0 S0 ((k, .cells #[v0, v1, v2] ty) :: Z) Wk W Bm s d x sl dl xl a) : W.cell? ⟨k, 0, none⟩ = some v0 ∧ W.cell? ⟨k, 1, none⟩ = some v1 ∧ W.cell? ⟨k, 2, none⟩ = some v2 := by
  have hz := (h.z _ List.mem_cons_self).1
  exact ⟨(blk_cell hz 0).trans rfl, (blk_cell hz 1).trans rfl, (blk_cell hz 2).trans rfl⟩
theorem Mq.bmlt (h : Mq base W0 S0 Z Wk W Bm s d x sl dl xl a) : Bm < W.heap.size := blk_lt h.m.b
theorem Mq.slice (h : Mq base W0 S0 Z Wk W Bm s d x sl dl xl a) : ∃ A c, s = .slice A sl.length c := own_slice h.m.rs
end
end Go.Proofs.Ytinlfoblpgpikaa
