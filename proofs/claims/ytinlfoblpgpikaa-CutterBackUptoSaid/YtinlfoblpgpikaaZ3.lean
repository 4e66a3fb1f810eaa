/- cutter: what Cut holds while it cuts: the windows so far, the one that is being made. ; cutter: a field of an edit that was answered. ; cutter: the same steps; plain's steps. ; cutter: spoil, by contr -/
import Derived.Test.YtinlfoblpgpikaaWt
import Derived.Test.YtinlfoblpgpikaaZ2
import Derived.Test.YtinlfoblpgpikaaPc
import Derived.Test.YtinlfoblpgpikaaZ1
import Derived.Test.YtinlfoblpgpikaaWu
namespace Go.Proofs.Ytinlfoblpgpikaa
open Go.RowKit Go.Shelf Go.Proofs.YtinlfoblpgpikaaW.PrintWords Go.Proofs.YtinlfoblpgpikaaW.PrintLast Go.Proofs.YtinlfoblpgpikaaW.PrintMore Go.Proofs.Ytinlfoblpgpikaa.Pr
set_option linter.unusedVariables false
set_option linter.unusedSimpArgs false
theorem ways_calls (A0 : Option Addr) (c0 : Nat) (st : List S82) (A1 : Option Addr) (c1 : Nat) (d : List Int) (A2 : Option Addr) (c2 : Nat) (x : List Int) (w : World) (h : EdC w A0 c0 st A1 c1 d A2 c2 x) :
    Calls Try.prog 41 #[.agg #[.slice A0 st.length c0, .slice A1 d.length c1, .slice A2 x.length c2]] w fun e w' => ∃ Be, e = .returned (.func (.func 61) #[] #[.pointer (some ⟨Be, 0, none⟩)]) ∧ EdB w' Be A0 c0 st A1 c1 d A2 c2 x ∧ Below w.heap.size w w' ∧ w.heap.size ≤ Be := by
  have H := Hd.mk h
  clear h
  have hmf : ∀ (fn : Fn) (first cap : Array Value) (w : World), (Instr.makeFunc fn first cap).run Try.prog w = .ok (.func fn first cap) w := fun _ _ _ _ => rfl
  go_enter Try.func41, Try.ntmps41
  go_wp2
  go_ret
  have hb : Below w.heap.size w (w.alloc (.cells #[.slice A0 st.length c0, .slice A1 d.length c1, .slice A2 x.length c2] 29)) := (Below.refl _ _).alloc (Nat.le_refl _) _
  exact ⟨w.heap.size, rfl, ⟨blk_new w _, H.out.below hb⟩, hb, Nat.le_refl _⟩
theorem eltW : Elt Try.prog 31 43 (.agg #[.int .i64 0, .slice none 0 0, .slice none 0 0, .slice none 0 0]) 4 80 := ⟨Try.underlying31, by kernel_rfl, rfl, by decide, by decide⟩
structure CB (w0 : World) (Bl Bm : Nat) (X : List (Nat × Obj)) (W : World) (v : Value) (cs : List Value) (n : Nat) (s d x : Value) (sl : List S82) (dl xl : List Int) (a : Wx) : Prop where
  lb : W.heap[Bl]? = some (.cells #[v] 31 (0, 0))
  hl : w0.heap.size ≤ Bl
  row : W.ownsRow w0.heap.size 43 4 v n cs
  m : Mkr w0.heap.size W Bm s d x sl dl xl a
  fx : ∀ q ∈ X, W.heap[q.1]? = some q.2 ∧ q.2.isCells = true ∧ q.1 ≠ Bl ∧ ¬ MS Bm s d x q.1 ∧ v.ownBlock ≠ some q.1
  be : Below w0.heap.size w0 W
section
variable {w0 : World} {Bl Bm : Nat} {X : List (Nat × Obj)} {W W' : World} {v : Value} {cs : List Value} {n : Nat} {s d x s' d' x' : Value} {sl sl' : List S82} {dl xl dl' xl' : List Int} {a a' : Wx}
theorem CB.bk {k : Nat} (h : CB w0 Bl Bm X W v cs n s d x sl dl xl a) (hn : w0.heap.size ≤ k) (hb : Bk k W W') : CB w0 Bl Bm X W' v cs n s d x sl dl xl a :=
  ⟨hb.block _ _ h.lb (.inl rfl), h.hl, own_bk h.row hb, ⟨hb.block _ _ h.m.b (.inl rfl), h.m.hb, own_bk h.m.rs hb, own_bk h.m.rd hb, own_bk h.m.rx hb, h.m.ne⟩,
    fun q hq => by obtain ⟨h1, h2, h3⟩ := h.fx q hq; exact ⟨hb.block _ _ h1 (.inl h2), h2, h3⟩, Bk.below h.be h.be.size (hb.more hn)⟩
theorem CB.lt (h : CB w0 Bl Bm X W v cs n s d x sl dl xl a) : ∀ k, MS Bm s d x k → k < W.heap.size := by
  intro k hk
  rcases hk with rfl | hk | hk | hk
  · exact blk_lt h.m.b
  · exact own_lt h.m.rs k hk
  · exact own_lt h.m.rd k hk
  · exact own_lt h.m.rx k hk
theorem CB.ge (h : CB w0 Bl Bm X W v cs n s d x sl dl xl a) : ∀ k, MS Bm s d x k → w0.heap.size ≤ k := by
  intro k hk
  rcases hk with rfl | hk | hk | hk
  · exact h.m.hb
  · exact own_base h.m.rs k hk
  · exact own_base h.m.rd k hk
  · exact own_base h.m.rx k hk
theorem CB.grow (h : CB w0 Bl Bm X W v cs n s d x sl dl xl a) (o : Obj) (ho : o.isCells = true) : CB w0 Bl Bm ((W.heap.size, o) :: X) (W.alloc o) v cs n s d x sl dl xl a := by
  have hba := (Below.refl W.heap.size W).alloc (Nat.le_refl _) o
  refine ⟨blk_alloc h.lb o, h.hl, pw_own_below h.row hba, ⟨blk_alloc h.m.b o, h.m.hb, pw_own_below h.m.rs hba, pw_own_below h.m.rd hba, pw_own_below h.m.rx hba, h.m.ne⟩, fun q hq => ?_, h.be.alloc h.be.size _⟩
  have hl := blk_lt h.lb
  rcases List.mem_cons.1 hq with rfl | hq
  · refine ⟨blk_new W o, ho, by simp only; omega, fun hk => ?_, fun hk => ?_⟩
    · have := h.lt _ hk
      simp at this
    · have := own_lt h.row _ hk
      simp at this
  · obtain ⟨h1, h2, h3⟩ := h.fx q hq
    exact ⟨blk_alloc h1 o, h2, h3⟩
theorem CB.less {X' : List (Nat × Obj)} (h : CB w0 Bl Bm X W v cs n s d x sl dl xl a) (hs : ∀ q ∈ X', q ∈ X) : CB w0 Bl Bm X' W v cs n s d x sl dl xl a := ⟨h.lb, h.hl, h.row, h.m, fun q hq => h.fx q (hs q hq), h.be⟩
theorem CB.blm (h : CB w0 Bl Bm X W v cs n s d x sl dl xl a) : ¬ MS Bm s d x Bl := by
  intro hk
  rcases hk with e | hk | hk | hk
  · have := h.lb
    rw [e, h.m.b] at this
    cases this
  · exact own_ne h.m.rs h.lb (by decide) hk.symm
  · exact own_ne h.m.rd h.lb (by decide) hk.symm
  · exact own_ne h.m.rx h.lb (by decide) hk.symm
theorem CB.rowm (h : CB w0 Bl Bm X W v cs n s d x sl dl xl a) : ∀ k, v.ownBlock = some k → ¬ MS Bm s d x k := by
  intro k hv hk
  have key : ∀ {u : Value} {e : TypeId} {sz m : Nat} {us : List Value}, W.ownsRow w0.heap.size e sz u m us → e ≠ 43 → u.ownBlock ≠ some k := fun hu he hu2 => by
    obtain ⟨c1, h1⟩ := own_typed hu k hu2.symm.symm
    obtain ⟨c2, h2⟩ := own_typed h.row k hv.symm.symm
    rw [h1] at h2
    cases h2
    exact he rfl
  rcases hk with rfl | hk | hk | hk
  · exact own_ne h.row h.m.b (by decide) hv.symm
  · exact key h.m.rs (by decide) hk
  · exact key h.m.rd (by decide) hk
  · exact key h.m.rx (by decide) hk
theorem CB.mq (h : CB w0 Bl Bm X W v cs n s d x sl dl xl a) : Mq w0.heap.size W (MS Bm s d x) ((Bl, .cells #[v] 31) :: X) W W Bm s d x sl dl xl a := by
  refine ⟨h.m, Upd.refl _ _, fun k hk => .inl hk, fun q hq => ?_, KeepsOthers.refl _⟩
  rcases List.mem_cons.1 hq with rfl | hq
  · exact ⟨h.lb, h.blm⟩
  · obtain ⟨h1, _, _, h2, _⟩ := h.fx q hq
    exact ⟨h1, h2⟩
theorem CB.took (h : CB w0 Bl Bm X W v cs n s d x sl dl xl a) (hq : Mq w0.heap.size W (MS Bm s d x) ((Bl, .cells #[v] 31) :: X) W W' Bm s' d' x' sl' dl' xl' a') : CB w0 Bl Bm X W' v cs n s' d' x' sl' dl' xl' a' := by
  refine ⟨(hq.z _ List.mem_cons_self).1, h.hl, own_upd h.row hq.u (fun k hk => h.rowm k hk), hq.m, fun q hq2 => ?_, ?_⟩
  · obtain ⟨h1, h2, h3, h4, h5⟩ := h.fx q hq2
    obtain ⟨g1, g2⟩ := hq.z q (List.mem_cons_of_mem _ hq2)
    exact ⟨g1, h2, h3, g2, h5⟩
  · exact h.be.trans (hq.u.below h.be.size (fun k hk hm => by have := h.ge k hm; omega))
theorem CB.forms (h : CB w0 Bl Bm X W v cs n s d x sl dl xl a) : ∃ A0 c0 A1 c1 A2 c2, s = .slice A0 sl.length c0 ∧ d = .slice A1 dl.length c1 ∧ x = .slice A2 xl.length c2 := by
  obtain ⟨A0, c0, h0⟩ := own_slice h.m.rs
  obtain ⟨A1, c1, h1⟩ := own_slice h.m.rd
  obtain ⟨A2, c2, h2⟩ := own_slice h.m.rx
  exact ⟨A0, c0, A1, c1, A2, c2, h0, h1, h2⟩
def winC (a : Wx) (s d x : Value) : List Value := [.int .i64 a.pos, s, d, x]
theorem CB.push2 (h : CB w0 Bl Bm X W v cs n s d x sl dl xl a) (hn : n ≤ 1000000) : ∃ v' w1,
    (Builtin.append_ #[31, 31] 31 #[v, .slice (some ⟨W.heap.size, 0, none⟩) 1 1]).run Try.prog (W.alloc (.cells #[.int .i64 a.pos, s, d, x] 43)) = .ok v' w1 ∧
      w1.heap[Bl]? = some (.cells #[v] 31 (0, 0)) ∧ KeepsOthers W (w1.setCell ⟨Bl, 0, none⟩ v') ∧ CB w0 Bl Bm X (w1.setCell ⟨Bl, 0, none⟩ v') v' (cs ++ winC a s d x) (n + 1) s d x sl dl xl a ∧ Upd (fun k => v.ownBlock = some k ∨ k = Bl) W (w1.setCell ⟨Bl, 0, none⟩ v') := by
  obtain ⟨A0, c0, A1, c1, A2, c2, e0, e1, e2⟩ := h.forms
  obtain ⟨O, hO⟩ : ∃ O, (Obj.cells #[.int .i64 a.pos, s, d, x] 43) = O := ⟨_, rfl⟩
  have hba : Below W.heap.size W (W.alloc O) := (Below.refl _ _).alloc (Nat.le_refl _) _
  have hrow := pw_own_below h.row hba
  have hsrc : Src (W.alloc O) (some ⟨W.heap.size, 0, none⟩) 1 4 (winC a s d x) := by
    refine ⟨rfl, fun j u hj => ?_, by rw [e0, e1, e2]; simp [winC, Value.oneCell']⟩
    have hj4 : j < 4 := by
      rcases Nat.lt_or_ge j 4 with h3 | h3
      · exact h3
      · rw [List.getElem?_eq_none (by simpa [winC] using h3)] at hj; cases hj
    have hbn : (W.alloc O).heap[W.heap.size]? = some (.cells #[.int .i64 a.pos, s, d, x] 43) := by rw [hO]; exact blk_new W O
    refine ⟨_, rfl, ?_⟩
    match j, hj4, hj with
    | 0, _, hj => rw [add_plain, blk_cell hbn, ← hj]; rfl
    | 1, _, hj => rw [add_plain, blk_cell hbn, ← hj]; rfl
    | 2, _, hj => rw [add_plain, blk_cell hbn, ← hj]; rfl
    | 3, _, hj => rw [add_plain, blk_cell hbn, ← hj]; rfl
  rw [hO]
  obtain ⟨v', w', hrun, ho, hg, hp, _⟩ := run_app (P := Try.prog) (W.alloc O) w0.heap.size 31 31 43 (.agg #[.int .i64 0, .slice none 0 0, .slice none 0 0, .slice none 0 0]) 4 80 eltW v _ _ hrow (some ⟨W.heap.size, 0, none⟩) 1 1 (winC a s d x) hsrc (by omega) (Nat.le_trans h.be.size hba.size)
  have hlba := blk_alloc h.lb O
  have hlb' := blk_grown hlba hg (own_ne hrow hlba (by decide))
  have hmb' := blk_grown (blk_alloc h.m.b O) hg (own_ne hrow (blk_alloc h.m.b O) (by decide))
  have hltl := blk_lt h.lb
  have hnew : ∀ k, v'.ownBlock = some k → v.ownBlock = some k ∨ k = W.heap.size + 1 := by
    intro k hk
    rcases hp.block with e | e
    · exact .inl (by rw [← e]; exact hk)
    · rw [e] at hk; cases hk; exact .inr (by simp)
  have hMne : ∀ k, MS Bm s d x k → v'.ownBlock ≠ some k := by
    intro k hk e
    rcases hnew k e with q | q
    · exact h.rowm k q hk
    · have := h.lt k hk; omega
  have hneb : v'.ownBlock ≠ some Bl := by
    intro e
    rcases hnew _ e with q | q
    · exact own_ne h.row h.lb (by decide) q.symm
    · omega
  have oth : ∀ {u : Value} {e : TypeId} {sz m : Nat} {us : List Value}, W.ownsRow w0.heap.size e sz u m us → (∀ k, u.ownBlock = some k → MS Bm s d x k) → (w'.setCell ⟨Bl, 0, none⟩ v').ownsRow w0.heap.size e sz u m us := fun {u e sz m us} hu hk => by
    have h1 := pw_own_below hu hba
    have h2 := own_other h1 hg (by
      cases hq : u.ownBlock with
      | none => exact .inl rfl
      | some g => exact .inr (fun e => h.rowm g e.symm (hk g hq)))
    refine own_setCell h2 (p := ⟨Bl, 0, none⟩) (fun e => ?_) _
    exact h.blm (hk _ e.symm)
  have hbln : Bl ≠ Bm := fun e => h.blm (.inl e)
  refine ⟨v', w', hrun, hlb', ?_, ⟨?_, h.hl, ?_, ?_, ?_, ?_⟩, ?_⟩
  · refine ((KeepsOthers.alloc W _).trans (KeepsOthers.of_grownBy hg (fun j o ej hj => ?_))).trans (KeepsOthers.setCell _ _ _)
    obtain ⟨cells, hc⟩ := own_typed hrow j ej.symm.symm
    rw [hc] at hj
    cases hj
    rfl
  · have := blk_set hlb' 0 v'
    simpa using this
  · exact own_setCell ho (p := ⟨Bl, 0, none⟩) (fun e => hneb e.symm) _
  · exact ⟨(Below.heap_setCell w' ⟨Bl, 0, none⟩ v' Bm (Ne.symm hbln)).trans hmb', h.m.hb, oth h.m.rs (fun k hk => .inr (.inl hk)), oth h.m.rd (fun k hk => .inr (.inr (.inl hk))), oth h.m.rx (fun k hk => .inr (.inr (.inr hk))), h.m.ne⟩
  · intro q hq
    obtain ⟨h1, h2, h3, h4, h5⟩ := h.fx q hq
    have hlt := blk_lt h1
    refine ⟨(Below.heap_setCell w' ⟨Bl, 0, none⟩ v' q.1 h3).trans (blk_grown (blk_alloc h1 O) hg (fun e => h5 e.symm)), h2, h3, h4, fun e => ?_⟩
    rcases hnew _ e with q' | q'
    · exact h5 q'
    · omega
  · exact ((h.be.alloc h.be.size _).grown hg (Nat.le_trans h.be.size hba.size) (own_base hrow)).setCell h.hl _
  · exact (((Upd.refl _ W).alloc O).trans (S' := fun k => v.ownBlock = some k ∨ k = Bl) (Upd.of_grown hg (fun k e => .inl e)) (fun _ _ h => h)).setCell _ (.inl (.inr rfl)) _
theorem CB.push (h : CB w0 Bl Bm X W v cs n s d x sl dl xl a) (hn : n ≤ 1000000) : ∃ v' w1,
    (Builtin.append_ #[31, 31] 31 #[v, .slice (some ⟨W.heap.size, 0, none⟩) 1 1]).run Try.prog (W.alloc (.cells #[.int .i64 a.pos, s, d, x] 43)) = .ok v' w1 ∧
      w1.heap[Bl]? = some (.cells #[v] 31 (0, 0)) ∧ KeepsOthers W (w1.setCell ⟨Bl, 0, none⟩ v') ∧ CB w0 Bl Bm X (w1.setCell ⟨Bl, 0, none⟩ v') v' (cs ++ winC a s d x) (n + 1) s d x sl dl xl a := by
  obtain ⟨v', w1, h1, h2, h3, h4, _⟩ := h.push2 hn
  exact ⟨v', w1, h1, h2, h3, h4⟩
theorem CB.reset (h : CB w0 Bl Bm X W v cs n s d x sl dl xl a) : KeepsOthers W (((((((W.setCell ⟨Bm, 0, none⟩ (.int .i64 0)).setCell ⟨Bm, 1, none⟩ (.slice none 0 0)).setCell ⟨Bm, 2, none⟩ (.slice none 0 0)).setCell ⟨Bm, 3, none⟩ (.slice none 0 0)).setCell ⟨Bm, 4, none⟩ (.int .i64 0)).setCell ⟨Bm, 5, none⟩ (.int .i64 0)).setCell ⟨Bm, 6, none⟩ (.bool false)) ∧
    CB w0 Bl Bm X (((((((W.setCell ⟨Bm, 0, none⟩ (.int .i64 0)).setCell ⟨Bm, 1, none⟩ (.slice none 0 0)).setCell ⟨Bm, 2, none⟩ (.slice none 0 0)).setCell ⟨Bm, 3, none⟩ (.slice none 0 0)).setCell ⟨Bm, 4, none⟩ (.int .i64 0)).setCell ⟨Bm, 5, none⟩ (.int .i64 0)).setCell ⟨Bm, 6, none⟩ (.bool false)) v cs n (.slice none 0 0) (.slice none 0 0) (.slice none 0 0) [] [] [] ⟨0, 0, 0, false⟩ := by
  have hbln : Bl ≠ Bm := fun e => h.blm (.inl e)
  have far : ∀ (q j : Nat) (W : World) (u : Value), q ≠ Bm → (W.setCell ⟨Bm, j, none⟩ u).heap[q]? = W.heap[q]? := fun q j W u e => Below.heap_setCell W ⟨Bm, j, none⟩ u q e
  have f7 : ∀ q, q ≠ Bm → (((((((W.setCell ⟨Bm, 0, none⟩ (.int .i64 0)).setCell ⟨Bm, 1, none⟩ (.slice none 0 0)).setCell ⟨Bm, 2, none⟩ (.slice none 0 0)).setCell ⟨Bm, 3, none⟩ (.slice none 0 0)).setCell ⟨Bm, 4, none⟩ (.int .i64 0)).setCell ⟨Bm, 5, none⟩ (.int .i64 0)).setCell ⟨Bm, 6, none⟩ (.bool false)).heap[q]? = W.heap[q]? := fun q e =>
    (far q _ _ _ e).trans ((far q _ _ _ e).trans ((far q _ _ _ e).trans ((far q _ _ _ e).trans ((far q _ _ _ e).trans ((far q _ _ _ e).trans (far q _ _ _ e))))))
  have hb := blk_set (blk_set (blk_set (blk_set (blk_set (blk_set (blk_set h.m.b 0 (.int .i64 0)) 1 (.slice none 0 0)) 2 (.slice none 0 0)) 3 (.slice none 0 0)) 4 (.int .i64 0)) 5 (.int .i64 0)) 6 (.bool false)
  have hrb : ∀ (j : Nat) (W : World) (u : Value), (W.ownsRow w0.heap.size 43 4 v n cs) → (W.setCell ⟨Bm, j, none⟩ u).ownsRow w0.heap.size 43 4 v n cs := fun j W u hr => own_setCell hr (p := ⟨Bm, j, none⟩) (fun e => own_ne h.row h.m.b (by decide) e) _
  have hbs : ∀ (j : Nat) (W : World) (u : Value), Below w0.heap.size w0 W → Below w0.heap.size w0 (W.setCell ⟨Bm, j, none⟩ u) := fun j W u hw => hw.setCell h.m.hb _
  refine ⟨?_, (f7 Bl hbln).trans h.lb, h.hl, hrb _ _ _ (hrb _ _ _ (hrb _ _ _ (hrb _ _ _ (hrb _ _ _ (hrb _ _ _ (hrb _ _ _ h.row)))))), ⟨by simpa using hb, h.m.hb, own_nil _ _ _ _, own_nil _ _ _ _, own_nil _ _ _ _, fun g e => by cases e⟩, fun q hq => ?_, hbs _ _ _ (hbs _ _ _ (hbs _ _ _ (hbs _ _ _ (hbs _ _ _ (hbs _ _ _ (hbs _ _ _ h.be))))))⟩
  · exact (((((((KeepsOthers.setCell _ _ _).trans (KeepsOthers.setCell _ _ _)).trans (KeepsOthers.setCell _ _ _)).trans (KeepsOthers.setCell _ _ _)).trans (KeepsOthers.setCell _ _ _)).trans (KeepsOthers.setCell _ _ _)).trans (KeepsOthers.setCell _ _ _))
  · obtain ⟨h1, h2, h3, h4, h5⟩ := h.fx q hq
    have hqm : q.1 ≠ Bm := fun e => h4 (.inl e)
    refine ⟨(f7 q.1 hqm).trans h1, h2, h3, fun hk => ?_, h5⟩
    rcases hk with hk | hk | hk | hk
    · exact hqm hk
    · cases hk
    · cases hk
    · cases hk
end
end Go.Proofs.Ytinlfoblpgpikaa
namespace Go.Proofs.Ytinlfoblpgpikaa
open Go.RowKit Go.Shelf Go.Proofs.YtinlfoblpgpikaaW.PrintWords Go.Proofs.YtinlfoblpgpikaaW.PrintLast Go.Proofs.YtinlfoblpgpikaaW.PrintMore Go.Proofs.Ytinlfoblpgpikaa.Pr
theorem field26_0 (A B C : Option Addr) (n m k c d e : Nat) (w : World) : (Instr.field 26 (.agg #[.slice A n c, .slice B m d, .slice C k e]) 0).run Try.prog w = .ok (.slice A n c) w := by
  have h26 := Try.underlying26
  have h23 := Try.underlying23
  simp only [Instr.field]
  go_simp
  rfl
end Go.Proofs.Ytinlfoblpgpikaa
namespace Go.Proofs.Ytinlfoblpgpikaa
open Go.RowKit Go.Shelf Go.Proofs.YtinlfoblpgpikaaW.PrintWords Go.Proofs.YtinlfoblpgpikaaW.PrintLast Go.Proofs.YtinlfoblpgpikaaW.PrintMore Go.Proofs.Ytinlfoblpgpikaa.Pr
set_option linter.unusedVariables false
set_option linter.unusedSimpArgs false
def t81 (s : S82) : S81 := ⟨s.f0, s.f1, s.f2⟩
theorem C81_of {W : World} {A : Option Addr} {l : List S82} (h : Kd.C k82 W A l.length l) : Kd.C k81 W A (l.map t81).length (l.map t81) := by
  refine ⟨rfl, by rw [List.length_map]; exact h.2.1, fun hp => ?_⟩
  obtain ⟨ad, e, hc⟩ := h.2.2 (by rw [List.length_map] at hp; exact hp)
  refine ⟨ad, e, fun j p hj => ?_⟩
  rw [List.getElem?_map, Option.map_eq_some_iff] at hj
  obtain ⟨s, hs, rfl⟩ := hj
  obtain ⟨c, h1, hK, hcell⟩ := hc j s hs
  exact ⟨c, h1, by rw [k82_open hK]; exact k81_mk W (t81 s), hcell⟩
theorem OS.C82 {e : TypeId} {W : World} {b c : Nat} {A : Option Addr} {l : List S82} {n : Nat} (h : OS e W b (.slice A n c) l) (hl : l.length = n) : Kd.C k82 W A l.length l := by
  subst hl
  replace h : W.ownsRow b e 3 (.slice A l.length c) l.length (cells82 l) := h
  rcases h.2 with ⟨e1, e2⟩ | ⟨g, cap, cur, e1, _, _, h1, h2, _⟩
  · have : l = [] := List.eq_nil_of_length_eq_zero e2
    subst this
    clear h
    exact ⟨rfl, by simp, fun h => by simp at h⟩
  · cases e1
    have hcs := h.cells (g := g) rfl
    refine ⟨rfl, by simp only [maxLen] at h2; omega, fun _ => ⟨_, rfl, fun j p hj => ⟨[.int .i64 p.f0, .int .i64 p.f1, .int .i64 p.f2], rfl, k82_mk W p, fun i u hu => ?_⟩⟩⟩
    have := cells82_at l j p hj i u hu
    exact hcs _ _ this
theorem OS.C81 {e : TypeId} {W : World} {b c : Nat} {A : Option Addr} {l : List S82} {n : Nat} (h : OS e W b (.slice A n c) l) (hl : l.length = n) : Kd.C k81 W A (l.map t81).length (l.map t81) := C81_of (h.C82 hl)
theorem ss_l0 (L : List S81) (hl : L.length ≤ 9223372036854775806) : ∀ (j i : Nat), i + j = L.length → sapperref17_SameSteps.l0 (j + 1) L L (L.length : Int) (i : Int) = some true
  | 0, i, h => by
    rw [sapperref17_SameSteps.l0, if_neg (by omega)]
  | j + 1, i, h => by
    rw [sapperref17_SameSteps.l0, if_pos (by omega), if_pos (by omega), if_pos (by omega), if_pos (by omega), if_neg (by simp)]
    have e : wrap64 ((i : Int) + 1) = ((i + 1 : Nat) : Int) := by unfold wrap64; omega
    rw [e]
    exact ss_l0 L hl j (i + 1) (by omega)
theorem ss_f (L : List S81) (hl : L.length ≤ 9223372036854775806) : sapperref17_SameSteps.f (L.length + 1) L L = some true := by
  rw [sapperref17_SameSteps.f, if_pos rfl]
  exact ss_l0 L hl L.length 0 (by omega)
theorem sameSteps_c {A : Option Addr} {c : Nat} {B : Option Addr} {d n : Nat} {L : List S81} {w : World} (h0 : Kd.C k81 w A n L) (hc : n ≤ c) (h1 : Kd.C k81 w B n L) (hd : n ≤ d) (hl : n ≤ 9223372036854775806) :
    Calls Try.prog 33 #[.slice A n c, .slice B n d] w fun e w' => e = .returned (.bool true) ∧ Below w.heap.size w w' := by
  obtain rfl : L.length = n := h0.1
  refine (sapperref17_SameSteps.calls _ A c L B d L true w h0 hc h1 hd (ss_f L hl)).mono ?_
  rintro e w' ⟨h1, h2⟩
  exact ⟨h1, Drawn0.below h2⟩
end Go.Proofs.Ytinlfoblpgpikaa
namespace Go.Proofs.Ytinlfoblpgpikaa
open Go.RowKit Go.Shelf Go.Proofs.YtinlfoblpgpikaaW.PrintWords Go.Proofs.YtinlfoblpgpikaaW.PrintLast Go.Proofs.YtinlfoblpgpikaaW.PrintMore Go.Proofs.Ytinlfoblpgpikaa.Pr
set_option linter.unusedVariables false
set_option linter.unusedSimpArgs false
theorem own_of_R8 {W : World} {base : Nat} {ok : Nat → Prop} {v : Value} {l : List Int} (h : Kd.R (Kd.int .u8) 5 W base ok v l) : OB W base v l := Kd.own_of_R h
theorem own_of_R82 {W : World} {base : Nat} {ok : Nat → Prop} {v : Value} {l : List S82} (h : Kd.R k82 82 W base ok v l) : OS 82 W base v l := by
  obtain ⟨_, inner, ho, hr⟩ := h
  have : inner = cells82 l := by
    apply List.ext_getElem?
    intro q
    rcases Nat.lt_or_ge q (l.length * 3) with hq | hq
    · have hj : q / 3 < l.length := by omega
      have h1 := k82_openM (hr.2 (q / 3) _ (List.getElem?_eq_getElem hj))
      have hi : q % 3 < 3 := Nat.mod_lt _ (by omega)
      obtain ⟨u, hu⟩ : ∃ u, [Value.int .i64 l[q / 3].f0, .int .i64 l[q / 3].f1, .int .i64 l[q / 3].f2][q % 3]? = some u := by
        rcases (show q % 3 = 0 ∨ q % 3 = 1 ∨ q % 3 = 2 by omega) with e | e | e <;> rw [e] <;> exact ⟨_, rfl⟩
      have h2 := cells82_at l (q / 3) _ (List.getElem?_eq_getElem hj) (q % 3) _ hu
      rw [← h1] at hu
      have hq3 : q / 3 * 3 + q % 3 = q := by omega
      rw [show k82.sz = 3 from rfl, List.getElem?_take_of_lt hi, List.getElem?_drop, hq3] at hu
      rw [hq3] at h2
      rw [h2, hu]
    · rw [List.getElem?_eq_none (by have := hr.1; rw [this]; exact hq), List.getElem?_eq_none (by rw [cells82_len]; exact hq)]
  subst this
  exact ho
end Go.Proofs.Ytinlfoblpgpikaa
namespace Go.Proofs.Ytinlfoblpgpikaa
open Go.RowKit Go.Shelf Go.Proofs.YtinlfoblpgpikaaW.PrintWords Go.Proofs.YtinlfoblpgpikaaW.PrintLast Go.Proofs.YtinlfoblpgpikaaW.PrintMore Go.Proofs.Ytinlfoblpgpikaa.Pr
set_option linter.unusedVariables false
set_option linter.unusedSimpArgs false
theorem own_slice' {w : World} {base : Nat} {e : TypeId} {size n m : Nat} {v : Value} {xs : List Value} (h : w.ownsRow base e size v n xs) (hn : n = m) : ∃ A c, v = .slice A m c := hn ▸ own_slice h
theorem own_cap' {w : World} {base : Nat} {e : TypeId} {size n m c : Nat} {A : Option Addr} {xs : List Value} (h : w.ownsRow base e size (.slice A m c) n xs) : m ≤ c := by
  rcases h.2 with ⟨e1, _⟩ | ⟨g, cap, cur, e1, _, _, h1, _⟩
  · cases e1; exact Nat.le_refl _
  · cases e1; exact h1
end Go.Proofs.Ytinlfoblpgpikaa
namespace Go.Proofs.Ytinlfoblpgpikaa
open Go.RowKit Go.Shelf Go.Proofs.YtinlfoblpgpikaaW.PrintWords Go.Proofs.YtinlfoblpgpikaaW.PrintLast Go.Proofs.YtinlfoblpgpikaaW.PrintMore Go.Proofs.Ytinlfoblpgpikaa.Pr
set_option linter.unusedVariables false
set_option linter.unusedSimpArgs false
/-- The window that is being made: its steps but the last one, the last one. -/
structure WS where
  pos : Int
  dn : List S82
  cu : Option S82
  d : List Int
  x : List Int
  sz : Nat
  at_ : Int
  any : Bool
def WS.st (t : WS) : List S82 := t.dn ++ t.cu.toList
def WS.wx (t : WS) : Wx := ⟨t.pos, t.sz, t.at_, t.any⟩
def ws0 : WS := ⟨0, [], none, [], [], 0, 0, false⟩
/-- One more byte. -/
def tkw (t : WS) (o : S94) : WS :=
  if o.f0 = true then
    if t.any = false then ⟨o.f1, t.st, some ⟨1, 0, 0⟩, t.d ++ [o.f2], t.x, t.sz + 1, o.f1 + 1, true⟩
    else match t.cu with
      | none => t
      | some s => if s.f1 = 0 ∧ o.f1 = t.at_ then ⟨t.pos, t.dn, some ⟨s.f0 + 1, 0, 0⟩, t.d ++ [o.f2], t.x, t.sz + 1, o.f1 + 1, true⟩
        else ⟨t.pos, t.dn ++ [⟨s.f0, s.f1, o.f1 - t.at_⟩], some ⟨1, 0, 0⟩, t.d ++ [o.f2], t.x, t.sz + 1, o.f1 + 1, true⟩
  else match t.cu with
    | none => ⟨t.pos, t.dn, some ⟨0, 1, 0⟩, t.d, t.x ++ [o.f2], t.sz + 1, t.at_, t.any⟩
    | some s => ⟨t.pos, t.dn, some ⟨s.f0, s.f1 + 1, 0⟩, t.d, t.x ++ [o.f2], t.sz + 1, t.at_, t.any⟩
/-- What holds of it. -/
structure WOk (t : WS) : Prop where
  a : t.any = true → t.cu ≠ none
  c : t.cu = none → t.dn = [] ∧ t.d = [] ∧ t.x = []
  s : ∀ s, t.cu = some s → s.f2 = 0 ∧ 0 ≤ s.f0 ∧ s.f0 ≤ t.sz ∧ 0 ≤ s.f1 ∧ s.f1 ≤ t.sz
  n : t.dn.length + t.cu.toList.length ≤ t.sz
  dx : t.d.length + t.x.length = t.sz
theorem wok0 : WOk ws0 := ⟨(fun h => by cases h), (fun _ => ⟨rfl, rfl, rfl⟩), (fun s h => by cases h), (by simp [ws0]), (by simp [ws0])⟩
theorem tkw_ok {t : WS} {o : S94} (h : WOk t) : WOk (tkw t o) := by
  obtain ⟨pos, dn, cu, d, x, sz, at_, any⟩ := t
  obtain ⟨h1, h2, h3, h4, h5⟩ := h
  simp only at h1 h2 h3 h4 h5
  unfold tkw
  simp only [WS.st]
  by_cases hf : o.f0 = true
  · rw [if_pos hf]
    cases any with
    | false =>
      rw [if_pos rfl]
      exact ⟨(fun _ => by simp), (fun h => by simp at h), (fun s hs => by simp at hs; subst hs; simp; omega), (by simp at h4 ⊢; omega), (by simp; omega)⟩
    | true =>
      rw [if_neg (by simp)]
      cases cu with
      | none => exact absurd rfl (h1 rfl)
      | some s =>
        have hs := h3 s rfl
        simp only
        split
        · exact ⟨(fun _ => by simp), (fun h => by simp at h), (fun s' hs' => by simp at hs'; subst hs'; simp; omega), (by simp at h4 ⊢; omega), (by simp; omega)⟩
        · exact ⟨(fun _ => by simp), (fun h => by simp at h), (fun s' hs' => by simp at hs'; subst hs'; simp; omega), (by simp at h4 ⊢; omega), (by simp; omega)⟩
  · rw [if_neg hf]
    cases cu with
    | none => exact ⟨(fun _ => by simp), (fun h => by simp at h), (fun s hs => by simp at hs; subst hs; simp; omega), (by simp at h4 ⊢; omega), (by simp; omega)⟩
    | some s =>
      have hs := h3 s rfl
      exact ⟨(fun _ => by simp), (fun h => by simp at h), (fun s' hs' => by simp at hs'; subst hs'; simp; omega), (by simp at h4 ⊢; omega), (by simp; omega)⟩
/-- take, by contract. -/
theorem take_c {base : Nat} {W0 : World} {S0 : Nat → Prop} {Z : List (Nat × Obj)} {W : World} {Bm : Nat} {s d x : Value} {t : WS} {o : S94} (h : Mq base W0 S0 Z W W Bm s d x t.st t.d t.x t.wx) (ok : WOk t) (hz : t.sz ≤ 65536) (ho : -1152921504606846976 ≤ o.f1 ∧ o.f1 ≤ 1152921504606846976) (ha : -1152921504606846976 ≤ t.at_ ∧ t.at_ ≤ 1152921504606846976) :
    Calls Try.prog 42 #[.pointer (some ⟨Bm, 0, none⟩), enc91 o] W (fun e w' => e = .returned (.tuple #[]) ∧ ∃ s d x, Mq base W0 S0 Z W w' Bm s d x (tkw t o).st (tkw t o).d (tkw t o).x (tkw t o).wx) := by
  obtain ⟨pos, dn, cu, dl, xl, sz, at_, any⟩ := t
  obtain ⟨of0, p, b⟩ := o
  obtain ⟨h1, h2, h3, h4, h5⟩ := ok
  simp only at h1 h2 h3 h4 h5 hz ho ha
  simp only [WS.st, WS.wx] at h ⊢
  unfold enc91
  simp only
  cases of0 with
  | true =>
    cases any with
    | false =>
      have hl : (dn ++ cu.toList).length ≤ 65536 := by rw [List.length_append]; omega
      refine (take_p3 base W0 S0 Z W Bm s d x dl xl pos sz at_ p b (dn ++ cu.toList) 0 h (by omega) (by omega) (by omega) ho (by omega) rfl).mono ?_
      rintro e w' ⟨he, s', d', x', hq⟩
      refine ⟨he, s', d', x', ?_⟩
      simp only [tkw, WS.st, if_true]
      exact hq
    | true =>
      cases cu with
      | none => exact absurd rfl (h1 rfl)
      | some c =>
        obtain ⟨c0, c1, c2⟩ := c
        obtain ⟨hc2, hc0, hc0', hc1, hc1'⟩ := h3 _ rfl
        simp only at hc2 hc0 hc0' hc1 hc1'
        subst hc2
        simp only [Option.toList_some, List.length_cons, List.length_nil] at h h4
        by_cases hg : c1 = 0 ∧ p = at_
        · obtain ⟨rfl, rfl⟩ := hg
          refine (take_p4 base W0 S0 Z W Bm s d x dl xl pos sz p p b dn c0 h (by omega) (by omega) (by omega) ho (by omega) (by omega) rfl).mono ?_
          rintro e w' ⟨he, s', d', x', hq⟩
          refine ⟨he, s', d', x', ?_⟩
          simp only [tkw, if_true]
          exact hq
        · by_cases hcc : 0 < c1
          · refine (take_p5a base W0 S0 Z W Bm s d x dl xl pos sz at_ p b dn c0 c1 0 0 h (by omega) (by omega) (by omega) ho (by omega) ha rfl hcc).mono ?_
            rintro e w' ⟨he, s', d', x', hq⟩
            refine ⟨he, s', d', x', ?_⟩
            simp only [tkw, if_true, if_neg hg]
            exact hq
          · have hc10 : c1 = 0 := by omega
            refine (take_p5b base W0 S0 Z W Bm s d x dl xl pos sz at_ p b dn c0 c1 0 0 h (by omega) (by omega) (by omega) ho (by omega) ha rfl hc10 (fun hp => hg ⟨hc10, hp⟩)).mono ?_
            rintro e w' ⟨he, s', d', x', hq⟩
            refine ⟨he, s', d', x', ?_⟩
            simp only [tkw, if_true, if_neg hg]
            exact hq
  | false =>
    cases cu with
    | none =>
      obtain ⟨rfl, _, _⟩ := h2 rfl
      refine (take_p1 base W0 S0 Z W Bm s d x dl xl pos sz at_ p b [] 0 0 any h (by omega) (by omega) (by omega) ho rfl ⟨rfl, rfl⟩).mono ?_
      rintro e w' ⟨he, s', d', x', hq⟩
      refine ⟨he, s', d', x', ?_⟩
      simp only [tkw]
      exact hq
    | some c =>
      obtain ⟨c0, c1, c2⟩ := c
      obtain ⟨hc2, hc0, hc0', hc1, hc1'⟩ := h3 _ rfl
      simp only at hc2 hc0 hc0' hc1 hc1'
      subst hc2
      simp only [Option.toList_some, List.length_cons, List.length_nil] at h h4
      refine (take_p2 base W0 S0 Z W Bm s d x dl xl pos sz at_ p b dn c0 c1 any h (by omega) (by omega) (by omega) ho (by omega) (by omega)).mono ?_
      rintro e w' ⟨he, s', d', x', hq⟩
      refine ⟨he, s', d', x', ?_⟩
      simp only [tkw]
      exact hq
end Go.Proofs.Ytinlfoblpgpikaa
namespace Go.Proofs.Ytinlfoblpgpikaa
open Go.RowKit Go.Shelf Go.Proofs.YtinlfoblpgpikaaW.PrintWords Go.Proofs.YtinlfoblpgpikaaW.PrintLast Go.Proofs.YtinlfoblpgpikaaW.PrintMore Go.Proofs.Ytinlfoblpgpikaa.Pr
set_option linter.unusedVariables false
set_option linter.unusedSimpArgs false
def winY (t : WS) : S43 := ⟨t.pos, ⟨t.st, t.d, t.x⟩⟩
/-- One byte more: the window that is being made, the windows that are. -/
def cutS (size : Nat) (st : WS × List S43) (o : S94) : WS × List S43 := if (tkw st.1 o).sz = size then (ws0, st.2 ++ [winY (tkw st.1 o)]) else (tkw st.1 o, st.2)
def cutN (size : Nat) (L : List S94) : WS × List S43 := L.foldl (cutS size) (ws0, [])
def cutL (size : Nat) (L : List S94) : List S43 := if 0 < (cutN size L).1.sz then (cutN size L).2 ++ [winY (cutN size L).1] else (cutN size L).2
/-- What Cut answers. -/
def cutR (st : List S82) (d x : List Int) (win : Int) : List S43 × Int :=
  if win < 64 ∨ 65536 < win then ([], 170) else if checked st d x 16777216 ((d.length : Int) + (x.length : Int)) ≠ 0 then ([], checked st d x 16777216 ((d.length : Int) + (x.length : Int))) else (cutL win.toNat (og st d x 0), 0)
theorem cutN_snoc (size : Nat) (L : List S94) (i : Nat) (h : i < L.length) : cutN size (L.take (i + 1)) = cutS size (cutN size (L.take i)) (L.getD i z94) := by
  unfold cutN
  rw [List.take_succ_eq_append_getElem h, List.foldl_append]
  simp [List.getD_eq_getElem?_getD, List.getElem?_eq_getElem h]
theorem tkw_sz {t : WS} {o : S94} (h : WOk t) : (tkw t o).sz = t.sz + 1 := by
  unfold tkw
  by_cases hf : o.f0 = true
  · rw [if_pos hf]
    by_cases ha : t.any = false
    · rw [if_pos ha]
    · rw [if_neg ha]
      cases hc : t.cu with
      | none => exact absurd hc (h.a (by simpa using ha))
      | some s => simp only; split <;> rfl
  · rw [if_neg hf]
    cases t.cu <;> rfl
theorem tkw_at {t : WS} {o : S94} (h : 0 ≤ t.at_ ∧ t.at_ ≤ 16777217) (ho : 0 ≤ o.f1 ∧ o.f1 ≤ 16777216) : 0 ≤ (tkw t o).at_ ∧ (tkw t o).at_ ≤ 16777217 := by
  unfold tkw
  split
  · split
    · simp only; omega
    · split
      · exact h
      · split <;> simp only <;> omega
  · split <;> exact h
/-- What holds while it is cut. -/
structure CInv (size : Nat) (L : List S94) (i : Nat) (t : WS) (l : List S43) : Prop where
  e : cutN size (L.take i) = (t, l)
  ok : WOk t
  lt : t.sz < size
  at_ : 0 ≤ t.at_ ∧ t.at_ ≤ 16777217
  n : l.length * size + t.sz = i
theorem CInv.start {size : Nat} (L : List S94) (h : 0 < size) : CInv size L 0 ws0 [] := ⟨rfl, wok0, h, by decide, by simp [ws0]⟩
theorem CInv.full {size : Nat} {L : List S94} {i : Nat} {t : WS} {l : List S43} (h : CInv size L i t l) (hi : i < L.length) (ho : 0 ≤ (L.getD i z94).f1 ∧ (L.getD i z94).f1 ≤ 16777216) (hf : t.sz + 1 = size) : CInv size L (i + 1) ws0 (l ++ [winY (tkw t (L.getD i z94))]) := by
  refine ⟨?_, wok0, by have := h.lt; show 0 < size; omega, by decide, ?_⟩
  · rw [cutN_snoc size L i hi, h.e]
    exact if_pos (by rw [tkw_sz h.ok]; exact hf)
  · rw [List.length_append, List.length_singleton, Nat.add_mul, Nat.one_mul]
    have := h.n
    show l.length * size + size + 0 = i + 1
    omega
theorem CInv.more {size : Nat} {L : List S94} {i : Nat} {t : WS} {l : List S43} (h : CInv size L i t l) (hi : i < L.length) (ho : 0 ≤ (L.getD i z94).f1 ∧ (L.getD i z94).f1 ≤ 16777216) (hf : t.sz + 1 ≠ size) : CInv size L (i + 1) (tkw t (L.getD i z94)) l := by
  refine ⟨?_, tkw_ok h.ok, by rw [tkw_sz h.ok]; have := h.lt; omega, tkw_at h.at_ ho, by rw [tkw_sz h.ok]; have := h.n; omega⟩
  rw [cutN_snoc size L i hi, h.e]
  exact if_neg (by rw [tkw_sz h.ok]; exact hf)
theorem CInv.done {size : Nat} {L : List S94} {t : WS} {l : List S43} (h : CInv size L L.length t l) : cutL size L = if 0 < t.sz then l ++ [winY t] else l := by
  have := h.e
  rw [List.take_length] at this
  unfold cutL
  rw [this]
theorem og_bd (C M : Int) (hC : C ≤ 200000000000000) (hM : M = 33554432) : ∀ (st : List S82) (d x : List Int) (a : Int), st.all may = true → (M * (st.length : Int) - C ≤ a ∧ a ≤ C - M * (st.length : Int)) → rds 16777216 st a = true → ∀ o ∈ og st d x a, 0 ≤ o.f1 ∧ o.f1 ≤ 16777216
  | [], d, x, a, _, _, _, o, ho => by cases ho
  | s :: l, d, x, a, hm, ha, hr, o, ho => by
    rw [List.all_cons, Bool.and_eq_true] at hm
    have hs := (may_iff s).1 hm.1
    have e : M * (((s :: l).length : Nat) : Int) = M * (l.length : Int) + M := by
      rw [List.length_cons, show ((l.length + 1 : Nat) : Int) = (l.length : Int) + 1 by omega, Int.mul_add, Int.mul_one]
    rw [e] at ha
    obtain ⟨q, hq⟩ : ∃ q, M * (l.length : Int) = q := ⟨_, rfl⟩
    have hq0 : 0 ≤ q := by rw [← hq]; exact Int.mul_nonneg (by omega) (by omega)
    rw [hq] at ha
    rw [rds] at hr
    split at hr
    · cases hr
    · rename_i hn
      rw [og] at ho
      rcases List.mem_append.1 ho with ho | ho
      · obtain ⟨i, hi, rfl⟩ := List.mem_map.1 ho
        have hi := List.mem_range.1 hi
        simp only
        rw [w64 a (by omega), w64 (a + s.f0) (by omega)] at hn
        rw [w64 _ (by omega)]
        omega
      · rcases List.mem_append.1 ho with ho | ho
        · obtain ⟨b, _, rfl⟩ := List.mem_map.1 ho
          simp
        · refine og_bd C M hC hM l _ _ (a + s.f0.toNat + s.f2) hm.2 (by rw [hq]; omega) ?_ o ho
          rw [show a + (s.f0.toNat : Int) + s.f2 = a + s.f0 + s.f2 by omega]
          exact hr
theorem checked_zero {st : List S82} {d x : List Int} {old size : Int} (h : checked st d x old size = 0) : st.all may = true ∧ sA st = d.length ∧ sC st = x.length ∧ sA st + sC st ≤ 16777216 ∧ rds old st 0 = true := by
  unfold checked at h
  split at h
  · cases h
  · unfold ited at h
    split at h
    · rename_i hm
      split at h
      · rename_i hs
        simp only at h
        split at h
        · rename_i h0; exact absurd rfl h0
        · split at h
          · cases h
          · split at h
            · rename_i hr
              exact ⟨hm, hs.2.1, hs.2.2, hs.1, hr⟩
            · cases h
      · simp only at h
        split at h
        · cases h
        · rename_i h0; exact absurd (by decide) h0
    · simp only at h
      split at h
      · cases h
      · rename_i h0; exact absurd (by decide) h0
end Go.Proofs.Ytinlfoblpgpikaa
