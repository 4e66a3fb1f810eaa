/- cutter: what Cut holds while it cuts: the windows so far, the one that is being made. -/
import Derived.Test.YtinlfoblpgpikaaWt
import Derived.Test.YtinlfoblpgpikaaWy
import Derived.Test.YtinlfoblpgpikaaE6
namespace Go.Proofs.Ytinlfoblpgpikaa
open Go.RowKit Go.Shelf Go.Proofs.YtinlfoblpgpikaaW.PrintWords Go.Proofs.YtinlfoblpgpikaaW.PrintLast Go.Proofs.YtinlfoblpgpikaaW.PrintMore Go.Proofs.Ytinlfoblpgpikaa.Pr
set_option linter.unusedVariables false
set_option linter.unusedSimpArgs false
theorem ways_calls (A0 : Option Addr) (c0 : Nat) (st : List S82) (A1 : Option Addr) (c1 : Nat) (d : List Int) (A2 : Option Addr) (c2 : Nat) (x : List Int) (w : World) (h : EdC w A0 c0 st A1 c1 d A2 c2 x) :
    Calls Try.prog 41 #[.agg #[.slice A0 st.length c0, .slice A1 d.length c1, .slice A2 x.length c2]] w fun e w' => ∃ Be, e = .returned (.func (.func 61) #[] #[.pointer (some ⟨Be, 0, none⟩)]) ∧ EdB w' Be A0 c0 st A1 c1 d A2 c2 x ∧ Below w.heap.size w w' ∧ w.heap.size ≤ Be := by
  have H := Hd.mk h
  clear h
  have hmf : ∀ (fn : Fn) (first cap : Array Value) (w : World), (Instr.makeFunc fn first cap).run Try.prog w = .ok (.func fn first cap) w := fun _ _ _ _ => rfl
  go_enter Try.func41, Try.ntmps41
  go_wp2
  go_ret
  have hb : Below w.heap.size w (w.alloc (.cells #[.slice A0 st.length c0, .slice A1 d.length c1, .slice A2 x.length c2] 29)) := (Below.refl _ _).alloc (Nat.le_refl _) _
  exact ⟨w.heap.size, rfl, ⟨blk_new w _, H.out.below hb⟩, hb, Nat.le_refl _⟩
theorem eltW : Elt Try.prog 31 43 (.agg #[.int .i64 0, .slice none 0 0, .slice none 0 0, .slice none 0 0]) 4 80 := ⟨Try.underlying31, by kernel_rfl, rfl, by decide, by decide⟩
structure CB (w0 : World) (Bl Bm : Nat) (X : List (Nat × Obj)) (W : World) (v : Value) (cs : List Value) (n : Nat) (s d x : Value) (sl : List S82) (dl xl : List Int) (a : Wx) : Prop where
  lb : W.heap[Bl]? = some (.cells #[v] 31 (0, 0))
  hl : w0.heap.size ≤ Bl
  row : W.ownsRow w0.heap.size 43 4 v n cs
  m : Mkr w0.heap.size W Bm s d x sl dl xl a
  fx : ∀ q ∈ X, W.heap[q.1]? = some q.2 ∧ q.2.isCells = true ∧ q.1 ≠ Bl ∧ ¬ MS Bm s d x q.1 ∧ v.ownBlock ≠ some q.1
  be : Below w0.heap.size w0 W
section
variable {w0 : World} {Bl Bm : Nat} {X : List (Nat × Obj)} {W W' : World} {v : Value} {cs : List Value} {n : Nat} {s d x s' d' x' : Value} {sl sl' : List S82} {dl xl dl' xl' : List Int} {a a' : Wx}
theorem CB.bk {k : Nat} (h : CB w0 Bl Bm X W v cs n s d x sl dl xl a) (hn : w0.heap.size ≤ k) (hb : Bk k W W') : CB w0 Bl Bm X W' v cs n s d x sl dl xl a :=
  ⟨hb.block _ _ h.lb (.inl rfl), h.hl, own_bk h.row hb, ⟨hb.block _ _ h.m.b (.inl rfl), h.m.hb, own_bk h.m.rs hb, own_bk h.m.rd hb, own_bk h.m.rx hb, h.m.ne⟩,
    fun q hq => by obtain ⟨h1, h2, h3⟩ := h.fx q hq; exact ⟨hb.block _ _ h1 (.inl h2), h2, h3⟩, Bk.below h.be h.be.size (hb.more hn)⟩
theorem CB.lt (h : CB w0 Bl Bm X W v cs n s d x sl dl xl a) : ∀ k, MS Bm s d x k → k < W.heap.size := by
  intro k hk
  rcases hk with rfl | hk | hk | hk
  · exact blk_lt h.m.b
  · exact own_lt h.m.rs k hk
  · exact own_lt h.m.rd k hk
  · exact own_lt h.m.rx k hk
theorem CB.ge (h : CB w0 Bl Bm X W v cs n s d x sl dl xl a) : ∀ k, MS Bm s d x k → w0.heap.size ≤ k := by
  intro k hk
  rcases hk with rfl | hk | hk | hk
  · exact h.m.hb
  · exact own_base h.m.rs k hk
  · exact own_base h.m.rd k hk
  · exact own_base h.m.rx k hk
theorem CB.grow (h : CB w0 Bl Bm X W v cs n s d x sl dl xl a) (o : Obj) (ho : o.isCells = true) : CB w0 Bl Bm ((W.heap.size, o) :: X) (W.alloc o) v cs n s d x sl dl xl a := by
  have hba := (Below.refl W.heap.size W).alloc (Nat.le_refl _) o
  refine ⟨blk_alloc h.lb o, h.hl, pw_own_below h.row hba, ⟨blk_alloc h.m.b o, h.m.hb, pw_own_below h.m.rs hba, pw_own_below h.m.rd hba, pw_own_below h.m.rx hba, h.m.ne⟩, fun q hq => ?_, h.be.alloc h.be.size _⟩
  have hl := blk_lt h.lb
  rcases List.mem_cons.1 hq with rfl | hq
  · refine ⟨blk_new W o, ho, by simp only; omega, fun hk => ?_, fun hk => ?_⟩
    · have := h.lt _ hk
      simp at this
    · have := own_lt h.row _ hk
      simp at this
  · obtain ⟨h1, h2, h3⟩ := h.fx q hq
    exact ⟨blk_alloc h1 o, h2, h3⟩
theorem CB.less {X' : List (Nat × Obj)} (h : CB w0 Bl Bm X W v cs n s d x sl dl xl a) (hs : ∀ q ∈ X', q ∈ X) : CB w0 Bl Bm X' W v cs n s d x sl dl xl a := ⟨h.lb, h.hl, h.row, h.m, fun q hq => h.fx q (hs q hq), h.be⟩
theorem CB.blm (h : CB w0 Bl Bm X W v cs n s d x sl dl xl a) : ¬ MS Bm s d x Bl := by
  intro hk
  rcases hk with e | hk | hk | hk
  · have := h.lb
    rw [e, h.m.b] at this
    cases this
  · exact own_ne h.m.rs h.lb (by decide) hk.symm
  · exact own_ne h.m.rd h.lb (by decide) hk.symm
  · exact own_ne h.m.rx h.lb (by decide) hk.symm
theorem CB.rowm (h : CB w0 Bl Bm X W v cs n s d x sl dl xl a) : ∀ k, v.ownBlock = some k → ¬ MS Bm s d x k := by
  intro k hv hk
  have key : ∀ {u : Value} {e : TypeId} {sz m : Nat} {us : List Value}, W.ownsRow w0.heap.size e sz u m us → e ≠ 43 → u.ownBlock ≠ some k := fun hu he hu2 => by
    obtain ⟨c1, h1⟩ := own_typed hu k hu2.symm.symm
    obtain ⟨c2, h2⟩ := own_typed h.row k hv.symm.symm
    rw [h1] at h2
    cases h2
    exact he rfl
  rcases hk with rfl | hk | hk | hk
  · exact own_ne h.row h.m.b (by decide) hv.symm
  · exact key h.m.rs (by decide) hk
  · exact key h.m.rd (by decide) hk
  · exact key h.m.rx (by decide) hk
theorem CB.mq (h : CB w0 Bl Bm X W v cs n s d x sl dl xl a) : Mq w0.heap.size W (MS Bm s d x) ((Bl, .cells #[v] 31) :: X) W W Bm s d x sl dl xl a := by
  refine ⟨h.m, Upd.refl _ _, fun k hk => .inl hk, fun q hq => ?_, KeepsOthers.refl _⟩
  rcases List.mem_cons.1 hq with rfl | hq
  · exact ⟨h.lb, h.blm⟩
  · obtain ⟨h1, _, _, h2, _⟩ := h.fx q hq
    exact ⟨h1, h2⟩
theorem CB.took (h : CB w0 Bl Bm X W v cs n s d x sl dl xl a) (hq : Mq w0.heap.size W (MS Bm s d x) ((Bl, .cells #[v] 31) :: X) W W' Bm s' d' x' sl' dl' xl' a') : CB w0 Bl Bm X W' v cs n s' d' x' sl' dl' xl' a' := by
  refine ⟨(hq.z _ List.mem_cons_self).1, h.hl, own_upd h.row hq.u (fun k hk => h.rowm k hk), hq.m, fun q hq2 => ?_, ?_⟩
  · obtain ⟨h1, h2, h3, h4, h5⟩ := h.fx q hq2
    obtain ⟨g1, g2⟩ := hq.z q (List.mem_cons_of_mem _ hq2)
    exact ⟨g1, h2, h3, g2, h5⟩
  · exact h.be.trans (hq.u.below h.be.size (fun k hk hm => by have := h.ge k hm; omega))
theorem CB.forms (h : CB w0 Bl Bm X W v cs n s d x sl dl xl a) : ∃ A0 c0 A1 c1 A2 c2, s = .slice A0 sl.length c0 ∧ d = .slice A1 dl.length c1 ∧ x = .slice A2 xl.length c2 := by
  obtain ⟨A0, c0, h0⟩ := own_slice h.m.rs
  obtain ⟨A1, c1, h1⟩ := own_slice h.m.rd
  obtain ⟨A2, c2, h2⟩ := own_slice h.m.rx
  exact ⟨A0, c0, A1, c1, A2, c2, h0, h1, h2⟩
def winC (a : Wx) (s d x : Value) : List Value := [.int .i64 a.pos, s, d, x]
theorem CB.push2 (h : CB w0 Bl Bm X W v cs n s d x sl dl xl a) (hn : n ≤ 1000000) : ∃ v' w1,
    (Builtin.append_ #[31, 31] 31 #[v, .slice (some ⟨W.heap.size, 0, none⟩) 1 1]).run Try.prog (W.alloc (.cells #[.int .i64 a.pos, s, d, x] 43)) = .ok v' w1 ∧
      w1.heap[Bl]? = some (.cells #[v] 31 (0, 0)) ∧ KeepsOthers W (w1.setCell ⟨Bl, 0, none⟩ v') ∧ CB w0 Bl Bm X (w1.setCell ⟨Bl, 0, none⟩ v') v' (cs ++ winC a s d x) (n + 1) s d x sl dl xl a ∧ Upd (fun k => v.ownBlock = some k ∨ k = Bl) W (w1.setCell ⟨Bl, 0, none⟩ v') := by
  obtain ⟨A0, c0, A1, c1, A2, c2, e0, e1, e2⟩ := h.forms
  obtain ⟨O, hO⟩ : ∃ O, (Obj.cells #[.int .i64 a.pos, s, d, x] 43) = O := ⟨_, rfl⟩
  have hba : Below W.heap.size W (W.alloc O) := (Below.refl _ _).alloc (Nat.le_refl _) _
  have hrow := pw_own_below h.row hba
  have hsrc : Src (W.alloc O) (some ⟨W.heap.size, 0, none⟩) 1 4 (winC a s d x) := by
    refine ⟨rfl, fun j u hj => ?_, by rw [e0, e1, e2]; simp [winC, Value.oneCell']⟩
    have hj4 : j < 4 := by
      rcases Nat.lt_or_ge j 4 with h3 | h3
      · exact h3
      · rw [List.getElem?_eq_none (by simpa [winC] using h3)] at hj; cases hj
    have hbn : (W.alloc O).heap[W.heap.size]? = some (.cells #[.int .i64 a.pos, s, d, x] 43) := by rw [hO]; exact blk_new W O
    refine ⟨_, rfl, ?_⟩
    match j, hj4, hj with
    | 0, _, hj => rw [add_plain, blk_cell hbn, ← hj]; rfl
    | 1, _, hj => rw [add_plain, blk_cell hbn, ← hj]; rfl
    | 2, _, hj => rw [add_plain, blk_cell hbn, ← hj]; rfl
    | 3, _, hj => rw [add_plain, blk_cell hbn, ← hj]; rfl
  rw [hO]
  obtain ⟨v', w', hrun, ho, hg, hp, _⟩ := run_app (P := Try.prog) (W.alloc O) w0.heap.size 31 31 43 (.agg #[.int .i64 0, .slice none 0 0, .slice none 0 0, .slice none 0 0]) 4 80 eltW v _ _ hrow (some ⟨W.heap.size, 0, none⟩) 1 1 (winC a s d x) hsrc (by omega) (Nat.le_trans h.be.size hba.size)
  have hlba := blk_alloc h.lb O
  have hlb' := blk_grown hlba hg (own_ne hrow hlba (by decide))
  have hmb' := blk_grown (blk_alloc h.m.b O) hg (own_ne hrow (blk_alloc h.m.b O) (by decide))
  have hltl := blk_lt h.lb
  have hnew : ∀ k, v'.ownBlock = some k → v.ownBlock = some k ∨ k = W.heap.size + 1 := by
    intro k hk
    rcases hp.block with e | e
    · exact .inl (by rw [← e]; exact hk)
    · rw [e] at hk; cases hk; exact .inr (by simp)
  have hMne : ∀ k, MS Bm s d x k → v'.ownBlock ≠ some k := by
    intro k hk e
    rcases hnew k e with q | q
    · exact h.rowm k q hk
    · have := h.lt k hk; omega
  have hneb : v'.ownBlock ≠ some Bl := by
    intro e
    rcases hnew _ e with q | q
    · exact own_ne h.row h.lb (by decide) q.symm
    · omega
  have oth : ∀ {u : Value} {e : TypeId} {sz m : Nat} {us : List Value}, W.ownsRow w0.heap.size e sz u m us → (∀ k, u.ownBlock = some k → MS Bm s d x k) → (w'.setCell ⟨Bl, 0, none⟩ v').ownsRow w0.heap.size e sz u m us := fun {u e sz m us} hu hk => by
    have h1 := pw_own_below hu hba
    have h2 := own_other h1 hg (by
      cases hq : u.ownBlock with
      | none => exact .inl rfl
      | some g => exact .inr (fun e => h.rowm g e.symm (hk g hq)))
    refine own_setCell h2 (p := ⟨Bl, 0, none⟩) (fun e => ?_) _
    exact h.blm (hk _ e.symm)
  have hbln : Bl ≠ Bm := fun e => h.blm (.inl e)
  refine ⟨v', w', hrun, hlb', ?_, ⟨?_, h.hl, ?_, ?_, ?_, ?_⟩, ?_⟩
  · refine ((KeepsOthers.alloc W _).trans (KeepsOthers.of_grownBy hg (fun j o ej hj => ?_))).trans (KeepsOthers.setCell _ _ _)
    obtain ⟨cells, hc⟩ := own_typed hrow j ej.symm.symm
    rw [hc] at hj
    cases hj
    rfl
  · have := blk_set hlb' 0 v'
    simpa using this
  · exact own_setCell ho (p := ⟨Bl, 0, none⟩) (fun e => hneb e.symm) _
  · exact ⟨(Below.heap_setCell w' ⟨Bl, 0, none⟩ v' Bm (Ne.symm hbln)).trans hmb', h.m.hb, oth h.m.rs (fun k hk => .inr (.inl hk)), oth h.m.rd (fun k hk => .inr (.inr (.inl hk))), oth h.m.rx (fun k hk => .inr (.inr (.inr hk))), h.m.ne⟩
  · intro q hq
    obtain ⟨h1, h2, h3, h4, h5⟩ := h.fx q hq
    have hlt := blk_lt h1
    refine ⟨(Below.heap_setCell w' ⟨Bl, 0, none⟩ v' q.1 h3).trans (blk_grown (blk_alloc h1 O) hg (fun e => h5 e.symm)), h2, h3, h4, fun e => ?_⟩
    rcases hnew _ e with q' | q'
    · exact h5 q'
    · omega
  · exact ((h.be.alloc h.be.size _).grown hg (Nat.le_trans h.be.size hba.size) (own_base hrow)).setCell h.hl _
  · exact (((Upd.refl _ W).alloc O).trans (S' := fun k => v.ownBlock = some k ∨ k = Bl) (Upd.of_grown hg (fun k e => .inl e)) (fun _ _ h => h)).setCell _ (.inl (.inr rfl)) _
theorem CB.push (h : CB w0 Bl Bm X W v cs n s d x sl dl xl a) (hn : n ≤ 1000000) : ∃ v' w1,
    (Builtin.append_ #[31, 31] 31 #[v, .slice (some ⟨W.heap.size, 0, none⟩) 1 1]).run Try.prog (W.alloc (.cells #[.int .i64 a.pos, s, d, x] 43)) = .ok v' w1 ∧
      w1.heap[Bl]? = some (.cells #[v] 31 (0, 0)) ∧ KeepsOthers W (w1.setCell ⟨Bl, 0, none⟩ v') ∧ CB w0 Bl Bm X (w1.setCell ⟨Bl, 0, none⟩ v') v' (cs ++ winC a s d x) (n + 1) s d x sl dl xl a := by
  obtain ⟨v', w1, h1, h2, h3, h4, _⟩ := h.push2 hn
  exact ⟨v', w1, h1, h2, h3, h4⟩
theorem CB.reset (h : CB w0 Bl Bm X W v cs n s d x sl dl xl a) : KeepsOthers W (((((((W.setCell ⟨Bm, 0, none⟩ (.int .i64 0)).setCell ⟨Bm, 1, none⟩ (.slice none 0 0)).setCell ⟨Bm, 2, none⟩ (.slice none 0 0)).setCell ⟨Bm, 3, none⟩ (.slice none 0 0)).setCell ⟨Bm, 4, none⟩ (.int .i64 0)).setCell ⟨Bm, 5, none⟩ (.int .i64 0)).setCell ⟨Bm, 6, none⟩ (.bool false)) ∧
    CB w0 Bl Bm X (((((((W.setCell ⟨Bm, 0, none⟩ (.int .i64 0)).setCell ⟨Bm, 1, none⟩ (.slice none 0 0)).setCell ⟨Bm, 2, none⟩ (.slice none 0 0)).setCell ⟨Bm, 3, none⟩ (.slice none 0 0)).setCell ⟨Bm, 4, none⟩ (.int .i64 0)).setCell ⟨Bm, 5, none⟩ (.int .i64 0)).setCell ⟨Bm, 6, none⟩ (.bool false)) v cs n (.slice none 0 0) (.slice none 0 0) (.slice none 0 0) [] [] [] ⟨0, 0, 0, false⟩ := by
  have hbln : Bl ≠ Bm := fun e => h.blm (.inl e)
  have far : ∀ (q j : Nat) (W : World) (u : Value), q ≠ Bm → (W.setCell ⟨Bm, j, none⟩ u).heap[q]? = W.heap[q]? := fun q j W u e => Below.heap_setCell W ⟨Bm, j, none⟩ u q e
  have f7 : ∀ q, q ≠ Bm → (((((((W.setCell ⟨Bm, 0, none⟩ (.int .i64 0)).setCell ⟨Bm, 1, none⟩ (.slice none 0 0)).setCell ⟨Bm, 2, none⟩ (.slice none 0 0)).setCell ⟨Bm, 3, none⟩ (.slice none 0 0)).setCell ⟨Bm, 4, none⟩ (.int .i64 0)).setCell ⟨Bm, 5, none⟩ (.int .i64 0)).setCell ⟨Bm, 6, none⟩ (.bool false)).heap[q]? = W.heap[q]? := fun q e =>
    (far q _ _ _ e).trans ((far q _ _ _ e).trans ((far q _ _ _ e).trans ((far q _ _ _ e).trans ((far q _ _ _ e).trans ((far q _ _ _ e).trans (far q _ _ _ e))))))
  have hb := blk_set (blk_set (blk_set (blk_set (blk_set (blk_set (blk_set h.m.b 0 (.int .i64 0)) 1 (.slice none 0 0)) 2 (.slice none 0 0)) 3 (.slice none 0 0)) 4 (.int .i64 0)) 5 (.int .i64 0)) 6 (.bool false)
  have hrb : ∀ (j : Nat) (W : World) (u : Value), (W.ownsRow w0.heap.size 43 4 v n cs) → (W.setCell ⟨Bm, j, none⟩ u).ownsRow w0.heap.size 43 4 v n cs := fun j W u hr => own_setCell hr (p := ⟨Bm, j, none⟩) (fun e => own_ne h.row h.m.b (by decide) e) _
  have hbs : ∀ (j : Nat) (W : World) (u : Value), Below w0.heap.size w0 W → Below w0.heap.size w0 (W.setCell ⟨Bm, j, none⟩ u) := fun j W u hw => hw.setCell h.m.hb _
  refine ⟨?_, (f7 Bl hbln).trans h.lb, h.hl, hrb _ _ _ (hrb _ _ _ (hrb _ _ _ (hrb _ _ _ (hrb _ _ _ (hrb _ _ _ (hrb _ _ _ h.row)))))), ⟨by simpa using hb, h.m.hb, own_nil _ _ _ _, own_nil _ _ _ _, own_nil _ _ _ _, fun g e => by cases e⟩, fun q hq => ?_, hbs _ _ _ (hbs _ _ _ (hbs _ _ _ (hbs _ _ _ (hbs _ _ _ (hbs _ _ _ (hbs _ _ _ h.be))))))⟩
  · exact (((((((KeepsOthers.setCell _ _ _).trans (KeepsOthers.setCell _ _ _)).trans (KeepsOthers.setCell _ _ _)).trans (KeepsOthers.setCell _ _ _)).trans (KeepsOthers.setCell _ _ _)).trans (KeepsOthers.setCell _ _ _)).trans (KeepsOthers.setCell _ _ _))
  · obtain ⟨h1, h2, h3, h4, h5⟩ := h.fx q hq
    have hqm : q.1 ≠ Bm := fun e => h4 (.inl e)
    refine ⟨(f7 q.1 hqm).trans h1, h2, h3, fun hk => ?_, h5⟩
    rcases hk with hk | hk | hk | hk
    · exact hqm hk
    · cases hk
    · cases hk
    · cases hk
end
end Go.Proofs.Ytinlfoblpgpikaa
