/- cutter: Cut, by contract. -/
import Derived.Test.YtinlfoblpgpikaaZ3
import Derived.Test.YtinlfoblpgpikaaZ5
namespace Go.Proofs.Ytinlfoblpgpikaa
open Go.RowKit Go.Shelf Go.Proofs.YtinlfoblpgpikaaW.PrintWords Go.Proofs.YtinlfoblpgpikaaW.PrintLast Go.Proofs.YtinlfoblpgpikaaW.PrintMore Go.Proofs.Ytinlfoblpgpikaa.Pr
set_option linter.unusedVariables false
set_option linter.unusedSimpArgs false
attribute [local go_sem] Oper.semAt_some
theorem leaveCut' {tmps : Array Value} {W : World} {R : Ending → World → Prop} {v u : Value} (h4 : tmps.getD 4 undef = v) (h5 : tmps.getD 5 undef = u) (h : R (.returned (.tuple #[v, u])) W) :
    LeavesInM Fence.wide 0 Try.prog Try.f13 tmps R [] .returning W := by
  refine ⟨.tuple #[v, u], ?_, h⟩
  have h4' : tmps[4]?.getD undef = v := by simpa using h4
  have h5' : tmps[5]?.getD undef = u := by simpa using h5
  simp [results, Try.results13, go_sem, h4', h5']
theorem WvO.bk {W W' : World} {base n : Nat} {a : Wv} (h : WvO W base a) (k : Bk n W W') : WvO W' base a := ⟨own_bk h.s k, own_bk h.d k, own_bk h.x k, h.ne⟩
/-- The windows that are made, the one that is being made. -/
structure CC (size : Nat) (L : List S94) (w0 : World) (Bl Bm : Nat) (X : List (Nat × Obj)) (i : Nat) (W : World) (v : Value) (l : List Wv) (s d x : Value) (t : WS) : Prop where
  b : CB w0 Bl Bm X W v (cellsW l) l.length s d x t.st t.d t.x t.wx
  inv : CInv size L i t (l.map Wv.y)
  el : ∀ a ∈ l, WvO W w0.heap.size a
  df : ∀ a ∈ l, ∀ k, a.B k → ¬ MS Bm s d x k
  dis : l.Pairwise (fun a b => ∀ k, a.B k → ¬ b.B k)
section
variable {size : Nat} {L : List S94} {w0 : World} {Bl Bm : Nat} {X : List (Nat × Obj)} {i : Nat} {W W' : World} {v : Value} {l : List Wv} {s d x s' d' x' : Value} {t : WS}
theorem CC.bk {k : Nat} (h : CC size L w0 Bl Bm X i W v l s d x t) (hn : w0.heap.size ≤ k) (hb : Bk k W W') : CC size L w0 Bl Bm X i W' v l s d x t :=
  ⟨h.b.bk hn hb, h.inv, fun a ha => (h.el a ha).bk hb, h.df, h.dis⟩
theorem CC.grow (h : CC size L w0 Bl Bm X i W v l s d x t) (o : Obj) (ho : o.isCells = true) : CC size L w0 Bl Bm ((W.heap.size, o) :: X) i (W.alloc o) v l s d x t :=
  ⟨h.b.grow o ho, h.inv, fun a ha => (h.el a ha).below ((Below.refl _ _).alloc (Nat.le_refl _) o), h.df, h.dis⟩
theorem CC.less {X' : List (Nat × Obj)} (h : CC size L w0 Bl Bm X i W v l s d x t) (hs : ∀ q ∈ X', q ∈ X) : CC size L w0 Bl Bm X' i W v l s d x t :=
  ⟨h.b.less hs, h.inv, h.el, h.df, h.dis⟩
/-- A window more. -/
theorem CC.push (h : CB w0 Bl Bm X W v (cellsW l) l.length s d x t.st t.d t.x t.wx) (hel : ∀ a ∈ l, WvO W w0.heap.size a) (hdf : ∀ a ∈ l, ∀ k, a.B k → ¬ MS Bm s d x k) (hdis : l.Pairwise (fun a b => ∀ k, a.B k → ¬ b.B k)) (hn : l.length ≤ 1000000) : ∃ v' w1,
    (Builtin.append_ #[31, 31] 31 #[v, .slice (some ⟨W.heap.size, 0, none⟩) 1 1]).run Try.prog (W.alloc (.cells #[.int .i64 t.pos, s, d, x] 43)) = .ok v' w1 ∧
      w1.heap[Bl]? = some (.cells #[v] 31 (0, 0)) ∧ KeepsOthers W (w1.setCell ⟨Bl, 0, none⟩ v') ∧ CB w0 Bl Bm X (w1.setCell ⟨Bl, 0, none⟩ v') v' (cellsW (l ++ [(⟨s, d, x, winY t⟩ : Wv)])) (l ++ [(⟨s, d, x, winY t⟩ : Wv)]).length s d x t.st t.d t.x t.wx ∧
      (∀ a ∈ l ++ [(⟨s, d, x, winY t⟩ : Wv)], WvO (w1.setCell ⟨Bl, 0, none⟩ v') w0.heap.size a) ∧ (l ++ [(⟨s, d, x, winY t⟩ : Wv)]).Pairwise (fun a b => ∀ k, a.B k → ¬ b.B k) := by
  obtain ⟨v', w1, hrun, hlb, hko, hcb, hu⟩ := h.push2 hn
  refine ⟨v', w1, hrun, hlb, hko, ?_, fun a ha => ?_, ?_⟩
  · rw [cellsW_snoc, List.length_append]
    exact hcb
  · rcases List.mem_append.1 ha with ha | ha
    · refine (hel a ha).upd hu (fun k hk hs => ?_)
      rcases hs with hs | hs
      · exact (hel a ha).not43 h.row k hs hk
      · subst hs
        exact (hel a ha).notblk h.lb (by decide) (by decide) hk
    · obtain rfl := List.mem_singleton.1 ha
      exact ⟨hcb.m.rs, hcb.m.rd, hcb.m.rx, fun k hk hk2 => hcb.m.ne k hk hk2⟩
  · rw [List.pairwise_append]
    refine ⟨hdis, List.pairwise_singleton _ _, fun a ha b hb k hk hk2 => ?_⟩
    obtain rfl := List.mem_singleton.1 hb
    exact hdf a ha k hk (.inr hk2)
theorem CC.took {o : S94} (h : CC size L w0 Bl Bm X i W v l s d x t) (hq : Mq w0.heap.size W (MS Bm s d x) ((Bl, .cells #[v] 31) :: X) W W' Bm s' d' x' (tkw t o).st (tkw t o).d (tkw t o).x (tkw t o).wx) :
    CB w0 Bl Bm X W' v (cellsW l) l.length s' d' x' (tkw t o).st (tkw t o).d (tkw t o).x (tkw t o).wx ∧ (∀ a ∈ l, WvO W' w0.heap.size a) ∧ (∀ a ∈ l, ∀ k, a.B k → ¬ MS Bm s' d' x' k) := by
  refine ⟨h.b.took hq, fun a ha => (h.el a ha).upd hq.u (fun k hk hm => h.df a ha k hk hm), fun a ha k hk hm => ?_⟩
  rcases hq.k k hm with q | q
  · exact h.df a ha k hk q
  · have := (h.el a ha).lt k hk
    omega
end
section
variable {size : Nat} {L : List S94} {w0 : World} {Bl Bm : Nat} {X : List (Nat × Obj)} {i : Nat} {W W' : World} {v : Value} {l : List Wv} {s d x : Value} {sl : List S82} {dl xl : List Int} {a : Wx}
theorem CC.after {n : Nat} {cs : List Value} (h : CB w0 Bl Bm X W v cs n s d x sl dl xl a) (hel : ∀ a ∈ l, WvO W w0.heap.size a) (hdis : l.Pairwise (fun a b => ∀ k, a.B k → ¬ b.B k)) (h6 : CB w0 Bl Bm X (((((((W.setCell ⟨Bm, 0, none⟩ (.int .i64 0)).setCell ⟨Bm, 1, none⟩ (.slice none 0 0)).setCell ⟨Bm, 2, none⟩ (.slice none 0 0)).setCell ⟨Bm, 3, none⟩ (.slice none 0 0)).setCell ⟨Bm, 4, none⟩ (.int .i64 0)).setCell ⟨Bm, 5, none⟩ (.int .i64 0)).setCell ⟨Bm, 6, none⟩ (.bool false)) v (cellsW l) l.length (.slice none 0 0) (.slice none 0 0) (.slice none 0 0) [] [] [] ⟨0, 0, 0, false⟩) (hinv : CInv size L i ws0 (l.map Wv.y)) :
    CC size L w0 Bl Bm X i (((((((W.setCell ⟨Bm, 0, none⟩ (.int .i64 0)).setCell ⟨Bm, 1, none⟩ (.slice none 0 0)).setCell ⟨Bm, 2, none⟩ (.slice none 0 0)).setCell ⟨Bm, 3, none⟩ (.slice none 0 0)).setCell ⟨Bm, 4, none⟩ (.int .i64 0)).setCell ⟨Bm, 5, none⟩ (.int .i64 0)).setCell ⟨Bm, 6, none⟩ (.bool false)) v l (.slice none 0 0) (.slice none 0 0) (.slice none 0 0) ws0 := by
  have hu : Upd (fun k => k = Bm) W (((((((W.setCell ⟨Bm, 0, none⟩ (.int .i64 0)).setCell ⟨Bm, 1, none⟩ (.slice none 0 0)).setCell ⟨Bm, 2, none⟩ (.slice none 0 0)).setCell ⟨Bm, 3, none⟩ (.slice none 0 0)).setCell ⟨Bm, 4, none⟩ (.int .i64 0)).setCell ⟨Bm, 5, none⟩ (.int .i64 0)).setCell ⟨Bm, 6, none⟩ (.bool false)) :=
    have key : ∀ (V : World) (p : Addr) (u : Value), p.block = Bm → Upd (fun k => k = Bm) W V → Upd (fun k => k = Bm) W (V.setCell p u) := fun V p u hp h => h.setCell p (.inl hp) u
    key _ _ _ rfl (key _ _ _ rfl (key _ _ _ rfl (key _ _ _ rfl (key _ _ _ rfl (key _ _ _ rfl (key _ _ _ rfl (Upd.refl _ W)))))))
  have hnb : ∀ a ∈ l, ¬ a.B Bm := fun a ha => (hel a ha).notblk h.m.b (by decide) (by decide)
  refine ⟨h6, hinv, fun a ha => (hel a ha).upd hu (fun k hk hs => by subst hs; exact hnb a ha hk), fun a ha k hk hm => ?_, hdis⟩
  rcases hm with rfl | hm | hm | hm
  · exact hnb a ha hk
  · cases hm
  · cases hm
  · cases hm
end
attribute [-go_sem] Builtin.append_
set_option maxRecDepth 100000 in
set_option maxHeartbeats 8000000 in
theorem cut_c {A0 : Option Addr} {c0 : Nat} {st : List S82} {A1 : Option Addr} {c1 : Nat} {d : List Int} {A2 : Option Addr} {c2 : Nat} {x : List Int} {w : World} (win : Int) (hE : EdC w A0 c0 st A1 c1 d A2 c2 x) (hst : st.length ≤ 5000000) (hdl : d.length ≤ 100000000000000) (hxl : x.length ≤ 100000000000000) :
    Calls Try.prog 13 #[.agg #[.slice A0 st.length c0, .slice A1 d.length c1, .slice A2 x.length c2], .int .i64 win] w fun e w' => ∃ v l, e = .returned (.tuple #[v, .int .i64 (cutR st d x win).2]) ∧ RowO w' w.heap.size v l ∧ l.map Wv.y = (cutR st d x win).1 ∧ Below w.heap.size w w' := by
  by_cases hwin : 64 ≤ win ∧ win ≤ 65536
  rotate_left
  · have HR : Hd (cutR st d x win = ([], 170)) := ⟨if_pos (by omega)⟩
    have hb0 : Below w.heap.size w ((w.alloc (.cells #[.slice A0 st.length c0, .slice A1 d.length c1, .slice A2 x.length c2] 29)).alloc (.cells #[.int .i64 win] 3)) := ((Below.refl _ _).alloc (Nat.le_refl _) _).alloc (by simp) _
    have HB := Hd.mk hb0
    clear hb0 hE
    by_cases h64 : win < 64
    · have hd := decide_eq_true h64
      refine callsIn_wide.1 (callsIn_of_wp_marks (n := 0) Try.func13 rfl trivial (wpIn_wide.2 ?_) rfl)
      simp only [Try.ntmps13, List.size_toArray, List.length_cons, List.length_nil, Nat.reduceAdd, Nat.reduceSub, Array.replicate_succ, Array.replicate_zero, List.push_toArray, List.append_toArray, List.nil_append, List.cons_append]
      go_wp2
      refine leaveCut' (v := .slice none 0 0) (u := .int .i64 170) rfl rfl ?_; first | exact ⟨.slice none 0 0, ([] : List Wv), by rw [HR.out], RowO.nil _ _, by rw [HR.out]; rfl, HB.out⟩ | exact ⟨.slice none 0 0, by rw [HR.out], ([] : List Wv), RowO.nil _ _, by rw [HR.out]; rfl, HB.out⟩
    · have hd := decide_eq_false h64
      have hd1 : decide (win > 65536) = true := decide_eq_true (by omega)
      refine callsIn_wide.1 (callsIn_of_wp_marks (n := 0) Try.func13 rfl trivial (wpIn_wide.2 ?_) rfl)
      simp only [Try.ntmps13, List.size_toArray, List.length_cons, List.length_nil, Nat.reduceAdd, Nat.reduceSub, Array.replicate_succ, Array.replicate_zero, List.push_toArray, List.append_toArray, List.nil_append, List.cons_append]
      go_wp2
      refine leaveCut' (v := .slice none 0 0) (u := .int .i64 170) rfl rfl ?_; first | exact ⟨.slice none 0 0, ([] : List Wv), by rw [HR.out], RowO.nil _ _, by rw [HR.out]; rfl, HB.out⟩ | exact ⟨.slice none 0 0, by rw [HR.out], ([] : List Wv), RowO.nil _ _, by rw [HR.out]; rfl, HB.out⟩
  obtain ⟨N, rfl⟩ : ∃ N : Nat, win = (N : Int) := ⟨win.toNat, by omega⟩
  have hw0 : decide ((N : Int) < 64) = false := decide_eq_false (by omega)
  have hw1 : decide ((N : Int) > 65536) = false := decide_eq_false (by omega)
  obtain ⟨r, hr⟩ : ∃ r, checked st d x 16777216 ((d.length : Int) + (x.length : Int)) = r := ⟨_, rfl⟩
  obtain ⟨kk, hck⟩ := check_f st d x 16777216 ((d.length : Int) + (x.length : Int)) hE.s.2.1
  rw [hr] at hck
  have HRr := Hd.mk hr
  clear hr
  have hb0 : Below w.heap.size w ((w.alloc (.cells #[.slice A0 st.length c0, .slice A1 d.length c1, .slice A2 x.length c2] 29)).alloc (.cells #[.int .i64 (N : Int)] 3)) := ((Below.refl _ _).alloc (Nat.le_refl _) _).alloc (by simp) _
  have hY : ((w.alloc (.cells #[.slice A0 st.length c0, .slice A1 d.length c1, .slice A2 x.length c2] 29)).alloc (.cells #[.int .i64 (N : Int)] 3)).heap[w.heap.size]? = some (.cells #[.slice A0 st.length c0, .slice A1 d.length c1, .slice A2 x.length c2] 29 (0, 0)) := blk_alloc (blk_new w _) _
  have hV : ((w.alloc (.cells #[.slice A0 st.length c0, .slice A1 d.length c1, .slice A2 x.length c2] 29)).alloc (.cells #[.int .i64 (N : Int)] 3)).heap[w.heap.size + 1]? = some (.cells #[.int .i64 (N : Int)] 3 (0, 0)) := by
    have := blk_new (w.alloc (.cells #[.slice A0 st.length c0, .slice A1 d.length c1, .slice A2 x.length c2] 29)) (.cells #[.int .i64 (N : Int)] 3)
    rwa [World.size_alloc] at this
  have HE := Hd.mk (hE.below hb0)
  have HEw := Hd.mk hE
  have HB := Hd.mk hb0
  have HY := Hd.mk hY
  have HV := Hd.mk hV
  have HCK := Hd.mk (edit_Check.calls kk A0 c0 st A1 c1 d A2 c2 x 16777216 ((d.length : Int) + (x.length : Int)) r _ HE.out.s HE.out.hs HE.out.di HE.out.hd HE.out.ex HE.out.hx hck)
  clear hE hb0 hY hV hck
  have cHY0 := blk_cell HY.out 0
  have cHY1 := blk_cell HY.out 1
  have cHY2 := blk_cell HY.out 2
  have cHV0 := blk_cell HV.out 0
  simp at cHY0 cHY1 cHY2 cHV0
  refine callsIn_wide.1 (callsIn_of_wp_marks (n := 0) Try.func13 rfl trivial (wpIn_wide.2 ?_) rfl)
  simp only [Try.ntmps13, List.size_toArray, List.length_cons, List.length_nil, Nat.reduceAdd, Nat.reduceSub, Array.replicate_succ, Array.replicate_zero, List.push_toArray, List.append_toArray, List.nil_append, List.cons_append]
  go_wp2_with fail
  refine HCK.out.mono ?_
  rintro e w1 ⟨rfl, hb1⟩
  clear HCK
  clear cHY0 cHY1 cHY2 cHV0
  replace HB := Hd.mk (below_step HB.out hb1)
  replace HE := Hd.mk (HE.out.below hb1)
  replace HY := Hd.mk (blk_below HY.out hb1)
  replace HV := Hd.mk (blk_below HV.out hb1)
  have cHY0 := blk_cell HY.out 0
  have cHY1 := blk_cell HY.out 1
  have cHY2 := blk_cell HY.out 2
  have cHV0 := blk_cell HV.out 0
  simp at cHY0 cHY1 cHY2 cHV0
  clear hb1
  by_cases hr0 : r = 0
  rotate_left
  · have hrn : (r == 0) = false := by simpa using hr0
    have HR : Hd (cutR st d x (N : Int) = ([], r)) := ⟨by unfold cutR; rw [if_neg (by omega), HRr.out, if_pos hr0]⟩
    clear hr0
    clear cHY0 cHY1 cHY2 cHV0
    go_wp2
    refine leaveCut' (v := .slice none 0 0) (u := .int .i64 r) rfl rfl ?_; first | exact ⟨.slice none 0 0, ([] : List Wv), by rw [HR.out], RowO.nil _ _, by rw [HR.out]; rfl, HB.out⟩ | exact ⟨.slice none 0 0, by rw [HR.out], ([] : List Wv), RowO.nil _ _, by rw [HR.out]; rfl, HB.out⟩
  subst hr0
  obtain ⟨hm1, hm2, hm3, hm4, hm5⟩ := checked_zero HRr.out
  have HR : Hd (cutR st d x (N : Int) = (cutL N (og st d x 0), 0)) := ⟨by unfold cutR; rw [if_neg (by omega), HRr.out, if_neg (by decide)]; rfl⟩
  have HM := Hd.mk (And.intro hm1 (And.intro hm2 hm3))
  have hbd1 : d.length ≤ 16777216 := by have := sC_nn st hm1; omega
  have hbd2 : x.length ≤ 16777216 := by have := sA_nn st hm1; omega
  have HLL : Hd ((og st d x 0).length ≤ 16777216 ∧ ∀ o ∈ og st d x 0, 0 ≤ o.f1 ∧ o.f1 ≤ 16777216) := ⟨by have := og_len st d x 0 hm1 hm2 hm3; omega, og_bd 200000000000000 33554432 (Int.le_refl _) rfl st d x 0 hm1 (by omega) hm5⟩
  clear hm1 hm2 hm3 hm4 hm5
  have hs1 := HB.out.size
  have hlV := blk_lt HV.out
  have hlY := blk_lt HY.out
  have hba : Below w1.heap.size w1 ((w1.alloc (.cells #[.slice none 0 0] 31)).alloc (.cells #[.int .i64 0, .slice none 0 0, .slice none 0 0, .slice none 0 0, .int .i64 0, .int .i64 0, .bool false] 86)) := ((Below.refl _ _).alloc (Nat.le_refl _) _).alloc (by simp) _
  have HWC := Hd.mk (ways_calls A0 c0 st A1 c1 d A2 c2 x _ (HE.out.below hba))
  have HBA := Hd.mk hba
  clear hba
  go_wp2_with fail
  refine HWC.out.mono ?_
  rintro e w4 ⟨Be, rfl, hEB, hb4, hBe⟩
  have hbx := blk_below (blk_new (w1.alloc (.cells #[.slice none 0 0] 31)) (.cells #[.int .i64 0, .slice none 0 0, .slice none 0 0, .slice none 0 0, .int .i64 0, .int .i64 0, .bool false] 86)) hb4
  have hbl := blk_below (blk_alloc (blk_new w1 (.cells #[.slice none 0 0] 31)) (.cells #[.int .i64 0, .slice none 0 0, .slice none 0 0, .slice none 0 0, .int .i64 0, .int .i64 0, .bool false] 86)) hb4
  rw [World.size_alloc] at hbx
  simp only [World.size_alloc] at hBe
  have hbe := below_step (below_step HB.out HBA.out) hb4
  have hV4 := blk_below (blk_below HV.out HBA.out) hb4
  obtain ⟨Bl, hBl⟩ : ∃ b, w1.heap.size = b := ⟨_, rfl⟩
  obtain ⟨Bm, hBm⟩ : ∃ b, w1.heap.size + 1 = b := ⟨_, rfl⟩
  obtain ⟨Bs, hBs⟩ : ∃ b, w.heap.size + 1 = b := ⟨_, rfl⟩
  rw [hBm] at hbx ⊢
  rw [hBl] at hbl hlV hBe ⊢
  rw [hBs] at hV4 hlV ⊢
  have hbm1 : Bm = Bl + 1 := by omega
  have hwl : w.heap.size ≤ Bl := by omega
  have H0 : Hd (CC N (og st d x 0) w Bl Bm ([] ++ [(Be, .cells #[.slice A0 st.length c0, .slice A1 d.length c1, .slice A2 x.length c2] 29), (Bs, .cells #[.int .i64 (N : Int)] 3)]) 0 w4 (.slice none 0 0) [] (.slice none 0 0) (.slice none 0 0) (.slice none 0 0) ws0) := by
    refine ⟨?_, CInv.start _ (by omega), fun a ha => (by cases ha), fun a ha => (by cases ha), List.Pairwise.nil⟩
    refine ⟨hbl, hwl, own_nil _ _ _ _, ⟨hbx, by omega, own_nil _ _ _ _, own_nil _ _ _ _, own_nil _ _ _ _, fun g e => by cases e⟩, fun q hq => ?_, hbe⟩
    simp only [List.nil_append, List.mem_cons, List.not_mem_nil, or_false] at hq
    have nm : ∀ b : Nat, b ≠ Bm → ¬ MS Bm (.slice none 0 0) (.slice none 0 0) (.slice none 0 0) b := fun b hb hk => by
      rcases hk with hk | hk | hk | hk
      · exact hb hk
      · cases hk
      · cases hk
      · cases hk
    rcases hq with rfl | rfl
    · exact ⟨hEB.b, rfl, by simp only; omega, nm _ (by simp only; omega), fun e => by cases e⟩
    · exact ⟨hV4, rfl, by simp only; omega, nm _ (by simp only; omega), fun e => by cases e⟩
  have hw4 := hbe.size
  obtain ⟨L, hL0⟩ : ∃ L, og st d x 0 = L := ⟨_, rfl⟩
  rw [hL0] at H0 HLL HR
  have HL0 := Hd.mk hL0
  have HEB := Hd.mk hEB.r
  clear hbx hbl hbe hV4 hEB hb4 HBA HWC hL0 HB HE HY HV hBl hBm hBs hBe hlV hlY hs1 hbm1
  go_wp2_with fail
  refine (wpIn_wide (n := 0)).1 ?_
  refine wp_rangeX (F := Fence.wide) rfl rfl (gf := 61) (lb := #[.pointer (some ⟨Be, 0, none⟩)]) rfl trivial (enters_of Try.func61 (by kernel_rfl) rfl) (fun i => #[enc91 (L.getD i z94)]) (fun _ => rfl) L.length
    (fun X i W => ∃ v l s' d' x' t, CC N L w Bl Bm (X ++ [(Be, .cells #[.slice A0 st.length c0, .slice A1 d.length c1, .slice A2 x.length c2] 29), (Bs, .cells #[.int .i64 (N : Int)] 3)]) i W v l s' d' x' t) (fun _ _ => False) (fun _ _ => False) (.inl fun _ _ h => h)
    ⟨_, [], _, _, _, _, H0.out⟩
    (fun X i W W' h k => by obtain ⟨v, l, s', d', x', t, h⟩ := h; exact ⟨v, l, s', d', x', t, h.bk hw4 k⟩)
    (fun X i W o ho h => by obtain ⟨v, l, s', d', x', t, h⟩ := h; exact ⟨v, l, s', d', x', t, h.grow o ho⟩) (fun _ _ _ h _ => h) (fun _ _ _ h _ => h) ?seq ?round ?done (fun _ _ _ _ h _ => h.elim) (fun _ _ _ _ h _ => h.elim)
  case seq =>
    intro l W1 J Jx Jp hb1 hl hl2 hJI hGr hst _ _ hY h0
    have := ways1_in (fun _ => True) trivial l Be W1.heap.size A0 c0 st A1 c1 d A2 c2 x J Jx Jp HM.out.1 HM.out.2.1 HM.out.2.2 hbd1 hbd2 (fun X i W hJ => by
      obtain ⟨v, l, s', d', x', t, h⟩ := hJI X i W hJ
      exact ⟨⟨(h.b.fx _ (List.mem_append_right _ List.mem_cons_self)).1, HEw.out.below h.b.be⟩, fun q hq => (h.b.fx q (List.mem_append_left _ hq)).1⟩) hGr hst (by rw [HL0.out]; exact hY) W1 h0
    rw [HL0.out] at this
    exact this
  case round =>
    rintro X l0 o i W hi ⟨v, l, s', d', x', t, hCI⟩ hl ho hc
    have hpos : 0 ≤ (L.getD i z94).f1 ∧ (L.getD i z94).f1 ≤ 16777216 := HLL.out.2 _ (by rw [List.getD_eq_getElem?_getD, List.getElem?_eq_getElem hi]; exact List.getElem_mem hi)
    have HI := Hd.mk hi
    obtain ⟨⟨of0, p, b⟩, hg⟩ : ∃ o, L.getD i z94 = o := ⟨_, rfl⟩
    have HG := Hd.mk hg
    simp only [hg]
    rw [hg] at hpos
    dsimp only [enc91]
    simp only at hpos
    have HC := Hd.mk hCI
    clear hCI hg hl ho hc hi
    gi_wp2
    refine ⟨KeepsOthers.alloc _ _, fun W2 hb2 => ?_⟩
    have h2 := (HC.out.grow (.cells #[.bool of0, .int .i64 p, .int .u8 b] 91) rfl).bk hw4 hb2
    have h9 := (h2.b.fx _ (List.mem_cons_self)).1
    have c90 := blk_cell h9 0
    have c91 := blk_cell h9 1
    have c92 := blk_cell h9 2
    simp at c90 c91 c92
    have hat := HC.out.inv.at_
    have hlt := HC.out.inv.lt
    have HT := Hd.mk (take_c (o := ⟨of0, p, b⟩) h2.b.mq HC.out.inv.ok (by omega) (by simp only; omega) (by omega))
    have H2 := Hd.mk h2
    clear h2 h9 hb2
    gi_wp2_with fail
    refine ⟨trivial, rfl, ?_⟩
    refine CallsIn.mono (F := Fence.wide) (n := 0) (callsIn_wide.2 HT.out) ?_
    rintro e W3 ⟨rfl, s3, d3, x3, hq⟩
    have HKO := Hd.mk hq.ko
    obtain ⟨h3', hel3, hdf3⟩ := H2.out.took hq
    have h3 := h3'.less (X' := X ++ [(Be, .cells #[.slice A0 st.length c0, .slice A1 d.length c1, .slice A2 x.length c2] 29), (Bs, .cells #[.int .i64 (N : Int)] 3)]) (fun q hq => List.mem_cons_of_mem _ hq)
    have hszq : (tkw t ⟨of0, p, b⟩).sz = t.sz + 1 := tkw_sz HC.out.inv.ok
    have HDIS := Hd.mk HC.out.dis
    have HINV := Hd.mk HC.out.inv
    obtain ⟨t', ht'⟩ : ∃ t', tkw t ⟨of0, p, b⟩ = t' := ⟨_, rfl⟩
    rw [ht'] at h3 hszq
    have HTK := Hd.mk ht'
    obtain ⟨B0, b0, B1, b1, B2, b2, rfl, rfl, rfl⟩ := h3.forms
    obtain ⟨Av, cv, rfl⟩ := own_slice h3.row
    have cs0 := blk_cell (h3.fx (Bs, .cells #[.int .i64 (N : Int)] 3) (by simp)).1 0
    have cl0 := blk_cell h3.lb 0
    have cm0 := blk_cell h3.m.b 0
    have cm1 := blk_cell h3.m.b 1
    have cm2 := blk_cell h3.m.b 2
    have cm3 := blk_cell h3.m.b 3
    have cm4 := blk_cell h3.m.b 4
    simp [WS.wx] at cs0 cl0 cm0 cm1 cm2 cm3 cm4
    rw [hszq] at cm4
    have H3 := Hd.mk h3
    have HEL := Hd.mk hel3
    have HDF := Hd.mk hdf3
    have HSZ := Hd.mk hszq
    have hln : l.length ≤ 300000 := by
      have h1 := HINV.out.n
      have h2 := HLL.out.1
      have h3 := HI.out
      rw [List.length_map] at h1
      have h4 : l.length * 64 ≤ l.length * N := Nat.mul_le_mul_left _ (by omega)
      omega
    have HPOS : Hd (0 ≤ (L.getD i z94).f1 ∧ (L.getD i z94).f1 ≤ 16777216) := ⟨by rw [HG.out]; exact hpos⟩
    clear c90 c91 c92 HT H2 hq h3 h3' hel3 hdf3 ht' hszq hat hpos HC
    by_cases hf : t.sz + 1 = N
    · obtain ⟨v5, w5, hrun, hlb5, hko5, h5, hel5, hdis5⟩ := CC.push H3.out HEL.out HDF.out HDIS.out (by omega)
      obtain ⟨Aw, cw, rfl⟩ := own_slice' (m := l.length + 1) h5.row (by rw [List.length_append]; rfl)
      obtain ⟨hko6, h6⟩ := h5.reset
      have cl5 := blk_cell hlb5 0
      have fl5 := blk_frozen hlb5 0
      have f0 := blk_frozen h5.m.b 0
      have f1 := blk_frozen h5.m.b 1
      have f2 := blk_frozen h5.m.b 2
      have f3 := blk_frozen h5.m.b 3
      have f4 := blk_frozen h5.m.b 4
      have f5 := blk_frozen h5.m.b 5
      have f6 := blk_frozen h5.m.b 6
      have d0 := blk_cell h5.m.b 0
      have d1 := blk_cell h5.m.b 1
      have d2 := blk_cell h5.m.b 2
      have d3 := blk_cell h5.m.b 3
      have d4 := blk_cell h5.m.b 4
      have d5 := blk_cell h5.m.b 5
      have d6 := blk_cell h5.m.b 6
      simp [WS.wx] at cl5 d0 d1 d2 d3 d4 d5 d6
      have hcc := CC.after (size := N) (L := L) (i := i + 1) h5 hel5 hdis5 h6 (by
        have := HINV.out.full HI.out HPOS.out hf
        rw [HG.out, HTK.out] at this
        rw [List.map_append]
        exact this)
      have HCC := Hd.mk hcc
      have HK := Hd.mk ((HKO.out.trans hko5).trans hko6)
      have hfe : (t.sz : Int) + 1 = (N : Int) := by omega
      clear hlb5 hko5 h5 hko6 h6 hel5 hdis5 hcc HKO
      gi_wp2
      exact ⟨HK.out, _, _, _, _, _, ws0, HCC.out⟩
    · have hne : ((t.sz : Int) + 1 == (N : Int)) = false := by simp; omega
      clear cm0 cm1 cm2 cm3 cl0
      gi_wp2
      refine ⟨HKO.out, _, l, _, _, _, t', ⟨H3.out, ?_, HEL.out, HDF.out, HDIS.out⟩⟩
      have := HINV.out.more HI.out HPOS.out hf
      rw [HG.out, HTK.out] at this
      exact this
  case done =>
    rintro X D W hD ⟨v, l, s', d', x', t, hCI⟩ hd
    have hdn := hCI.inv.done
    have hln : l.length ≤ 300000 := by
      have h1 := hCI.inv.n
      have h2 := HLL.out.1
      rw [List.length_map] at h1
      have h4 : l.length * 64 ≤ l.length * N := Nat.mul_le_mul_left _ (by omega)
      omega
    have h3 := hCI.b
    obtain ⟨B0, b0, B1, b1, B2, b2, rfl, rfl, rfl⟩ := h3.forms
    obtain ⟨Av, cv, rfl⟩ := own_slice h3.row
    have cl0 := blk_cell h3.lb 0
    have cm0 := blk_cell h3.m.b 0
    have cm1 := blk_cell h3.m.b 1
    have cm2 := blk_cell h3.m.b 2
    have cm3 := blk_cell h3.m.b 3
    have cm4 := blk_cell h3.m.b 4
    simp [WS.wx] at cl0 cm0 cm1 cm2 cm3 cm4
    by_cases hz : 0 < t.sz
    · have hgt : decide ((t.sz : Int) > 0) = true := decide_eq_true (by omega)
      rw [if_pos hz] at hdn
      obtain ⟨v5, w5, hrun, hlb5, hko5, h5, hel5, hdis5⟩ := CC.push h3 hCI.el hCI.df hCI.dis (by omega)
      obtain ⟨Aw, cw, rfl⟩ := own_slice' (m := l.length + 1) h5.row (by rw [List.length_append]; rfl)
      have cl5 := blk_cell hlb5 0
      have fl5 := blk_frozen hlb5 0
      have cl6 := blk_cell h5.lb 0
      simp at cl5 cl6
      have H5 := Hd.mk (And.intro h5.row (And.intro hel5 hdis5))
      have HBE := Hd.mk h5.be
      have HDN := Hd.mk hdn
      have HDS := Hd.mk (hko5.same D _ hd rfl)
      clear hCI hd h3 hlb5 hko5 h5 hel5 hdis5 hdn
      go_wp2
      have hpk := Bk.putObj (n := w.heap.size) (o' := .deferred none) (by omega) HDS.out rfl
      refine ⟨by simp, .inl ⟨_, _, rfl, run_takeDeferred HDS.out, leaveCut' rfl rfl ?_⟩⟩
      refine ⟨_, _, by rw [HR.out]; rfl, ⟨own_bk H5.out.1 hpk, fun a ha => (H5.out.2.1 a ha).bk hpk, H5.out.2.2⟩, ?_, Bk.below HBE.out HBE.out.size hpk⟩
      rw [HR.out, HDN.out, List.map_append]
      rfl
    · have hgt : decide ((t.sz : Int) > 0) = false := decide_eq_false (by omega)
      rw [if_neg hz] at hdn
      have H5 := Hd.mk (And.intro h3.row (And.intro hCI.el hCI.dis))
      have HBE := Hd.mk h3.be
      have HDN := Hd.mk hdn
      have HDS := Hd.mk hd
      clear hCI hd h3 hdn
      go_wp2
      have hpk := Bk.putObj (n := w.heap.size) (o' := .deferred none) (by omega) HDS.out rfl
      refine ⟨by simp, .inl ⟨_, _, rfl, run_takeDeferred HDS.out, leaveCut' rfl rfl ?_⟩⟩
      refine ⟨_, _, by rw [HR.out]; rfl, ⟨own_bk H5.out.1 hpk, fun a ha => (H5.out.2.1 a ha).bk hpk, H5.out.2.2⟩, ?_, Bk.below HBE.out HBE.out.size hpk⟩
      rw [HR.out, HDN.out]
end Go.Proofs.Ytinlfoblpgpikaa
