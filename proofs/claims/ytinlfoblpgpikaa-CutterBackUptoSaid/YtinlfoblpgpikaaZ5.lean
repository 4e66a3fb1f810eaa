/- cutter: windows given: a row of one's own. ; cutter: the document's Make and Cut: what they tell. ; cutter: the document's Cut: what it tells. ; cutter: what a window means that is cut: the very ways. -/
import Derived.Test.YtinlfoblpgpikaaZ1
import Derived.Test.YtinlfoblpgpikaaJw
import Derived.Test.YtinlfoblpgpikaaZ3
import Derived.Test.YtinlfoblpgpikaaZ2
import Derived.Test.YtinlfoblpgpikaaZ4
import Derived.Test.YtinlfoblpgpikaaF8
import Derived.Test.YtinlfoblpgpikaaAz
namespace Go.Proofs.Ytinlfoblpgpikaa
open Go.RowKit Go.Shelf Go.Proofs.YtinlfoblpgpikaaW.PrintWords Go.Proofs.YtinlfoblpgpikaaW.PrintLast Go.Proofs.YtinlfoblpgpikaaW.PrintMore Go.Proofs.Ytinlfoblpgpikaa.Pr
set_option linter.unusedVariables false
set_option linter.unusedSimpArgs false
def from45 (e : S45) : S43 := ⟨e.f0, ⟨e.f1.f0.map f81, e.f1.f1, e.f1.f2⟩⟩
/-- A row of windows, all one's own. -/
structure RowO (W : World) (base : Nat) (v : Value) (l : List Wv) : Prop where
  row : W.ownsRow base 43 4 v l.length (cellsW l)
  el : ∀ a ∈ l, WvO W base a
  dis : l.Pairwise (fun a b => ∀ k, a.B k → ¬ b.B k)
theorem RowO.below {W W' : World} {base : Nat} {v : Value} {l : List Wv} (h : RowO W base v l) (hb : Below W.heap.size W W') : RowO W' base v l :=
  ⟨pw_own_below h.row hb, fun a ha => (h.el a ha).below hb, h.dis⟩
theorem RowO.nil (W : World) (base : Nat) : RowO W base (.slice none 0 0) [] := ⟨own_nil _ _ _ _, fun a ha => (by cases ha), List.Pairwise.nil⟩
theorem RowO.push {W : World} {base lo : Nat} {v : Value} {l : List Wv} {a : Wv} (h : RowO W base v l) (ha : WvO W lo a) (hlo : base ≤ lo) (hold : ∀ b ∈ l, ∀ k, b.B k → k < lo) {A0 : Option Addr} {n0 c0 : Nat} {A1 : Option Addr} {n1 c1 : Nat} {A2 : Option Addr} {n2 c2 : Nat} (e0 : a.s = .slice A0 n0 c0) (e1 : a.d = .slice A1 n1 c1) (e2 : a.x = .slice A2 n2 c2) (hb : base ≤ W.heap.size) {g : Nat} {ty : TypeId} (hg : W.heap[g]? = some (.cells #[.int .i64 a.y.f0, a.s, a.d, a.x] ty)) (hl : l.length ≤ 2000000) :
    ∃ v' w', (Builtin.append_ #[31, 31] 31 #[v, .slice (some ⟨g, 0, none⟩) 1 1]).run Try.prog W = .ok v' w' ∧ RowO w' base v' (l ++ [a]) ∧ W.grownBy w' v.ownBlock := by
  have hsrc : Src W (some ⟨g, 0, none⟩) 1 4 a.cells := by
    refine ⟨rfl, fun j u hj => ?_, by rw [Wv.cells, e0, e1, e2]; simp [Value.oneCell']⟩
    have hj4 : j < 4 := by
      rcases Nat.lt_or_ge j 4 with h3 | h3
      · exact h3
      · rw [List.getElem?_eq_none (by simpa [Wv.cells] using h3)] at hj; cases hj
    refine ⟨_, rfl, ?_⟩
    match j, hj4, hj with
    | 0, _, hj => rw [add_plain, blk_cell hg, ← hj]; rfl
    | 1, _, hj => rw [add_plain, blk_cell hg, ← hj]; rfl
    | 2, _, hj => rw [add_plain, blk_cell hg, ← hj]; rfl
    | 3, _, hj => rw [add_plain, blk_cell hg, ← hj]; rfl
  obtain ⟨v', w', hrun, ho, hgr, _, _⟩ := run_app (P := Try.prog) W base 31 31 43 (.agg #[.int .i64 0, .slice none 0 0, .slice none 0 0, .slice none 0 0]) 4 80 eltW v _ _ h.row (some ⟨g, 0, none⟩) 1 1 a.cells hsrc (by omega) hb
  refine ⟨v', w', hrun, ⟨by rw [List.length_append, cellsW_snoc]; exact ho, fun b hbm => ?_, ?_⟩, hgr⟩
  · have key : ∀ (b : Wv) (bs : Nat), WvO W bs b → WvO w' bs b := fun b bs hw =>
      hw.upd (S := fun k => v.ownBlock = some k) (Upd.of_grown hgr (fun k e => e)) (fun k hk hv => hw.not43 h.row k hv hk)
    rcases List.mem_append.1 hbm with hbm | hbm
    · exact key b base (h.el b hbm)
    · obtain rfl := List.mem_singleton.1 hbm
      exact (key b lo ha).lower hlo
  · rw [List.pairwise_append]
    refine ⟨h.dis, List.pairwise_singleton _ _, fun b hbm c hc k hk hk2 => ?_⟩
    obtain rfl := List.mem_singleton.1 hc
    have := hold b hbm k hk
    have := ha.base k hk2
    omega
theorem RowO.C {W : World} {base c n : Nat} {A : Option Addr} {l : List Wv} (h : RowO W base (.slice A n c) l) (hn : l.length = n) : Kd.C k43 W A n (l.map Wv.y) ∧ n ≤ c := by
  refine row_C43 (b := base) ?_ hn (fun a ha => (h.el a ha).c)
  have := h.row
  rwa [hn] at this
theorem RowO.form {W : World} {base n : Nat} {v : Value} {l : List Wv} (h : RowO W base v l) (hn : l.length = n) : ∃ A c, v = .slice A n c := hn ▸ own_slice h.row
theorem RowO.lt {W : World} {base : Nat} {v : Value} {l : List Wv} (h : RowO W base v l) : ∀ b ∈ l, ∀ k, b.B k → k < W.heap.size := fun b hb k hk => (h.el b hb).lt k hk
theorem WvO.notblk {W : World} {base g : Nat} {a : Wv} {cs : Array Value} {t : TypeId} (h : WvO W base a) (hg : W.heap[g]? = some (.cells cs t (0, 0))) (h1 : 82 ≠ t) (h2 : 5 ≠ t) : ¬ a.B g := by
  rintro (hk | hk | hk)
  · exact own_ne h.s hg h1 hk.symm
  · exact own_ne h.d hg h2 hk.symm
  · exact own_ne h.x hg h2 hk.symm
theorem tot_le (n m : Nat) : ∀ X : List S43, X.length ≤ n → (∀ y ∈ X, y.f1.f0.length ≤ m ∧ y.f1.f1.length ≤ m ∧ y.f1.f2.length ≤ m) → totS X ≤ X.length * (m + 1) ∧ totD X ≤ X.length * m ∧ totX X ≤ X.length * m
  | [], _, _ => by simp [totS, totD, totX]
  | y :: l, hl, h => by
    have h1 := h y List.mem_cons_self
    have h2 := tot_le n m l (by simp at hl; omega) (fun z hz => h z (List.mem_cons_of_mem _ hz))
    simp only [totS, totD, totX, List.length_cons, Nat.add_mul, Nat.one_mul]
    omega
end Go.Proofs.Ytinlfoblpgpikaa
namespace Go.Proofs.Ytinlfoblpgpikaa
open Go.RowKit Go.Shelf Go.Proofs.YtinlfoblpgpikaaW.PrintWords Go.Proofs.YtinlfoblpgpikaaW.PrintLast Go.Proofs.YtinlfoblpgpikaaW.PrintMore Go.Proofs.Ytinlfoblpgpikaa.Pr
set_option linter.unusedVariables false
set_option linter.unusedSimpArgs false
def nxW (t : WS) : Int := if t.any = true then t.at_ else -1
theorem rd_last (A : List S81) (b : S81) : rd_T81 (A ++ [b]) (A.length : Int) = b := by
  simp [rd_T81, List.getD_eq_getElem?_getD]
theorem set_last (A : List S81) (b v : S81) : (A ++ [b]).set A.length v = A ++ [v] := by
  rw [List.set_append_right _ _ (Nat.le_refl _), Nat.sub_self]
  rfl
theorem len1 (A : List S81) (b : S81) : (A ++ [b]).length = A.length + 1 := by
  rw [List.length_append]; rfl
theorem idx1 (A : List S81) (b : S81) (h : A.length ≤ 1000000) : wrap64 (((A ++ [b]).length : Int) - 1) = (A.length : Int) := by
  rw [len1, w64 _ (by omega)]
  omega
theorem idx2 (n : Nat) (h : n ≤ 1000000) : wrap64 (wrap64 ((n : Int) + 1) - 1) = (n : Int) := by
  rw [w64 ((n : Int) + 1) (by omega), w64 _ (by omega)]
  omega
theorem nxt (i : Nat) (h : i ≤ 1000000) : wrap64 ((i : Int) + 1) = ((i + 1 : Nat) : Int) := by
  rw [w64 _ (by omega)]; omega
section
variable (k : Nat) (x4 : Int) (Y : List S127) (i : Nat) (pos : Int) (A : List S81) (d x : List Int) (p b : Int)
theorem mk_own0 (hi : i < Y.length) (hY : Y.length ≤ 1000000) (hrd : rd_T127 Y (i : Int) = ⟨true, p, b⟩) (hx : x.length ≤ 1000000) :
    sapperref17_Make.l0 (k + 1) x4 Y (Y.length : Int) i pos [] d x = sapperref17_Make.l0 k x4 Y (Y.length : Int) ((i + 1 : Nat) : Int) pos [⟨0, 1, 0⟩] d (x ++ [b]) := by
  have e0 : wrap64 (wrap64 ((([] : List S81).length : Int) + 1) - 1) = ((([] : List S81).length : Nat) : Int) := idx2 _ (by rw [List.length_nil]; omega)
  rw [sapperref17_Make.l0, if_pos (by omega), if_pos (by omega), if_pos (by omega), hrd]
  simp only
  rw [if_pos trivial]
  have z1 : (([] : List S81).length : Int) = 0 := rfl
  have z2 : ([] : List S81).length < 5864062014805 := by rw [List.length_nil]; omega
  rw [if_pos z1, if_pos z2]
  rw [Option.bind_some, e0, if_pos (by omega), len1, if_pos (by omega), if_pos (by omega), rd_last, Int.toNat_natCast, set_last, nxt i (by omega)]
  have w1 : wrap64 (0 + 1) = 1 := w64 1 (by omega)
  rw [w1]
  rfl
theorem mk_own (s : S81) (hA : A.length ≤ 100000) (hi : i < Y.length) (hY : Y.length ≤ 1000000) (hrd : rd_T127 Y (i : Int) = ⟨true, p, b⟩) (hx : x.length ≤ 1000000) :
    sapperref17_Make.l0 (k + 1) x4 Y (Y.length : Int) i pos (A ++ [s]) d x = sapperref17_Make.l0 k x4 Y (Y.length : Int) ((i + 1 : Nat) : Int) pos (A ++ [⟨s.f0, wrap64 (s.f1 + 1), s.f2⟩]) d (x ++ [b]) := by
  rw [sapperref17_Make.l0, if_pos (by omega), if_pos (by omega), if_pos (by omega), hrd]
  simp only
  rw [if_pos trivial, if_neg (by rw [len1]; omega), idx1 A s (by omega), if_pos (by omega), len1, if_pos (by omega), if_pos (by omega), rd_last, Int.toNat_natCast, set_last, nxt i (by omega)]
theorem mk_old0 (hi : i < Y.length) (hY : Y.length ≤ 1000000) (hrd : rd_T127 Y (i : Int) = ⟨false, p, b⟩) :
    sapperref17_Make.l0 (k + 1) x4 Y (Y.length : Int) i pos [] d x = sapperref17_Make.j1 k x4 ((([] : List S81).length : Nat) : Int) Y (Y.length : Int) i true pos [] d x false p b := by
  rw [sapperref17_Make.l0, if_pos (by omega), if_pos (by omega), if_pos (by omega), hrd]
  simp only
  rw [if_neg Bool.false_ne_true]
  have z1 : (([] : List S81).length : Int) = 0 := rfl
  rw [if_pos z1]
theorem mk_old (s : S81) (hA : A.length ≤ 100000) (hi : i < Y.length) (hY : Y.length ≤ 1000000) (hrd : rd_T127 Y (i : Int) = ⟨false, p, b⟩) :
    sapperref17_Make.l0 (k + 1) x4 Y (Y.length : Int) i pos (A ++ [s]) d x = sapperref17_Make.j1 k x4 (((A ++ [s]).length : Nat) : Int) Y (Y.length : Int) i (if s.f1 > 0 then true else (p != x4)) pos (A ++ [s]) d x false p b := by
  rw [sapperref17_Make.l0, if_pos (by omega), if_pos (by omega), if_pos (by omega), hrd]
  simp only
  rw [if_neg Bool.false_ne_true, if_neg (by rw [len1]; omega), idx1 A s (by omega), if_pos (by omega), if_pos (by rw [len1]; omega), rd_last]
  by_cases h : s.f1 > 0
  · rw [if_pos h, if_pos h]
  · rw [if_neg h, if_neg h]
theorem mk_new (bb : Bool) (hx4 : x4 < 0) (hA : A.length ≤ 100000) (hi : i < Y.length) (hY : Y.length ≤ 1000000) (hd : d.length ≤ 1000000) :
    sapperref17_Make.j1 (k + 1) x4 (A.length : Int) Y (Y.length : Int) i true pos A d x bb p b = sapperref17_Make.l0 k (wrap64 (p + 1)) Y (Y.length : Int) ((i + 1 : Nat) : Int) p (A ++ [⟨1, 0, 0⟩]) (d ++ [b]) x := by
  have w1 : wrap64 (0 + 1) = 1 := w64 1 (by omega)
  rw [sapperref17_Make.j1, if_pos rfl, if_pos hx4, if_pos (by omega), Option.bind_some, idx2 _ (by omega), if_pos (by omega), if_pos (by rw [len1]; omega), if_pos (by omega), rd_last, Int.toNat_natCast, set_last, nxt i (by omega), w1]
theorem mk_far (bb : Bool) (s : S81) (hx4 : 0 ≤ x4) (hA : A.length ≤ 100000) (hi : i < Y.length) (hY : Y.length ≤ 1000000) (hd : d.length ≤ 1000000) :
    sapperref17_Make.j1 (k + 1) x4 (((A ++ [s]).length : Nat) : Int) Y (Y.length : Int) i true pos (A ++ [s]) d x bb p b = sapperref17_Make.l0 k (wrap64 (p + 1)) Y (Y.length : Int) ((i + 1 : Nat) : Int) pos (A ++ [⟨s.f0, s.f1, wrap64 (p - x4)⟩] ++ [⟨1, 0, 0⟩]) (d ++ [b]) x := by
  have w1 : wrap64 (0 + 1) = 1 := w64 1 (by omega)
  have e9 : Hd (wrap64 (wrap64 (((A ++ [s]).length : Int) + 1) - 1) = (((A ++ [(⟨s.f0, s.f1, wrap64 (p - x4)⟩ : S81)]).length : Nat) : Int)) := ⟨by rw [len1, len1]; exact idx2 _ (by omega)⟩
  rw [sapperref17_Make.j1, if_pos rfl, if_neg (by omega), idx1 A s (by omega), if_pos (by omega), if_pos (by rw [len1]; omega), rd_last, Int.toNat_natCast, set_last, Option.bind_some, if_pos (by rw [len1]; omega), Option.bind_some, e9.out, if_pos (by omega), if_pos (by rw [len1 (A ++ [_])]; omega), if_pos (by omega), rd_last, Int.toNat_natCast, set_last, nxt i (by omega), w1]
theorem mk_near (bb : Bool) (s : S81) (hA : A.length ≤ 100000) (hi : i < Y.length) (hY : Y.length ≤ 1000000) (hd : d.length ≤ 1000000) :
    sapperref17_Make.j1 (k + 1) x4 (((A ++ [s]).length : Nat) : Int) Y (Y.length : Int) i false pos (A ++ [s]) d x bb p b = sapperref17_Make.l0 k (wrap64 (p + 1)) Y (Y.length : Int) ((i + 1 : Nat) : Int) pos (A ++ [⟨wrap64 (s.f0 + 1), s.f1, s.f2⟩]) (d ++ [b]) x := by
  rw [sapperref17_Make.j1, if_neg Bool.false_ne_true, idx1 A s (by omega), if_pos (by omega), if_pos (by rw [len1]; omega), if_pos (by omega), rd_last, Int.toNat_natCast, set_last, nxt i (by omega)]
end
theorem mk_step (Y : List S127) (i : Nat) (hY : Y.length ≤ 65536) (hi : i < Y.length) (t : WS) (o : S94) (hrd : rd_T127 Y (i : Int) = to127 o) (ok : WOk t) (hsz : t.sz ≤ 65536) (hat : 0 ≤ t.at_ ∧ t.at_ ≤ 16777217) (ho : 0 ≤ o.f1 ∧ o.f1 ≤ 16777216) (k : Nat) (r : Int × List S81 × List Int × List Int)
    (h : sapperref17_Make.l0 k (nxW (tkw t o)) Y (Y.length : Int) ((i + 1 : Nat) : Int) (tkw t o).pos ((tkw t o).st.map t81) (tkw t o).d (tkw t o).x = some r) :
    ∃ k', sapperref17_Make.l0 k' (nxW t) Y (Y.length : Int) i t.pos (t.st.map t81) t.d t.x = some r := by
  obtain ⟨pos, dn, cu, d, x, sz, at_, any⟩ := t
  obtain ⟨h1, h2, h3, h4, h5⟩ := ok
  simp only at h1 h2 h3 h4 h5 hsz hat
  obtain ⟨of0, p, b⟩ := o
  simp only at ho
  have hdl : d.length ≤ 1000000 := by omega
  have hxl : x.length ≤ 1000000 := by omega
  have hdn : (dn.map t81).length ≤ 100000 := by rw [List.length_map]; omega
  have hY' : Y.length ≤ 1000000 := by omega
  have hp : wrap64 (p + 1) = p + 1 := w64 _ (by omega)
  cases of0 with
  | false =>
    refine ⟨k + 1, ?_⟩
    cases cu with
    | none =>
      obtain ⟨rfl, rfl, rfl⟩ := h2 rfl
      refine (mk_own0 k _ Y i pos [] [] p b hi hY' hrd (by simp)).trans ?_
      exact h
    | some s =>
      obtain ⟨hs2, hs0, hs0', hs1, hs1'⟩ := h3 s rfl
      obtain ⟨s0, s1, s2⟩ := s
      simp only at hs2 hs0 hs0' hs1 hs1'
      subst hs2
      have hst : (WS.st ⟨pos, dn, some ⟨s0, s1, 0⟩, d, x, sz, at_, any⟩).map t81 = dn.map t81 ++ [⟨s0, s1, 0⟩] := by simp [WS.st, t81]
      rw [hst]
      refine (mk_own k _ Y i pos (dn.map t81) d x p b ⟨s0, s1, 0⟩ hdn hi hY' hrd hxl).trans ?_
      have hst2 : (tkw ⟨pos, dn, some ⟨s0, s1, 0⟩, d, x, sz, at_, any⟩ ⟨false, p, b⟩).st.map t81 = dn.map t81 ++ [⟨s0, s1 + 1, 0⟩] := by simp [tkw, WS.st, t81]
      rw [hst2] at h
      simp only
      rw [w64 (s1 + 1) (by omega)]
      exact h
  | true =>
    refine ⟨k + 2, ?_⟩
    cases cu with
    | none =>
      obtain ⟨rfl, rfl, rfl⟩ := h2 rfl
      have hany : any = false := by
        cases any with
        | false => rfl
        | true => exact absurd rfl (h1 rfl)
      subst hany
      refine (mk_old0 (k + 1) _ Y i pos [] [] p b hi hY' hrd).trans ?_
      refine (mk_new k _ Y i pos [] [] [] p b false (by show (-1 : Int) < 0; omega) (by simp) hi hY' (by simp)).trans ?_
      rw [hp]
      exact h
    | some s =>
      obtain ⟨hs2, hs0, hs0', hs1, hs1'⟩ := h3 s rfl
      obtain ⟨s0, s1, s2⟩ := s
      simp only at hs2 hs0 hs0' hs1 hs1'
      subst hs2
      have hst : (WS.st ⟨pos, dn, some ⟨s0, s1, 0⟩, d, x, sz, at_, any⟩).map t81 = dn.map t81 ++ [⟨s0, s1, 0⟩] := by simp [WS.st, t81]
      rw [hst]
      refine (mk_old (k + 1) _ Y i pos (dn.map t81) d x p b ⟨s0, s1, 0⟩ hdn hi hY' hrd).trans ?_
      cases any with
      | false =>
        have hb : (if s1 > 0 then true else (p != nxW ⟨pos, dn, some ⟨s0, s1, 0⟩, d, x, sz, at_, false⟩)) = true := by
          split
          · rfl
          · have : p ≠ -1 := by omega
            simpa [nxW] using this
        have hst2 : (tkw ⟨pos, dn, some ⟨s0, s1, 0⟩, d, x, sz, at_, false⟩ ⟨true, p, b⟩).st.map t81 = dn.map t81 ++ [⟨s0, s1, 0⟩] ++ [⟨1, 0, 0⟩] := by simp [tkw, WS.st, t81]
        rw [hst2] at h
        simp only
        rw [hb]
        refine (mk_new k _ Y i pos (dn.map t81 ++ [⟨s0, s1, 0⟩]) d x p b false (by show (-1 : Int) < 0; omega) (by rw [len1, List.length_map]; omega) hi hY' hdl).trans ?_
        rw [hp]
        exact h
      | true =>
        by_cases hg : s1 = 0 ∧ p = at_
        · obtain ⟨rfl, rfl⟩ := hg
          have hb : (if (0 : Int) > 0 then true else (p != nxW ⟨pos, dn, some ⟨s0, 0, 0⟩, d, x, sz, p, true⟩)) = false := by simp [nxW]
          have hst2 : (tkw ⟨pos, dn, some ⟨s0, 0, 0⟩, d, x, sz, p, true⟩ ⟨true, p, b⟩).st.map t81 = dn.map t81 ++ [⟨s0 + 1, 0, 0⟩] := by simp [tkw, WS.st, t81]
          rw [hst2] at h
          simp only
          rw [hb]
          refine (mk_near k _ Y i pos (dn.map t81) d x p b false ⟨s0, 0, 0⟩ hdn hi hY' hdl).trans ?_
          simp only
          rw [hp, w64 (s0 + 1) (by omega)]
          simpa [tkw, nxW] using h
        · have hb : (if s1 > 0 then true else (p != nxW ⟨pos, dn, some ⟨s0, s1, 0⟩, d, x, sz, at_, true⟩)) = true := by
            split
            · rfl
            · have : p ≠ at_ := by omega
              simpa [nxW] using this
          have hst2 : (tkw ⟨pos, dn, some ⟨s0, s1, 0⟩, d, x, sz, at_, true⟩ ⟨true, p, b⟩).st.map t81 = dn.map t81 ++ [⟨s0, s1, p - at_⟩] ++ [⟨1, 0, 0⟩] := by simp [tkw, WS.st, t81, hg]
          rw [hst2] at h
          simp only
          rw [hb]
          refine (mk_far k _ Y i pos (dn.map t81) d x p b false ⟨s0, s1, 0⟩ (by show (0 : Int) ≤ at_; omega) hdn hi hY' hdl).trans ?_
          have hnx : nxW ⟨pos, dn, some ⟨s0, s1, 0⟩, d, x, sz, at_, true⟩ = at_ := rfl
          rw [hp, hnx, w64 (p - at_) (by omega)]
          simpa [tkw, nxW, hg] using h
end Go.Proofs.Ytinlfoblpgpikaa
namespace Go.Proofs.Ytinlfoblpgpikaa
open Go.RowKit Go.Shelf Go.Proofs.YtinlfoblpgpikaaW.PrintWords Go.Proofs.YtinlfoblpgpikaaW.PrintLast Go.Proofs.YtinlfoblpgpikaaW.PrintMore Go.Proofs.Ytinlfoblpgpikaa.Pr
set_option linter.unusedVariables false
set_option linter.unusedSimpArgs false
def nearW (o : S94) : Prop := 0 ≤ o.f1 ∧ o.f1 ≤ 16777216
theorem mk_l0 (L : List S94) (hL : L.length ≤ 65536) (hn : ∀ o ∈ L, nearW o) : ∀ (j i : Nat) (t : WS), i + j = L.length → WOk t → t.sz + j ≤ 65536 → (0 ≤ t.at_ ∧ t.at_ ≤ 16777217) →
    ∃ k, sapperref17_Make.l0 k (nxW t) (L.map to127) ((L.map to127).length : Int) i t.pos (t.st.map t81) t.d t.x = some (((L.drop i).foldl tkw t).pos, ((L.drop i).foldl tkw t).st.map t81, ((L.drop i).foldl tkw t).d, ((L.drop i).foldl tkw t).x)
  | 0, i, t, hi, ok, hs, ha => by
    refine ⟨1, ?_⟩
    rw [sapperref17_Make.l0, if_neg (by rw [List.length_map]; omega), List.drop_eq_nil_of_le (by omega)]
    rfl
  | j + 1, i, t, hi, ok, hs, ha => by
    have hil : i < L.length := by omega
    have hd : L.drop i = L[i] :: L.drop (i + 1) := List.drop_eq_getElem_cons hil
    have ho := hn L[i] (List.getElem_mem hil)
    have hrd : rd_T127 (L.map to127) (i : Int) = to127 L[i] := by
      simp [rd_T127, List.getD_eq_getElem?_getD, List.getElem?_eq_getElem hil]
    obtain ⟨k, hk⟩ := mk_l0 L hL hn j (i + 1) (tkw t L[i]) (by omega) (tkw_ok ok) (by rw [tkw_sz ok]; omega) (tkw_at ha ho)
    rw [hd]
    exact mk_step (L.map to127) i (by rw [List.length_map]; exact hL) (by rw [List.length_map]; exact hil) t L[i] hrd ok (by omega) ha ho k _ hk
def mkW (L : List S94) : WS := L.foldl tkw ws0
theorem mk_f (L : List S94) (hL : L.length ≤ 65536) (hn : ∀ o ∈ L, nearW o) : ∃ k, sapperref17_Make.f k (L.map to127) = some ((mkW L).pos, (mkW L).st.map t81, (mkW L).d, (mkW L).x) := by
  obtain ⟨k, hk⟩ := mk_l0 L hL hn L.length 0 ws0 (by omega) wok0 (by show 0 + L.length ≤ 65536; omega) (by decide)
  exact ⟨k, hk⟩
theorem fold_sz : ∀ (L : List S94) (t : WS), WOk t → WOk (L.foldl tkw t) ∧ (L.foldl tkw t).sz = t.sz + L.length
  | [], t, ok => ⟨ok, rfl⟩
  | o :: l, t, ok => by
    obtain ⟨h1, h2⟩ := fold_sz l (tkw t o) (tkw_ok ok)
    refine ⟨h1, ?_⟩
    rw [List.foldl_cons, h2, tkw_sz ok, List.length_cons]
    omega
theorem cut_part (size : Nat) (m : List S43) : ∀ (L : List S94) (t : WS), WOk t → t.sz + L.length < size → L.foldl (cutS size) (t, m) = (L.foldl tkw t, m)
  | [], t, ok, _ => rfl
  | o :: l, t, ok, h => by
    rw [List.length_cons] at h
    have e : cutS size (t, m) o = (tkw t o, m) := if_neg (by rw [tkw_sz ok]; omega)
    rw [List.foldl_cons, e, cut_part size m l (tkw t o) (tkw_ok ok) (by rw [tkw_sz ok]; omega)]
    rfl
theorem cut_full (size : Nat) (m : List S43) : ∀ (L : List S94) (t : WS), WOk t → L ≠ [] → t.sz + L.length = size → L.foldl (cutS size) (t, m) = (ws0, m ++ [winY (L.foldl tkw t)])
  | [], t, ok, h, _ => absurd rfl h
  | [o], t, ok, _, h => if_pos (by rw [tkw_sz ok]; exact h)
  | o :: o' :: l, t, ok, _, h => by
    rw [List.length_cons, List.length_cons] at h
    have e : cutS size (t, m) o = (tkw t o, m) := if_neg (by rw [tkw_sz ok]; omega)
    rw [List.foldl_cons, e, cut_full size m (o' :: l) (tkw t o) (tkw_ok ok) (by simp) (by rw [tkw_sz ok, List.length_cons]; omega)]
    rfl
theorem cut_pre (size : Nat) : ∀ (L : List S94) (t : WS) (m m' : List S43), L.foldl (cutS size) (t, m ++ m') = ((L.foldl (cutS size) (t, m')).1, m ++ (L.foldl (cutS size) (t, m')).2)
  | [], t, m, m' => rfl
  | o :: l, t, m, m' => by
    rw [List.foldl_cons, List.foldl_cons]
    unfold cutS
    by_cases h : (tkw t o).sz = size
    · simp only [if_pos h, List.append_assoc]
      exact cut_pre size l ws0 m _
    · simp only [if_neg h]
      exact cut_pre size l _ m _
theorem cutL_nil (size : Nat) : cutL size [] = [] := rfl
theorem cutL_cons (size : Nat) (h : 0 < size) (L : List S94) (hne : L ≠ []) : cutL size L = winY (mkW (L.take size)) :: cutL size (L.drop size) := by
  have hp : 0 < L.length := List.length_pos_iff.2 hne
  rcases Nat.lt_or_ge L.length size with hl | hl
  · rw [List.take_of_length_le (by omega), List.drop_eq_nil_of_le (by omega), cutL_nil]
    have e : cutN size L = (mkW L, []) := cut_part size [] L ws0 wok0 (by show 0 + _ < _; omega)
    have hsz : (mkW L).sz = 0 + L.length := (fold_sz L ws0 wok0).2
    unfold cutL
    rw [e]
    exact if_pos (by show 0 < (mkW L).sz; omega)
  · have e : cutN size L = ((cutN size (L.drop size)).1, winY (mkW (L.take size)) :: (cutN size (L.drop size)).2) := by
      have htl : (L.take size).length = size := by rw [List.length_take]; omega
      have hf : (L.take size).foldl (cutS size) (ws0, []) = (ws0, [] ++ [winY ((L.take size).foldl tkw ws0)]) := cut_full size [] (L.take size) ws0 wok0 (by intro hh; rw [hh] at htl; simp at htl; omega) (by show 0 + _ = _; omega)
      conv => lhs; rw [← List.take_append_drop size L]
      unfold cutN
      rw [List.foldl_append, hf, List.nil_append]
      have := cut_pre size (L.drop size) ws0 [winY ((L.take size).foldl tkw ws0)] []
      rw [List.append_nil] at this
      exact this
    unfold cutL
    rw [e]
    simp only
    split <;> simp
theorem cut_l0 (size : Nat) (hs : 0 < size) (hs2 : size ≤ 65536) : ∀ (n : Nat) (L : List S94), L.length ≤ n → (∀ o ∈ L, nearW o) → ∀ acc : List S45, acc.length + L.length ≤ 1000000000 → ∃ k, sapperref17_Cut.l0 k size acc (L.map to127) = some (acc ++ (cutL size L).map to45, 0)
  | 0, L, hl, hn, acc, ha => by
    obtain rfl : L = [] := List.length_eq_zero_iff.1 (by omega)
    refine ⟨1, ?_⟩
    rw [sapperref17_Cut.l0, if_neg (by simp), cutL_nil]
    simp
  | n + 1, L, hl, hn, acc, ha => by
    by_cases hne : L = []
    · subst hne
      refine ⟨1, ?_⟩
      rw [sapperref17_Cut.l0, if_neg (by simp), cutL_nil]
      simp
    · have hp : 0 < L.length := List.length_pos_iff.2 hne
      have htl : (L.take size).length ≤ 65536 := by rw [List.length_take]; omega
      obtain ⟨k0, hk0⟩ := mk_f (L.take size) htl (fun o ho => hn o (List.mem_of_mem_take ho))
      obtain ⟨k1, hk1⟩ := cut_l0 size hs hs2 n (L.drop size) (by rw [List.length_drop]; omega) (fun o ho => hn o (List.mem_of_mem_drop ho)) (acc ++ [to45 (winY (mkW (L.take size)))]) (by rw [List.length_append, List.length_drop, List.length_singleton]; omega)
      have g0 : sapperref17_Make.f (k0 + k1) ((L.take size).map to127) = _ := at_rounds (g := fun k => sapperref17_Make.f k ((L.take size).map to127)) (fun k => sapperref17_Make.mono _ k) (by omega) hk0
      have g1 := at_rounds (g := fun k => sapperref17_Cut.l0 k size (acc ++ [to45 (winY (mkW (L.take size)))]) ((L.drop size).map to127)) (fun k => sapperref17_Cut.mono_l k _ _ _) (show k1 ≤ k0 + k1 by omega) hk1
      refine ⟨k0 + k1 + 1, ?_⟩
      rw [cutL_cons size hs L hne, List.map_cons]
      have hlm : ((L.map to127).length : Int) = (L.length : Int) := by rw [List.length_map]
      have htm : (L.map to127).take size = (L.take size).map to127 := List.map_take.symm
      have hdm : (L.map to127).drop size = (L.drop size).map to127 := List.map_drop.symm
      have fin : acc ++ to45 (winY (mkW (L.take size))) :: (cutL size (L.drop size)).map to45 = acc ++ [to45 (winY (mkW (L.take size)))] ++ (cutL size (L.drop size)).map to45 := by simp
      rw [sapperref17_Cut.l0, hlm, if_pos (by omega)]
      by_cases hq : (size : Int) > (L.length : Int)
      · have e1 : (L.map to127).take ((L.length : Int)).toNat = (L.take size).map to127 := by
          rw [← htm, List.take_of_length_le (by rw [List.length_map]; omega), List.take_of_length_le (by rw [List.length_map]; omega)]
        have e2 : (L.map to127).drop ((L.length : Int)).toNat = (L.drop size).map to127 := by
          rw [← hdm, List.drop_eq_nil_of_le (by rw [List.length_map]; omega), List.drop_eq_nil_of_le (by rw [List.length_map]; omega)]
        rw [if_pos hq, if_pos (by omega), if_pos (by omega), e1, e2, g0, Option.bind_some, if_pos (by omega), fin]
        exact g1
      · rw [if_neg hq, if_pos (by omega), if_pos (by omega), Int.toNat_natCast, htm, hdm, g0, Option.bind_some, if_pos (by omega), fin]
        exact g1
/-- The document's check, and its room, tell what Cut's check tells. -/
theorem ec_checked (st : List S82) (d x : List Int) (h : (d.length : Int) + (x.length : Int) ≤ 16777216) : ecR st d x = checked st d x 16777216 ((d.length : Int) + (x.length : Int)) := by
  have hc : ¬ ¬ ((0 : Int) ≤ 16777216 ∧ (16777216 : Int) ≤ 16777216 ∧ 0 ≤ (d.length : Int) + (x.length : Int) ∧ (d.length : Int) + (x.length : Int) ≤ 16777216) := by omega
  unfold ecR checked ited
  rw [if_neg hc]
  by_cases hm : st.all may = true
  · rw [if_pos hm, if_pos hm]
    by_cases hq : sA st + sC st ≤ 16777216 ∧ sA st = d.length ∧ sC st = x.length
    · rw [if_pos hq, if_pos hq]
      simp only
      have hz : ¬ ((0 : Int) ≠ 0) := by decide
      have hs : ¬ (sA st + sC st ≠ (d.length : Int) + (x.length : Int)) := by omega
      rw [if_neg hz, if_neg hs]
    · rw [if_neg hq, if_neg hq]
      simp only
      exact (if_pos (by decide)).symm
  · rw [if_neg hm, if_neg hm]
    simp only
    exact (if_pos (by decide)).symm
theorem rcut_f (L : List S81) (d x : List Int) (win : Int) (hL : L.length ≤ 2000000) (hd : d.length ≤ 100000000) (hx : x.length ≤ 100000000) : ∃ k, sapperref17_Cut.f k L d x win = some ((cutR (L.map f81) d x win).1.map to45, (cutR (L.map f81) d x win).2) := by
  have w0 : wrap64 ((d.length : Int) + (x.length : Int)) = (d.length : Int) + (x.length : Int) := w64 _ (by omega)
  unfold cutR
  by_cases h0 : win < 64 ∨ 65536 < win
  · refine ⟨0, ?_⟩
    unfold sapperref17_Cut.f
    rw [rin_f, Option.bind_some, if_pos h0, if_neg (by simp; omega)]
    rfl
  · rw [if_neg h0]
    by_cases h1 : (d.length : Int) + (x.length : Int) > 16777216
    · refine ⟨0, ?_⟩
      have hc : checked (L.map f81) d x 16777216 ((d.length : Int) + (x.length : Int)) = 1 := by
        unfold checked
        rw [if_pos (by omega)]
      unfold sapperref17_Cut.f
      rw [rin_f, Option.bind_some, if_pos (by simp; omega), w0, if_pos h1, hc]
      rfl
    · obtain ⟨k0, hk0⟩ := ec_f L d x (by omega)
      rw [ec_checked _ d x (by omega)] at hk0
      by_cases h2 : checked (L.map f81) d x 16777216 ((d.length : Int) + (x.length : Int)) = 0
      · obtain ⟨hm, hA, hC, hsz, hr⟩ := checked_zero h2
        obtain ⟨k1, hk1⟩ := ways_f L d x (by omega) hd hx hm hA hC
        have hbd := og_bd 200000000000000 33554432 (by omega) rfl (L.map f81) d x 0 hm (by rw [List.length_map]; omega) hr
        obtain ⟨k2, hk2⟩ := cut_l0 win.toNat (by omega) (by omega) (og (L.map f81) d x 0).length (og (L.map f81) d x 0) (Nat.le_refl _) hbd [] (by
          have := og_len (L.map f81) d x 0 hm hA hC
          simp only [List.length_nil]
          omega)
        rw [show ((win.toNat : Nat) : Int) = win by omega, List.nil_append] at hk2
        have g0 := at_rounds (g := fun k => sapperref17_editCheck.f k L d x) (fun k => sapperref17_editCheck.mono _ _ _ k) (show k0 ≤ k0 + k1 + k2 by omega) hk0
        have g1 := at_rounds (g := fun k => sapperref17_Ways.f k L d x 0) (fun k => sapperref17_Ways.mono _ _ _ _ k) (show k1 ≤ k0 + k1 + k2 by omega) hk1
        have g2 := at_rounds (g := fun k => sapperref17_Cut.l0 k win [] ((og (L.map f81) d x 0).map to127)) (fun k => sapperref17_Cut.mono_l k _ _ _) (show k2 ≤ k0 + k1 + k2 by omega) hk2
        refine ⟨k0 + k1 + k2, ?_⟩
        unfold sapperref17_Cut.f
        rw [rin_f, Option.bind_some, if_pos (by simp; omega), w0, if_neg h1, g0, Option.bind_some, if_pos h2, g1, Option.bind_some, g2, h2]
        rfl
      · refine ⟨k0, ?_⟩
        unfold sapperref17_Cut.f
        rw [rin_f, Option.bind_some, if_pos (by simp; omega), w0, if_neg h1, hk0, Option.bind_some, if_neg h2, if_pos h2]
        rfl
end Go.Proofs.Ytinlfoblpgpikaa
namespace Go.Proofs.Ytinlfoblpgpikaa
open Go.RowKit Go.Shelf Go.Proofs.YtinlfoblpgpikaaW.PrintWords Go.Proofs.YtinlfoblpgpikaaW.PrintLast Go.Proofs.YtinlfoblpgpikaaW.PrintMore Go.Proofs.Ytinlfoblpgpikaa.Pr
set_option linter.unusedVariables false
set_option linter.unusedSimpArgs false
def sP : List S82 → Int
  | [] => 0
  | s :: l => s.f0 + s.f2 + sP l
theorem sP_app : ∀ (l k : List S82), sP (l ++ k) = sP l + sP k
  | [], k => by simp [sP]
  | s :: l, k => by simp only [List.cons_append, sP, sP_app l k]; omega
theorem sA_app : ∀ (l k : List S82), sA (l ++ k) = sA l + sA k
  | [], k => by simp [sA]
  | s :: l, k => by simp only [List.cons_append, sA, sA_app l k]; omega
theorem sC_app : ∀ (l k : List S82), sC (l ++ k) = sC l + sC k
  | [], k => by simp [sC]
  | s :: l, k => by simp only [List.cons_append, sC, sC_app l k]; omega
theorem rng_app (n : Nat) (p : Int) (d1 d2 : List Int) (h : n ≤ d1.length) : (List.range n).map (fun (i : Nat) => (⟨true, wrap64 (p + (i : Int)), (d1 ++ d2).getD i 0⟩ : S94)) = (List.range n).map (fun (i : Nat) => (⟨true, wrap64 (p + (i : Int)), d1.getD i 0⟩ : S94)) := by
  apply List.map_congr_left
  intro i hi
  have := List.mem_range.1 hi
  simp only [List.getD_eq_getElem?_getD]
  rw [List.getElem?_append_left (by omega)]
theorem og_app : ∀ (l1 : List S82) (d1 x1 : List Int) (l2 : List S82) (d2 x2 : List Int) (a : Int), l1.all may = true → sA l1 = d1.length → sC l1 = x1.length → og (l1 ++ l2) (d1 ++ d2) (x1 ++ x2) a = og l1 d1 x1 a ++ og l2 d2 x2 (a + sP l1)
  | [], d1, x1, l2, d2, x2, a, _, hd, hx => by
    simp only [sA, sC] at hd hx
    have h1 : d1 = [] := List.eq_nil_of_length_eq_zero (by omega)
    have h2 : x1 = [] := List.eq_nil_of_length_eq_zero (by omega)
    subst h1 h2
    simp [og, sP]
  | s :: l1, d1, x1, l2, d2, x2, a, h, hd, hx => by
    simp only [List.all_cons, Bool.and_eq_true] at h
    have hm := (may_iff s).1 h.1
    have h1 := sA_nn l1 h.2
    have h2 := sC_nn l1 h.2
    simp only [sA, sC] at hd hx
    have k1 : s.f0.toNat ≤ d1.length := by omega
    have k2 : s.f1.toNat ≤ x1.length := by omega
    simp only [List.cons_append, og, sP]
    rw [rng_app _ _ _ _ k1, List.drop_append_of_le_length k1, List.drop_append_of_le_length k2, List.take_append_of_le_length k2, og_app l1 _ _ l2 d2 x2 _ h.2 (by rw [List.length_drop]; omega) (by rw [List.length_drop]; omega),
      show a + (s.f0.toNat : Int) + s.f2 + sP l1 = a + (s.f0 + s.f2 + sP l1) by omega]
    simp only [List.append_assoc]
/-- The ways of a step that is begun. -/
def ogc (p : Int) (dc xc : List Int) : List S94 := (List.range dc.length).map (fun (i : Nat) => (⟨true, wrap64 (p + (i : Int)), dc.getD i 0⟩ : S94)) ++ xc.map (fun b => (⟨false, 0, b⟩ : S94))
theorem og_one (p k : Int) (dc xc : List Int) : og [⟨dc.length, xc.length, k⟩] dc xc p = ogc p dc xc := by
  simp only [og, ogc, Int.toNat_natCast, List.take_length, List.append_nil]
theorem ogc_add (p : Int) (dc : List Int) (b : Int) : ogc p (dc ++ [b]) [] = ogc p dc [] ++ [⟨true, wrap64 (p + dc.length), b⟩] := by
  simp only [ogc, List.length_append, List.length_cons, List.length_nil, Nat.zero_add, List.range_succ, List.map_append, List.map_cons, List.map_nil, List.append_nil]
  rw [rng_app dc.length p dc [b] (Nat.le_refl _)]
  simp [List.getD_eq_getElem?_getD]
theorem ogc_new (p : Int) (b : Int) : ogc p [b] [] = [⟨true, wrap64 p, b⟩] := by simp [ogc]
theorem ogc_none (p q : Int) (xc : List Int) : ogc p [] xc = ogc q [] xc := rfl
theorem ogc_copy (p : Int) (dc xc : List Int) (b : Int) : ogc p dc (xc ++ [b]) = ogc p dc xc ++ [⟨false, 0, b⟩] := by simp [ogc]
theorem wk_snoc (old size : Int) (s : S82) : ∀ (l : List S82) (a c p a' c' : Int), wk old size l a c p = some (a', c') → wk old size (l ++ [s]) a c p = wk old size [s] a' c' (p + sP l)
  | [], a, c, p, a', c', h => by
    simp only [wk, Option.some.injEq, Prod.mk.injEq] at h
    obtain ⟨rfl, rfl⟩ := h
    simp [sP]
  | t :: l, a, c, p, a', c', h => by
    rw [wk] at h
    rw [List.cons_append, wk]
    split at h
    · cases h
    · split at h
      · cases h
      · split at h
        · cases h
        · rename_i h1 h2 h3
          rw [if_neg h1, if_neg h2, if_neg h3, wk_snoc old size s l _ _ _ a' c' h]
          congr 1
          simp only [sP]
          omega
theorem wk_one {old size : Int} {s : S82} {a c p : Int} (h0 : 0 ≤ s.f0) (h1 : 0 ≤ s.f1) (h2 : 1 ≤ s.f0 + s.f1) (h3 : a + s.f0 + (c + s.f1) ≤ size) (ha : 0 ≤ a) (hc : 0 ≤ c) (hp : 0 ≤ p ∧ p + s.f0 ≤ old) (hk : -16777216 ≤ s.f2 ∧ s.f2 ≤ 16777216) (hq : 0 ≤ p + s.f0 + s.f2 ∧ p + s.f0 + s.f2 ≤ old) : wk old size [s] a c p = some (a + s.f0, c + s.f1) := by
  rw [wk, if_neg (by omega), if_neg (by omega), if_neg (by omega), wk]
/-- A way as it is told: near, and of its kind. -/
def NearO (o : S94) : Prop := (o.f0 = true → 0 ≤ o.f1 ∧ o.f1 < 16777216) ∧ (o.f0 = false → o.f1 = 0)
/-- All that is read lies before there. -/
def Rds (old : Int) (L : List S94) : Prop := ∀ o ∈ L, o.f0 = true → 0 ≤ o.f1 ∧ o.f1 < old
/-- The window so far means what has come so far. -/
structure WIn (old size : Int) (t : WS) (R : List S94) (dD dc xD xc : List Int) : Prop where
  d : t.d = dD ++ dc
  x : t.x = xD ++ xc
  a : sA t.dn = dD.length
  c : sC t.dn = xD.length
  m : t.dn.all may = true
  n : t.d.length + t.x.length = R.length
  wkd : wk old size t.dn 0 0 t.pos = some (sA t.dn, sC t.dn)
  cu : (t.cu = none ∧ t.dn = [] ∧ dc = [] ∧ xc = [] ∧ t.any = false ∧ t.pos = 0 ∧ R = []) ∨ (t.cu = some ⟨dc.length, xc.length, 0⟩ ∧ 1 ≤ dc.length + xc.length ∧ R = og t.dn dD xD t.pos ++ ogc (t.pos + sP t.dn) dc xc ∧
    ((t.any = false ∧ t.dn = [] ∧ dc = [] ∧ t.pos = 0) ∨ (t.any = true ∧ 1 ≤ dc.length ∧ (0 ≤ t.pos ∧ t.pos ≤ old) ∧ 0 ≤ t.pos + sP t.dn ∧ t.at_ = t.pos + sP t.dn + dc.length ∧ t.at_ ≤ old)))
theorem WIn.start (old size : Int) : WIn old size ws0 [] [] [] [] [] := ⟨rfl, rfl, rfl, rfl, rfl, rfl, rfl, .inl ⟨rfl, rfl, rfl, rfl, rfl, rfl, rfl⟩⟩
theorem WIn.step {old size : Int} (ho : 0 ≤ old ∧ old ≤ 16777216) (hs : size ≤ 65536) {t : WS} {R : List S94} {dD dc xD xc : List Int} (h : WIn old size t R dD dc xD xc) {o : S94} (hn : NearO o) (hr : o.f0 = true → o.f1 < old) (hl : (R.length : Int) + 1 ≤ size) :
    ∃ dD dc xD xc, WIn old size (tkw t o) (R ++ [o]) dD dc xD xc := by
  obtain ⟨pos, dn, cu, d, x, sz, at_, any⟩ := t
  obtain ⟨hd, hx, ha, hc, hm, hnn, hw, h7⟩ := h
  obtain ⟨f0, p, b⟩ := o
  simp only at hd hx ha hc hm hnn hw h7
  subst hd hx
  rw [List.length_append, List.length_append] at hnn
  cases f0 with
  | false =>
    have hp := hn.2 rfl
    simp only at hp
    subst hp
    rcases h7 with ⟨rfl, rfl, rfl, rfl, rfl, rfl, rfl⟩ | ⟨rfl, h1, rfl, h2⟩
    · have e1 : dD = [] := List.eq_nil_of_length_eq_zero (by simp only [sA] at ha; omega)
      have e2 : xD = [] := List.eq_nil_of_length_eq_zero (by simp only [sC] at hc; omega)
      subst e1 e2
      refine ⟨[], [], [], [b], rfl, rfl, rfl, rfl, rfl, rfl, rfl, .inr ⟨rfl, by simp, by simp [og, ogc, tkw], .inl ⟨rfl, rfl, rfl, rfl⟩⟩⟩
    · have e : tkw ⟨pos, dn, some ⟨dc.length, xc.length, 0⟩, dD ++ dc, xD ++ xc, sz, at_, any⟩ ⟨false, 0, b⟩ = ⟨pos, dn, some ⟨dc.length, (xc.length : Int) + 1, 0⟩, dD ++ dc, xD ++ xc ++ [b], sz + 1, at_, any⟩ := rfl
      rw [e]
      refine ⟨dD, dc, xD, xc ++ [b], rfl, by simp, ha, hc, hm, ?_, hw, .inr ⟨by simp, by simp; omega, ?_, h2⟩⟩
      · simp only [List.length_append, List.length_cons, List.length_nil] at hnn ⊢
        omega
      · rw [ogc_copy, List.append_assoc]
  | true =>
    have hp := hn.1 rfl
    have hr := hr rfl
    simp only at hp hr
    rcases h7 with ⟨rfl, rfl, rfl, rfl, rfl, rfl, rfl⟩ | ⟨rfl, h1, rfl, h2⟩
    · have e1 : dD = [] := List.eq_nil_of_length_eq_zero (by simp only [sA] at ha; omega)
      have e2 : xD = [] := List.eq_nil_of_length_eq_zero (by simp only [sC] at hc; omega)
      subst e1 e2
      refine ⟨[], [b], [], [], rfl, rfl, rfl, rfl, rfl, rfl, rfl, .inr ⟨rfl, by simp, ?_, .inr ⟨rfl, by simp, ⟨hp.1, by show p ≤ old; omega⟩, ?_, ?_, ?_⟩⟩⟩
      · show [(⟨true, p, b⟩ : S94)] = og [] [] [] p ++ ogc (p + sP []) [b] []
        rw [ogc_new, sP, Int.add_zero, w64 p (by omega)]
        rfl
      · show 0 ≤ p + sP []
        rw [sP]; omega
      · show p + 1 = p + sP [] + (([b] : List Int).length : Int)
        simp [sP]
      · show p + 1 ≤ old
        omega
    · rcases h2 with ⟨rfl, rfl, rfl, rfl⟩ | ⟨rfl, k1, k2, k3, k4, k5⟩
      · have e1 : dD = [] := List.eq_nil_of_length_eq_zero (by simp only [sA] at ha; omega)
        have e2 : xD = [] := List.eq_nil_of_length_eq_zero (by simp only [sC] at hc; omega)
        subst e1 e2
        have hxl : (1 : Int) ≤ xc.length := by simp at h1; omega
        have hlen : (xc.length : Int) + 1 ≤ size := by simp [og, ogc] at hl; omega
        have e : tkw ⟨0, [], some ⟨(([] : List Int).length : Int), xc.length, 0⟩, [] ++ [], [] ++ xc, sz, at_, false⟩ ⟨true, p, b⟩ = ⟨p, [⟨0, xc.length, 0⟩], some ⟨1, 0, 0⟩, [b], xc, sz + 1, p + 1, true⟩ := rfl
        rw [e]
        refine ⟨[], [b], xc, [], rfl, by simp, by simp [sA], by simp [sC], ?_, ?_, ?_, .inr ⟨rfl, by simp, ?_, .inr ⟨rfl, by simp, ⟨hp.1, by show p ≤ old; omega⟩, ?_, ?_, ?_⟩⟩⟩
        · simp only [List.all_cons, List.all_nil, Bool.and_true]
          exact (may_iff _).2 ⟨by simp, by simp, by simp only; omega, by simp only; omega, by simp, by simp⟩
        · simp [og, ogc]; omega
        · have := wk_one (old := old) (size := size) (s := ⟨0, xc.length, 0⟩) (a := 0) (c := 0) (p := p) (by simp) (by simp) (by simp only; omega) (by simp only; omega) (by omega) (by omega) (by simp only; omega) (by simp) (by simp only; omega)
          show wk old size [⟨0, xc.length, 0⟩] 0 0 p = _
          rw [this]
          simp [sA, sC]
        · show og [] [] [] 0 ++ ogc (0 + sP []) [] xc ++ [⟨true, p, b⟩] = og [⟨0, xc.length, 0⟩] [] xc p ++ ogc (p + sP [⟨0, xc.length, 0⟩]) [b] []
          have h3 := og_one p 0 [] xc
          rw [List.length_nil] at h3
          rw [show ((0 : Nat) : Int) = 0 from rfl] at h3
          rw [h3, ogc_new, show sP [(⟨0, xc.length, 0⟩ : S82)] = 0 by simp [sP], Int.add_zero p, w64 p (by omega), ogc_none (0 + sP []) p]
          simp [og]
        · show 0 ≤ p + sP [⟨0, xc.length, 0⟩]
          simp [sP]; omega
        · show p + 1 = p + sP [⟨0, xc.length, 0⟩] + (([b] : List Int).length : Int)
          simp [sP]
        · show p + 1 ≤ old
          omega
      · subst k4
        by_cases hg : (xc.length : Int) = 0 ∧ p = pos + sP dn + dc.length
        · obtain ⟨hx0, rfl⟩ := hg
          have hx1 : xc = [] := List.eq_nil_of_length_eq_zero (by omega)
          subst hx1
          have e : tkw ⟨pos, dn, some ⟨dc.length, (([] : List Int).length : Int), 0⟩, dD ++ dc, xD ++ [], sz, pos + sP dn + dc.length, true⟩ ⟨true, pos + sP dn + dc.length, b⟩ = ⟨pos, dn, some ⟨(dc.length : Int) + 1, 0, 0⟩, dD ++ dc ++ [b], xD ++ [], sz + 1, pos + sP dn + dc.length + 1, true⟩ := by simp [tkw]
          rw [e]
          refine ⟨dD, dc ++ [b], xD, [], by simp, rfl, ha, hc, hm, ?_, hw, .inr ⟨by simp, by simp, ?_, .inr ⟨rfl, by simp, k2, k3, ?_, ?_⟩⟩⟩
          · simp only [List.length_append, List.length_cons, List.length_nil] at hnn ⊢
            omega
          · show og dn dD xD pos ++ ogc (pos + sP dn) dc [] ++ [⟨true, pos + sP dn + dc.length, b⟩] = og dn dD xD pos ++ ogc (pos + sP dn) (dc ++ [b]) []
            rw [ogc_add, w64 (pos + sP dn + dc.length) (by omega), List.append_assoc]
          · simp; omega
          · show pos + sP dn + dc.length + 1 ≤ old
            omega
        · have hlen : (dD.length : Int) + dc.length + (xD.length + xc.length) + 1 ≤ size := by omega
          have e : tkw ⟨pos, dn, some ⟨dc.length, xc.length, 0⟩, dD ++ dc, xD ++ xc, sz, pos + sP dn + dc.length, true⟩ ⟨true, p, b⟩ = ⟨pos, dn ++ [⟨dc.length, xc.length, p - (pos + sP dn + dc.length)⟩], some ⟨1, 0, 0⟩, dD ++ dc ++ [b], xD ++ xc, sz + 1, p + 1, true⟩ := by
            simp only [tkw, if_true]
            rw [if_neg (by decide), if_neg hg]
          rw [e]
          have hms : may ⟨dc.length, xc.length, p - (pos + sP dn + dc.length)⟩ = true := (may_iff _).2 ⟨by simp, by simp only; omega, by simp, by simp only; omega, by simp only; omega, by simp only; omega⟩
          have hsp : sP (dn ++ [⟨dc.length, xc.length, p - (pos + sP dn + dc.length)⟩]) = p - pos := by
            rw [sP_app]; simp only [sP]; omega
          refine ⟨dD ++ dc, [b], xD ++ xc, [], by simp, by simp, ?_, ?_, ?_, ?_, ?_, .inr ⟨rfl, by simp, ?_, .inr ⟨rfl, by simp, k2, ?_, ?_, ?_⟩⟩⟩
          · show sA (dn ++ [⟨dc.length, xc.length, p - (pos + sP dn + dc.length)⟩]) = _
            rw [sA_app, List.length_append]; simp only [sA]; omega
          · show sC (dn ++ [⟨dc.length, xc.length, p - (pos + sP dn + dc.length)⟩]) = _
            rw [sC_app, List.length_append]; simp only [sC]; omega
          · show (dn ++ [(⟨dc.length, xc.length, p - (pos + sP dn + dc.length)⟩ : S82)]).all may = true
            rw [List.all_append, hm]
            simp [hms]
          · simp only [List.length_append, List.length_cons, List.length_nil] at hnn ⊢
            omega
          · show wk old size (dn ++ [⟨dc.length, xc.length, p - (pos + sP dn + dc.length)⟩]) 0 0 pos = some (sA (dn ++ [⟨dc.length, xc.length, p - (pos + sP dn + dc.length)⟩]), sC (dn ++ [⟨dc.length, xc.length, p - (pos + sP dn + dc.length)⟩]))
            rw [wk_snoc old size _ dn 0 0 pos _ _ hw, wk_one (by simp) (by simp) (by simp only; omega) (by simp only; omega) (by omega) (by omega) (by simp only; omega) (by simp only; omega) (by simp only; omega), sA_app, sC_app]
            simp [sA, sC]
          · show og dn dD xD pos ++ ogc (pos + sP dn) dc xc ++ [⟨true, p, b⟩] = og (dn ++ [⟨dc.length, xc.length, p - (pos + sP dn + dc.length)⟩]) (dD ++ dc) (xD ++ xc) pos ++ ogc (pos + sP (dn ++ [⟨dc.length, xc.length, p - (pos + sP dn + dc.length)⟩])) [b] []
            rw [og_app dn dD xD _ dc xc pos hm ha hc, og_one, ogc_new, hsp, show pos + (p - pos) = p by omega, w64 p (by omega)]
          · show 0 ≤ pos + sP (dn ++ [⟨dc.length, xc.length, p - (pos + sP dn + dc.length)⟩])
            rw [hsp]; omega
          · show p + 1 = pos + sP (dn ++ [⟨dc.length, xc.length, p - (pos + sP dn + dc.length)⟩]) + (([b] : List Int).length : Int)
            rw [hsp]; simp; omega
          · show p + 1 ≤ old
            omega
theorem WIn.fold {old size : Int} (ho : 0 ≤ old ∧ old ≤ 16777216) (hs : size ≤ 65536) : ∀ (L R : List S94) (t : WS) (dD dc xD xc : List Int), WIn old size t R dD dc xD xc → (∀ o ∈ L, NearO o) → (∀ o ∈ L, o.f0 = true → o.f1 < old) → (R.length : Int) + L.length ≤ size →
    ∃ dD dc xD xc, WIn old size (L.foldl tkw t) (R ++ L) dD dc xD xc
  | [], R, t, dD, dc, xD, xc, h, _, _, _ => ⟨dD, dc, xD, xc, by simpa using h⟩
  | o :: l, R, t, dD, dc, xD, xc, h, hn, hr, hl => by
    rw [List.length_cons] at hl
    obtain ⟨e0, e1, e2, e3, h2⟩ := h.step ho hs (hn o List.mem_cons_self) (hr o List.mem_cons_self) (by omega)
    have := WIn.fold ho hs l (R ++ [o]) (tkw t o) e0 e1 e2 e3 h2 (fun q hq => hn q (List.mem_cons_of_mem _ hq)) (fun q hq => hr q (List.mem_cons_of_mem _ hq)) (by rw [List.length_append, List.length_singleton]; omega)
    rw [List.append_assoc] at this
    exact this
theorem movS_sP : ∀ (l : List S82) (p : Int), movS l p = p + sP l
  | [], p => by simp [movS, sP]
  | s :: l, p => by rw [movS, movS_sP l, sP]; omega
/-- What a window tells that was cut. -/
structure WMean (y : S43) (R : List S94) : Prop where
  ogR : og y.f1.f0 y.f1.f1 y.f1.f2 y.f0 = R
  a : sA y.f1.f0 = y.f1.f1.length
  c : sC y.f1.f0 = y.f1.f2.length
  m : y.f1.f0.all may = true
  n : y.f1.f1.length + y.f1.f2.length = R.length
  p : 0 ≤ y.f0 ∧ y.f0 ≤ 16777216
  mv : 0 ≤ y.f0 + sP y.f1.f0 ∧ y.f0 + sP y.f1.f0 ≤ 16777216
theorem lastS_snoc (l : List S82) (s : S82) : lastS (l ++ [s]) = s.f2 := by
  unfold lastS
  rw [List.length_append, List.length_singleton, show ((l.length + 1 : Nat) : Int) - 1 = (l.length : Int) by omega]
  simp [rd_T82, List.getD_eq_getElem?_getD]
theorem WIn.win {old size : Int} {t : WS} {R : List S94} {dD dc xD xc : List Int} (h : WIn old size t R dD dc xD xc) (hne : R ≠ []) (ho : 0 ≤ old ∧ old ≤ 16777216) (hs : size ≤ 65536) (hl : (R.length : Int) ≤ size) :
    WMean (winY t) R ∧ wk old size t.st 0 0 t.pos = some ((t.d.length : Int), (t.x.length : Int)) ∧ t.st ≠ [] ∧ lastS t.st = 0 ∧ t.pos ≤ old := by
  obtain ⟨pos, dn, cu, d, x, sz, at_, any⟩ := t
  obtain ⟨hd, hx, ha, hc, hm, hnn, hw, h7⟩ := h
  simp only at hd hx ha hc hm hnn hw h7
  rcases h7 with ⟨_, _, _, _, _, _, h⟩ | ⟨rfl, h1, hR, h2⟩
  · exact absurd h hne
  have hsp : 0 ≤ pos ∧ pos ≤ old ∧ 0 ≤ pos + sP dn ∧ pos + sP dn + dc.length ≤ old := by
    rcases h2 with ⟨_, rfl, rfl, rfl⟩ | ⟨_, k1, k2, k3, k4, k5⟩
    · simp [sP]; omega
    · omega
  have e : WS.st ⟨pos, dn, some ⟨dc.length, xc.length, 0⟩, d, x, sz, at_, any⟩ = dn ++ [⟨dc.length, xc.length, 0⟩] := rfl
  have hld : d.length = dD.length + dc.length := by rw [hd, List.length_append]
  have hlx : x.length = xD.length + xc.length := by rw [hx, List.length_append]
  have hspA : sP (dn ++ [⟨dc.length, xc.length, 0⟩]) = sP dn + dc.length := by rw [sP_app]; simp only [sP]; omega
  have hsA : sA (dn ++ [⟨dc.length, xc.length, 0⟩]) = d.length := by rw [sA_app]; simp only [sA]; omega
  have hsC : sC (dn ++ [⟨dc.length, xc.length, 0⟩]) = x.length := by rw [sC_app]; simp only [sC]; omega
  refine ⟨⟨?_, ?_, ?_, ?_, hnn, ?_, ?_⟩, ?_, ?_, ?_, hsp.2.1⟩
  · show og (dn ++ [⟨dc.length, xc.length, 0⟩]) d x pos = R
    rw [hd, hx, og_app dn dD xD _ dc xc pos hm ha hc, og_one, hR]
  · exact hsA
  · exact hsC
  · show (dn ++ [(⟨dc.length, xc.length, 0⟩ : S82)]).all may = true
    rw [List.all_append, hm]
    have : may ⟨dc.length, xc.length, 0⟩ = true := (may_iff _).2 ⟨by simp, by simp only; omega, by simp, by simp only; omega, by simp, by simp⟩
    simp [this]
  · exact ⟨hsp.1, by have := hsp.2.1; show pos ≤ 16777216; omega⟩
  · show 0 ≤ pos + sP (dn ++ [⟨dc.length, xc.length, 0⟩]) ∧ pos + sP (dn ++ [⟨dc.length, xc.length, 0⟩]) ≤ 16777216
    rw [hspA]
    omega
  · show wk old size (dn ++ [⟨dc.length, xc.length, 0⟩]) 0 0 pos = _
    rw [wk_snoc old size _ dn 0 0 pos _ _ hw, wk_one (by simp) (by simp) (by simp only; omega) (by simp only; omega) (by omega) (by omega) (by simp only; omega) (by simp) (by simp only; omega)]
    simp only
    congr 2 <;> omega
  · rw [e]; simp
  · rw [e]; exact lastS_snoc _ _
theorem win_means (L : List S94) (hne : L ≠ []) (hl : L.length ≤ 65536) (hn : ∀ o ∈ L, NearO o) : WMean (winY (mkW L)) L := by
  obtain ⟨dD, dc, xD, xc, h⟩ := WIn.fold (old := 16777216) (size := 65536) (by omega) (by omega) L [] ws0 _ _ _ _ (WIn.start _ _) hn (fun o ho h => ((hn o ho).1 h).2) (by simp; omega)
  exact (h.win (by simpa using hne) (by omega) (by omega) (by simp; omega)).1
/-- A window that was cut may be over an old image in which all lies that it reads. -/
theorem win_may {old : Int} (ho : 0 ≤ old ∧ old ≤ 16777216) (L : List S94) (hne : L ≠ []) (hl : L.length ≤ 65536) (hn : ∀ o ∈ L, NearO o) (hr : ∀ o ∈ L, o.f0 = true → o.f1 < old) : pchk (mkW L).pos (mkW L).st (mkW L).d (mkW L).x old L.length = 0 := by
  obtain ⟨dD, dc, xD, xc, h⟩ := WIn.fold (old := old) (size := L.length) ho (by omega) L [] ws0 _ _ _ _ (WIn.start _ _) hn hr (by simp)
  rw [List.nil_append] at h
  obtain ⟨hM, h1, h2, h3, h4⟩ := h.win hne ho (by omega) (Int.le_refl _)
  have hp := hM.p
  have hnn := hM.n
  have hpos : 0 < L.length := List.length_pos_iff.2 hne
  unfold pchk
  have h1 : wk old L.length (mkW L).st 0 0 (mkW L).pos = some (((mkW L).d.length : Int), ((mkW L).x.length : Int)) := h1
  have hp : 0 ≤ (mkW L).pos ∧ (mkW L).pos ≤ 16777216 := hp
  have h4 : (mkW L).pos ≤ old := h4
  have hnn : (mkW L).d.length + (mkW L).x.length = L.length := hnn
  have h2 : (mkW L).st ≠ [] := h2
  have h3 : lastS (mkW L).st = 0 := h3
  rw [if_neg (by omega), h1]
  simp only
  rw [if_neg (by rintro (h | h); exact h2 h; exact h h3), if_neg (by omega)]
theorem wks_rds (old : Int) (h16 : old ≤ 16777216) : ∀ (st : List S82) (d x : List Int) (p : Int) (nd nx : Nat), WkS old st p nd nx → Rds old (og st d x p)
  | [], d, x, p, nd, nx, _, o, ho, _ => by cases ho
  | s :: l, d, x, p, nd, nx, h, o, ho, hf => by
    have h : ((0 ≤ s.f0 ∧ s.f0 ≤ 65536) ∧ (0 ≤ s.f1 ∧ s.f1 ≤ 65536) ∧ -16777216 ≤ s.f2 ∧ s.f2 ≤ 16777216) ∧ (0 ≤ p ∧ p + s.f0 ≤ old) ∧ (s.f0.toNat ≤ nd ∧ s.f1.toNat ≤ nx) ∧ WkS old l (p + s.f0 + s.f2) (nd - s.f0.toNat) (nx - s.f1.toNat) := h
    obtain ⟨h1, h2, h3, h4⟩ := h
    rw [og] at ho
    rcases List.mem_append.1 ho with ho | ho
    · obtain ⟨i, hi, rfl⟩ := List.mem_map.1 ho
      have hi := List.mem_range.1 hi
      simp only
      rw [w64 _ (by omega)]
      omega
    · rcases List.mem_append.1 ho with ho | ho
      · obtain ⟨b, _, rfl⟩ := List.mem_map.1 ho
        cases hf
      · refine wks_rds old h16 l _ _ _ (nd - s.f0.toNat) (nx - s.f1.toNat) ?_ o ho hf
        rw [show p + (s.f0.toNat : Int) + s.f2 = p + s.f0 + s.f2 by omega]
        exact h4
/-- What Apply makes of a window that was cut. -/
theorem win_apply (old : List Int) (ho : old.length ≤ 16777216) (L : List S94) (hne : L ≠ []) (hl : L.length ≤ 65536) (hn : ∀ o ∈ L, NearO o) :
    (Rds old.length L → apR old (mkW L).pos (mkW L).st (mkW L).d (mkW L).x L.length = (L.map (ob old), 0)) ∧ (¬ Rds old.length L → apR old (mkW L).pos (mkW L).st (mkW L).d (mkW L).x L.length = ([], 171)) := by
  have hM := win_means L hne hl hn
  refine ⟨fun hr => ?_, fun hr => ?_⟩
  · have := win_may (old := old.length) (by omega) L hne hl hn (fun o ho h => (hr o ho h).2)
    unfold apR
    rw [if_pos this]
    unfold apw
    have e := hM.ogR
    have e : og (mkW L).st (mkW L).d (mkW L).x (mkW L).pos = L := e
    rw [e]
  · unfold apR
    rw [if_neg]
    intro h
    obtain ⟨hw, _⟩ := pchk_wks h
    have := wks_rds old.length (by omega) (mkW L).st (mkW L).d (mkW L).x (mkW L).pos _ _ hw
    have e := hM.ogR
    have e : og (mkW L).st (mkW L).d (mkW L).x (mkW L).pos = L := e
    rw [e] at this
    exact hr this
end Go.Proofs.Ytinlfoblpgpikaa
namespace Go.Proofs.Ytinlfoblpgpikaa
open Go.RowKit Go.Shelf Go.Proofs.YtinlfoblpgpikaaW.PrintWords Go.Proofs.YtinlfoblpgpikaaW.PrintLast Go.Proofs.YtinlfoblpgpikaaW.PrintMore Go.Proofs.Ytinlfoblpgpikaa.Pr
set_option linter.unusedVariables false
set_option linter.unusedSimpArgs false
theorem Rds.app {old : Int} {L1 L2 : List S94} : Rds old (L1 ++ L2) ↔ Rds old L1 ∧ Rds old L2 := by
  unfold Rds
  constructor
  · intro h
    exact ⟨fun o ho => h o (List.mem_append_left _ ho), fun o ho => h o (List.mem_append_right _ ho)⟩
  · rintro ⟨h1, h2⟩ o ho
    rcases List.mem_append.1 ho with ho | ho
    · exact h1 o ho
    · exact h2 o ho
theorem Rds.nil (old : Int) : Rds old [] := fun o ho => by cases ho
theorem og_kind : ∀ (st : List S82) (d x : List Int) (a : Int), ∀ o ∈ og st d x a, o.f0 = false → o.f1 = 0
  | [], _, _, _, o, ho, _ => by cases ho
  | s :: l, d, x, a, o, ho, hf => by
    rw [og] at ho
    rcases List.mem_append.1 ho with ho | ho
    · obtain ⟨i, _, rfl⟩ := List.mem_map.1 ho
      cases hf
    · rcases List.mem_append.1 ho with ho | ho
      · obtain ⟨b, _, rfl⟩ := List.mem_map.1 ho
        rfl
      · exact og_kind l _ _ _ o ho hf
theorem rds_iff (C M : Int) (hC : C ≤ 200000000000000) (hM : M = 33554432) (old : Int) (h16 : old ≤ 16777216) : ∀ (st : List S82) (d x : List Int) (a : Int), st.all may = true → (M * (st.length : Int) - C ≤ a ∧ a ≤ C - M * (st.length : Int)) → (rds old st a = true ↔ Rds old (og st d x a))
  | [], d, x, a, _, _ => ⟨fun _ => Rds.nil _, fun _ => rfl⟩
  | s :: l, d, x, a, hm, ha => by
    rw [List.all_cons, Bool.and_eq_true] at hm
    have hs := (may_iff s).1 hm.1
    have e : M * (((s :: l).length : Nat) : Int) = M * (l.length : Int) + M := by
      rw [List.length_cons, show ((l.length + 1 : Nat) : Int) = (l.length : Int) + 1 by omega, Int.mul_add, Int.mul_one]
    rw [e] at ha
    obtain ⟨q, hq⟩ : ∃ q, M * (l.length : Int) = q := ⟨_, rfl⟩
    have hq0 : 0 ≤ q := by rw [← hq]; exact Int.mul_nonneg (by omega) (by omega)
    rw [hq] at ha
    have ih := rds_iff C M hC hM old h16 l (d.drop s.f0.toNat) (x.drop s.f1.toNat) (a + s.f0 + s.f2) hm.2 (by rw [hq]; omega)
    rw [rds, og, Rds.app, Rds.app, show a + (s.f0.toNat : Int) + s.f2 = a + s.f0 + s.f2 by omega]
    have h2 : Rds old ((x.take s.f1.toNat).map (fun b => (⟨false, 0, b⟩ : S94))) := by
      intro o ho hf
      obtain ⟨b, _, rfl⟩ := List.mem_map.1 ho
      cases hf
    have h1 : Rds old ((List.range s.f0.toNat).map (fun (i : Nat) => (⟨true, wrap64 (a + (i : Int)), d.getD i 0⟩ : S94))) ↔ ¬ (0 < s.f0 ∧ (wrap64 a < 0 ∨ old < wrap64 (a + s.f0))) := by
      rw [w64 a (by omega), w64 (a + s.f0) (by omega)]
      constructor
      · rintro h ⟨h0, h3⟩
        have k1 := h ⟨true, wrap64 (a + ((0 : Nat) : Int)), d.getD 0 0⟩ (List.mem_map.2 ⟨0, List.mem_range.2 (by omega), rfl⟩) rfl
        have k2 := h ⟨true, wrap64 (a + ((s.f0.toNat - 1 : Nat) : Int)), d.getD (s.f0.toNat - 1) 0⟩ (List.mem_map.2 ⟨s.f0.toNat - 1, List.mem_range.2 (by omega), rfl⟩) rfl
        simp only at k1 k2
        rw [w64 _ (by omega)] at k1 k2
        omega
      · intro h o ho hf
        obtain ⟨i, hi, rfl⟩ := List.mem_map.1 ho
        have hi := List.mem_range.1 hi
        simp only
        rw [w64 _ (by omega)]
        omega
    rw [h1]
    by_cases hc : 0 < s.f0 ∧ (wrap64 a < 0 ∨ old < wrap64 (a + s.f0))
    · rw [if_pos hc]
      exact ⟨fun h => (by cases h), fun h => absurd hc h.1⟩
    · rw [if_neg hc, ih]
      exact ⟨fun h => ⟨hc, h2, h⟩, fun h => h.2.2⟩
theorem wk_le {old size : Int} : ∀ (l : List S82) (a c p a' c' : Int), wk old size l a c p = some (a', c') → a + c + l.length ≤ a' + c'
  | [], a, c, p, a', c', h => by
    simp only [wk, Option.some.injEq, Prod.mk.injEq] at h
    obtain ⟨rfl, rfl⟩ := h
    simp
  | s :: l, a, c, p, a', c', h => by
    rw [wk] at h
    split at h
    · cases h
    · split at h
      · cases h
      · split at h
        · cases h
        · have := wk_le l _ _ _ _ _ h
          rw [List.length_cons]
          omega
/-- A window that was cut has no more steps than bytes. -/
theorem win_few (L : List S94) (hne : L ≠ []) (hl : L.length ≤ 65536) (hn : ∀ o ∈ L, NearO o) : (winY (mkW L)).f1.f0.length ≤ L.length := by
  obtain ⟨dD, dc, xD, xc, h⟩ := WIn.fold (old := 16777216) (size := 65536) (by omega) (by omega) L [] ws0 _ _ _ _ (WIn.start _ _) hn (fun o ho h => ((hn o ho).1 h).2) (by simp; omega)
  obtain ⟨hM, hw, _⟩ := h.win (by simpa using hne) (by omega) (by omega) (by simp; omega)
  have := wk_le _ _ _ _ _ _ hw
  have hnn := hM.n
  rw [List.nil_append] at hnn
  have hnn : (mkW L).d.length + (mkW L).x.length = L.length := hnn
  have this : 0 + 0 + (((mkW L).st.length : Nat) : Int) ≤ (mkW L).d.length + (mkW L).x.length := this
  show (mkW L).st.length ≤ L.length
  omega
/-- One window more. -/
theorem jnS_means {y : S43} {R : List S94} (hM : WMean y R) (hy : y.f1.f0.length ≤ R.length) {at_ : Int} {sl : List S82} {dl xl : List Int} (hm : sl.all may = true) (ha : sA sl = dl.length) (hc : sC sl = xl.length) (hp : sP sl = at_) (hq : 0 ≤ at_ ∧ at_ ≤ 16777216) :
    (jnS y at_ sl).all may = true ∧ sA (jnS y at_ sl) = (dl ++ y.f1.f1).length ∧ sC (jnS y at_ sl) = (xl ++ y.f1.f2).length ∧ sP (jnS y at_ sl) = movS y.f1.f0 y.f0 ∧ og (jnS y at_ sl) (dl ++ y.f1.f1) (xl ++ y.f1.f2) 0 = og sl dl xl 0 ++ R ∧ (jnS y at_ sl).length ≤ sl.length + 1 + R.length := by
  have key : ∀ sl' : List S82, sl'.all may = true → sA sl' = dl.length → sC sl' = xl.length → sP sl' = y.f0 → og sl' dl xl 0 = og sl dl xl 0 → sl'.length ≤ sl.length + 1 →
      (sl' ++ y.f1.f0).all may = true ∧ sA (sl' ++ y.f1.f0) = (dl ++ y.f1.f1).length ∧ sC (sl' ++ y.f1.f0) = (xl ++ y.f1.f2).length ∧ sP (sl' ++ y.f1.f0) = movS y.f1.f0 y.f0 ∧ og (sl' ++ y.f1.f0) (dl ++ y.f1.f1) (xl ++ y.f1.f2) 0 = og sl dl xl 0 ++ R ∧ (sl' ++ y.f1.f0).length ≤ sl.length + 1 + R.length := by
    intro sl' m a c p o n
    refine ⟨?_, ?_, ?_, ?_, ?_, ?_⟩
    · rw [List.all_append, m, hM.m]; rfl
    · rw [sA_app, a, hM.a, List.length_append]; omega
    · rw [sC_app, c, hM.c, List.length_append]; omega
    · rw [sP_app, p, movS_sP]
    · rw [og_app sl' dl xl _ _ _ 0 m a c, o, p, Int.zero_add, hM.ogR]
    · rw [List.length_append]; omega
  have hp0 := hM.p
  unfold jnS
  by_cases he : y.f0 = at_
  · rw [if_pos he]
    exact key sl hm ha hc (hp.trans he.symm) rfl (by omega)
  · rw [if_neg he]
    have e := og_app sl dl xl [⟨0, 0, y.f0 - at_⟩] [] [] 0 hm ha hc
    rw [List.append_nil, List.append_nil] at e
    refine key _ ?_ ?_ ?_ ?_ ?_ ?_
    · rw [List.all_append, hm]
      have : may ⟨0, 0, y.f0 - at_⟩ = true := (may_iff _).2 ⟨by simp, by simp, by simp, by simp, by simp only; omega, by simp only; omega⟩
      simp [this]
    · rw [sA_app, ha]; simp [sA]
    · rw [sC_app, hc]; simp [sC]
    · rw [sP_app, hp]; simp only [sP]; omega
    · rw [e]; simp [og]
    · rw [List.length_append]; simp
theorem jn_cut (size : Nat) (h64 : 64 ≤ size ∧ size ≤ 65536) : ∀ (n : Nat) (L : List S94), L.length ≤ n → (∀ o ∈ L, NearO o) → ∀ (at_ : Int) (sl : List S82) (dl xl : List Int), sl.all may = true → sA sl = dl.length → sC sl = xl.length → sP sl = at_ → (0 ≤ at_ ∧ at_ ≤ 16777216) →
    ∃ js jd jx, jn size (cutL size L) at_ sl dl xl = ((js, jd, jx), 0) ∧ js.all may = true ∧ sA js = jd.length ∧ sC js = jx.length ∧ og js jd jx 0 = og sl dl xl 0 ++ L ∧ js.length ≤ sl.length + 2 * L.length
  | 0, L, hn, _, at_, sl, dl, xl, hm, ha, hc, _, _ => by
    have : L = [] := List.eq_nil_of_length_eq_zero (by omega)
    subst this
    exact ⟨sl, dl, xl, rfl, hm, ha, hc, by rw [List.append_nil], by omega⟩
  | n + 1, L, hn, hno, at_, sl, dl, xl, hm, ha, hc, hp, hq => by
    by_cases hne : L = []
    · subst hne
      exact ⟨sl, dl, xl, rfl, hm, ha, hc, by rw [List.append_nil], by omega⟩
    have hpos : 0 < L.length := List.length_pos_iff.2 hne
    obtain ⟨R, hR⟩ : ∃ R, L.take size = R := ⟨_, rfl⟩
    have hRl : R.length = min size L.length := by rw [← hR, List.length_take]
    have hRne : R ≠ [] := List.length_pos_iff.1 (by omega)
    have hRn : ∀ o ∈ R, NearO o := fun o ho => hno o (List.mem_of_mem_take (hR ▸ ho))
    have hM := win_means R hRne (by omega) hRn
    have hF := win_few R hRne (by omega) hRn
    have hsz : szW (winY (mkW R)) = R.length := by
      have := hM.n
      unfold szW
      omega
    have hpk := win_may (old := 16777216) (by omega) R hRne (by omega) hRn (fun o ho h => ((hRn o ho).1 h).2)
    obtain ⟨k1, k2, k3, k4, k5, k6⟩ := jnS_means hM hF hm ha hc hp hq
    have hmv := hM.mv
    obtain ⟨js, jd, jx, e, e1, e2, e3, e4, e5⟩ := jn_cut size h64 n (L.drop size) (by rw [List.length_drop]; omega) (fun o ho => hno o (List.mem_of_mem_drop ho)) _ _ _ _ k1 k2 k3 k4 (by rw [movS_sP]; exact hmv)
    refine ⟨js, jd, jx, ?_, e1, e2, e3, ?_, ?_⟩
    · rw [cutL_cons size (by omega) L hne, hR, jn, if_neg, e]
      rw [hsz]
      rintro (⟨h1, h2⟩ | h1 | h1)
      · apply h1
        have : L.drop size = [] := List.eq_nil_of_length_eq_zero (by rw [List.length_drop]; omega)
        rw [this, cutL_nil]
      · omega
      · exact h1 hpk
    · rw [e4, k5, List.append_assoc, ← hR, List.take_append_drop]
    · rw [List.length_drop] at e5
      omega
/-- What holds of an edit that may be cut, and of what its windows make up. -/
theorem cut_join {st : List S82} {d x : List Int} (h : checked st d x 16777216 ((d.length : Int) + (x.length : Int)) = 0) (hst : st.length ≤ 5000000) (hd : d.length + x.length ≤ 2400000) (size : Nat) (h64 : 64 ≤ size ∧ size ≤ 65536) :
    (∀ o ∈ og st d x 0, NearO o) ∧ (og st d x 0).length = d.length + x.length ∧ (ited st d x).2 = 0 ∧ (∀ old : Int, old ≤ 16777216 → (rds old st 0 = true ↔ Rds old (og st d x 0))) ∧
    ∃ js jd jx, joinR size (cutL size (og st d x 0)) = ((js, jd, jx), 0) ∧ checked js jd jx 16777216 ((jd.length : Int) + (jx.length : Int)) = 0 ∧ og js jd jx 0 = og st d x 0 ∧ js.length ≤ 2 * (d.length + x.length) ∧ jd.length + jx.length = d.length + x.length ∧ (ited js jd jx).2 = 0 ∧
      (∀ old : Int, old ≤ 16777216 → (rds old js 0 = true ↔ Rds old (og st d x 0))) := by
  obtain ⟨hm, ha, hc, h16, hr⟩ := checked_zero h
  have hnear0 := (rds_iff 200000000000000 33554432 (by omega) rfl 16777216 (by omega) st d x 0 hm (by omega)).1 hr
  have hnear : ∀ o ∈ og st d x 0, NearO o := fun o ho => ⟨fun hf => hnear0 o ho hf, og_kind st d x 0 o ho⟩
  have hlen : (og st d x 0).length = d.length + x.length := by have := og_len st d x 0 hm ha hc; omega
  obtain ⟨js, jd, jx, e, e1, e2, e3, e4, e5⟩ := jn_cut size h64 (og st d x 0).length (og st d x 0) (Nat.le_refl _) hnear 0 [] [] [] rfl rfl rfl rfl (by omega)
  rw [show og [] [] [] 0 = [] from rfl, List.nil_append] at e4
  have hjl : jd.length + jx.length = d.length + x.length := by
    have := og_len js jd jx 0 e1 e2 e3
    rw [e4] at this
    omega
  have hjr : ∀ old : Int, old ≤ 16777216 → (rds old js 0 = true ↔ Rds old (og st d x 0)) := fun old ho => by
    have := rds_iff 200000000000000 33554432 (by omega) rfl old ho js jd jx 0 e1 (by simp at e5; omega)
    rwa [e4] at this
  have hit : ∀ (s : List S82) (a b : List Int), s.all may = true → sA s = a.length → sC s = b.length → sA s + sC s ≤ 16777216 → ited s a b = (sA s + sC s, 0) := by
    intro s a b h1 h2 h3 h4
    unfold ited
    rw [if_pos h1, if_pos ⟨h4, h2, h3⟩]
  have i1 := hit st d x hm ha hc h16
  have i2 := hit js jd jx e1 e2 e3 (by omega)
  refine ⟨hnear, hlen, by rw [i1], fun old ho => rds_iff 200000000000000 33554432 (by omega) rfl old ho st d x 0 hm (by omega), js, jd, jx, ?_, ?_, e4, ?_, hjl, by rw [i2], hjr⟩
  · unfold joinR
    rw [if_neg (by omega), e]
  · unfold checked
    rw [if_neg (by omega), i2]
    simp only
    rw [if_neg (by omega), if_neg (by omega), if_pos ((hjr 16777216 (by omega)).2 hnear0)]
  · simp only [List.length_nil] at e5
    omega
end Go.Proofs.Ytinlfoblpgpikaa
namespace Go.Proofs.Ytinlfoblpgpikaa
open Go.RowKit Go.ChangeShapes Go.WideShapes Go.Shelf Go.Proofs.YtinlfoblpgpikaaW.PrintWords Go.Proofs.YtinlfoblpgpikaaW.PrintLast Go.Proofs.YtinlfoblpgpikaaW.PrintMore Go.Proofs.Ytinlfoblpgpikaa.Pr
set_option linter.unusedVariables false
set_option linter.unusedSimpArgs false
theorem same_eqC {A : Option Addr} {n c : Nat} {xs : List Int} {B : Option Addr} {e : Nat} {w : World} (hx : (Kd.int .u8).C w A n xs) (hc : n ≤ c) (hy : (Kd.int .u8).C w B n xs) (he : n ≤ e) :
    Calls Try.prog 25 #[.slice A n c, .slice B n e] w fun e w' => e = .returned (.bool true) ∧ Below w.heap.size w w' := by
  obtain rfl : xs.length = n := hx.1
  exact (sapperref01_Same.calls A c xs B e xs true w hx hc hy he (by simp [sapperref01_Same.f])).mono fun e w' h => ⟨h.1, Drawn0.below h.2⟩
theorem own_C8' {W : World} {b n c : Nat} {A : Option Addr} {l : List Int} (h : OB W b (.slice A n c) l) (hl : l.length = n) : (Kd.int .u8).C W A n l := by
  subst hl
  exact own_C8 h
theorem own_cap'' {W : World} {b n c : Nat} {A : Option Addr} {l : List Int} (h : OB W b (.slice A n c) l) (hl : l.length = n) : n ≤ c := by
  subst hl
  exact own_cap' h
end Go.Proofs.Ytinlfoblpgpikaa
