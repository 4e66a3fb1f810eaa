/- vcd: words of edits. (Turned from cutter/Bs.) -/
import Derived.Test.YtmfnjmecnhagmaaE1
import Derived.Test.YtmfnjmecnhagmaaRr
import Derived.Shelf.Abstract
import Derived.Shelf.RegionOpen
import Derived.OwnWalkIn
import Derived.TacticsInMore
import Derived.LoopNIn
import Derived.LoopIn
import Derived.BigRegionIn
namespace Go.Proofs.Ytmfnjmecnhagmaa.Pr
open Go.RowKit Go.Proofs.YtmfnjmecnhagmaaW.PrintWords Go.Proofs.YtmfnjmecnhagmaaW.PrintLast Go.Proofs.YtmfnjmecnhagmaaW.PrintMore
set_option linter.unusedVariables false
set_option linter.unusedSimpArgs false
/-- Where a byte of the new image comes from: of the old image (f0), its place, the byte of the lists. -/
structure S94 where
  f0 : Bool
  f1 : Int
  f2 : Int
def z94 : S94 := ⟨false, 0, 0⟩
theorem w64 (n : Int) (h : -9223372036854775808 ≤ n ∧ n ≤ 9223372036854775807) : wrap64 n = n := by unfold wrap64; omega
theorem w64_add (a b : Int) : wrap64 (wrap64 a + b) = wrap64 (a + b) := by unfold wrap64; omega
theorem w64_add' (a b : Int) : wrap64 (a + wrap64 b) = wrap64 (a + b) := by unfold wrap64; omega
/-- A cap on the lengths that a row of cells may have. -/
def fits {α : Type} (l : List α) : Prop := l.length ≤ 9223372036854775807
def may (s : S100) : Bool := decide (0 ≤ s.f0 ∧ s.f0 ≤ 16777216 ∧ 0 ≤ s.f1 ∧ s.f1 ≤ 16777216 ∧ -16777216 ≤ s.f2 ∧ s.f2 ≤ 16777216)
theorem may_iff (s : S100) : may s = true ↔ 0 ≤ s.f0 ∧ s.f0 ≤ 16777216 ∧ 0 ≤ s.f1 ∧ s.f1 ≤ 16777216 ∧ -16777216 ≤ s.f2 ∧ s.f2 ≤ 16777216 := decide_eq_true_iff
theorem stepMay_f (s : S100) : edit_stepMay.f s.f0 s.f1 s.f2 = some (may s) := by
  unfold edit_stepMay.f edit_within.f
  have hm := may_iff s
  cases h : may s with
  | true =>
    have := hm.1 h
    simp [this]
  | false =>
    have hn : ¬ (0 ≤ s.f0 ∧ s.f0 ≤ 16777216 ∧ 0 ≤ s.f1 ∧ s.f1 ≤ 16777216 ∧ -16777216 ≤ s.f2 ∧ s.f2 ≤ 16777216) := fun h' => by rw [hm.2 h'] at h; cases h
    by_cases h0 : 0 ≤ s.f0 <;> by_cases h1 : s.f0 ≤ 16777216 <;> by_cases h2 : 0 ≤ s.f1 <;> by_cases h3 : s.f1 ≤ 16777216 <;> by_cases h4 : -16777216 ≤ s.f2 <;> by_cases h5 : s.f2 ≤ 16777216 <;> simp [h0, h1, h2, h3, h4, h5]
    exact hn ⟨h0, h1, h2, h3, h4, h5⟩
def sA : List S100 → Int
  | [] => 0
  | s :: l => s.f0 + sA l
def sC : List S100 → Int
  | [] => 0
  | s :: l => s.f1 + sC l
theorem sA_nn : ∀ (l : List S100), l.all may = true → 0 ≤ sA l
  | [], _ => by simp [sA]
  | s :: l, h => by
    simp only [List.all_cons, Bool.and_eq_true] at h
    have := sA_nn l h.2
    have := (may_iff s).1 h.1
    simp only [sA]
    omega
theorem sC_nn : ∀ (l : List S100), l.all may = true → 0 ≤ sC l
  | [], _ => by simp [sC]
  | s :: l, h => by
    simp only [List.all_cons, Bool.and_eq_true] at h
    have := sC_nn l h.2
    have := (may_iff s).1 h.1
    simp only [sC]
    omega
def ited (st : List S100) (d x : List Int) : Int × Int :=
  if st.all may = true then (if sA st + sC st ≤ 16777216 ∧ sA st = d.length ∧ sC st = x.length then (sA st + sC st, 0) else (0, 162)) else (0, 160)
theorem drop_rd (st : List S100) (i : Nat) (h : i < st.length) : st.drop i = rd_T100 st i :: st.drop (i + 1) := by
  rw [List.drop_eq_getElem_cons h]
  congr 1
  simp [rd_T100, List.getD_eq_getElem?_getD, List.getElem?_eq_getElem h]
theorem all_drop {st : List S100} (h : st.all may = true) (i : Nat) : (st.drop i).all may = true := by
  rw [List.all_eq_true] at h ⊢
  exact fun x hx => h x (List.mem_of_mem_drop hx)
theorem it_l1 (st : List S100) (d x : List Int) (hst : st.all may = true) (hf : fits st) : ∀ (j i : Nat) (a c : Int), i + j = st.length → 0 ≤ a → 0 ≤ c → a + c ≤ 16777216 →
    edit_itself.l1 (j + 1) a c st (st.length : Int) i st d x =
      some (if a + c + (sA (st.drop i) + sC (st.drop i)) ≤ 16777216 ∧ a + sA (st.drop i) = d.length ∧ c + sC (st.drop i) = x.length then (a + sA (st.drop i) + (c + sC (st.drop i)), 0) else (0, 162))
  | 0, i, a, c, hi, ha, hc, hac => by
    obtain rfl : i = st.length := by omega
    simp only [edit_itself.l1, List.drop_length, sA, sC]
    rw [if_neg (by omega)]
    rw [w64 _ (by omega)]
    by_cases h1 : a = d.length <;> by_cases h2 : c = x.length <;> simp [h1, h2] <;> omega
  | j + 1, i, a, c, hi, ha, hc, hac => by
    have hlt : i < st.length := by omega
    have hd := drop_rd st i hlt
    have hall := all_drop hst i
    rw [hd, List.all_cons, Bool.and_eq_true] at hall
    have hm := (may_iff _).1 hall.1
    have hA := sA_nn _ hall.2
    have hC := sC_nn _ hall.2
    unfold fits at hf
    rw [edit_itself.l1, if_pos (by omega), if_pos (by omega), if_pos (by omega)]
    rw [w64 (a + _) (by omega), w64 (c + _) (by omega), w64 (_ + _) (by omega), w64 ((i : Int) + 1) (by omega)]
    have eA : sA (st.drop i) = (rd_T100 st i).f0 + sA (st.drop (i + 1)) := by rw [hd]; rfl
    have eC : sC (st.drop i) = (rd_T100 st i).f1 + sC (st.drop (i + 1)) := by rw [hd]; rfl
    by_cases ht : a + (rd_T100 st i).f0 + (c + (rd_T100 st i).f1) > 16777216
    · rw [if_pos ht, if_neg (by omega)]
    · rw [if_neg ht, show ((i : Int) + 1) = ((i + 1 : Nat) : Int) by omega, it_l1 st d x hst hf j (i + 1) _ _ (by omega) (by omega) (by omega) (by omega)]
      congr 1
      have e1 : a + (rd_T100 st i).f0 + sA (st.drop (i + 1)) = a + sA (st.drop i) := by omega
      have e2 : c + (rd_T100 st i).f1 + sC (st.drop (i + 1)) = c + sC (st.drop i) := by omega
      rw [e1, e2]
      by_cases h : a + c + (sA (st.drop i) + sC (st.drop i)) ≤ 16777216 ∧ a + sA (st.drop i) = d.length ∧ c + sC (st.drop i) = x.length
      · rw [if_pos h, if_pos ⟨by omega, h.2⟩]
      · rw [if_neg h, if_neg (fun h' => h ⟨by omega, h'.2⟩)]
theorem it_l0 (st : List S100) (d x : List Int) (hf : fits st) : ∀ (j i : Nat), i + j = st.length → (st.take i).all may = true →
    edit_itself.l0 (st.length + 2 + j) 0 0 st (st.length : Int) i st d x = some (ited st d x)
  | 0, i, hi, ht => by
    obtain rfl : i = st.length := by omega
    rw [List.take_length] at ht
    rw [edit_itself.l0, if_neg (by omega)]
    have := it_l1 st d x ht hf st.length 0 0 0 (by omega) (by omega) (by omega) (by omega)
    rw [show ((0 : Nat) : Int) = 0 from rfl] at this
    simp only [List.drop_zero, Int.zero_add, Int.add_zero] at this
    rw [show st.length + 1 + 0 = st.length + 1 from rfl]
    rw [this]
    unfold ited
    rw [if_pos ht]
  | j + 1, i, hi, ht => by
    have hlt : i < st.length := by omega
    have hd := drop_rd st i hlt
    have hf' := hf
    unfold fits at hf
    rw [show st.length + 2 + (j + 1) = (st.length + 2 + j) + 1 by omega, edit_itself.l0, if_pos (by omega), if_pos (by omega), if_pos (by omega), stepMay_f, Option.bind_some]
    have hta : st.take (i + 1) = st.take i ++ [rd_T100 st i] := by
      rw [List.take_succ_eq_append_getElem hlt]
      congr 2
      simp [rd_T100, List.getD_eq_getElem?_getD, List.getElem?_eq_getElem hlt]
    by_cases hm : may (rd_T100 st i) = true
    · rw [if_pos hm, w64 _ (by omega), show ((i : Int) + 1) = ((i + 1 : Nat) : Int) by omega]
      exact it_l0 st d x hf' j (i + 1) (by omega) (by rw [hta, List.all_append, ht]; simp [hm])
    · rw [if_neg hm]
      unfold ited
      rw [if_neg]
      intro h
      have := all_drop h i
      rw [hd, List.all_cons, Bool.and_eq_true] at this
      exact hm this.1
theorem itself_f (st : List S100) (d x : List Int) (hf : fits st) : ∃ k, edit_itself.f k st d x = some (ited st d x) :=
  ⟨_, it_l0 st d x hf st.length 0 (by omega) (by simp)⟩
/-- Where reading goes is reckoned as the machine does. -/
def rds (old : Int) : List S100 → Int → Bool
  | [], _ => true
  | s :: l, a => if 0 < s.f0 ∧ (wrap64 a < 0 ∨ old < wrap64 (a + s.f0)) then false else rds old l (a + s.f0 + s.f2)
theorem rds_l0 (st : List S100) (old : Int) (hf : fits st) : ∀ (j i : Nat) (a : Int), i + j = st.length → edit_reads.l0 (j + 1) old (wrap64 a) st (st.length : Int) i = some (rds old (st.drop i) a)
  | 0, i, a, hi => by
    obtain rfl : i = st.length := by omega
    simp [edit_reads.l0, rds]
  | j + 1, i, a, hi => by
    have hlt : i < st.length := by omega
    rw [drop_rd st i hlt, rds]
    have hf' := hf
    unfold fits at hf
    rw [edit_reads.l0, if_pos (by omega), if_pos (by omega), if_pos (by omega)]
    have ih := rds_l0 st old hf' j (i + 1) (a + (rd_T100 st i).f0 + (rd_T100 st i).f2) (by omega)
    rw [w64_add' (wrap64 a), w64_add a, w64_add a, ← Int.add_assoc, w64 ((i : Int) + 1) (by omega), show ((i : Int) + 1) = ((i + 1 : Nat) : Int) by omega, ih]
    by_cases h0 : (rd_T100 st i).f0 > 0
    · rw [if_pos h0]
      by_cases h1 : wrap64 a < 0
      · rw [if_pos h1, if_pos ⟨h0, .inl h1⟩]
      · rw [if_neg h1]
        by_cases h2 : wrap64 (a + (rd_T100 st i).f0) > old
        · rw [if_pos h2, if_pos ⟨h0, .inr h2⟩]
        · rw [if_neg h2, if_neg (fun h => h.2.elim h1 h2)]
    · rw [if_neg h0, if_neg (fun h => h0 h.1)]
theorem reads_f (st : List S100) (old : Int) (hf : fits st) : ∃ k, edit_reads.f k st old = some (rds old st 0) :=
  ⟨st.length + 1, by
    have := rds_l0 st old hf st.length 0 0 (by omega)
    simpa [edit_reads.f, w64] using this⟩
def og : List S100 → List Int → List Int → Int → List S94
  | [], _, _, _ => []
  | s :: l, d, x, a => (List.range s.f0.toNat).map (fun i => ⟨true, wrap64 (a + (i : Int)), d.getD i 0⟩) ++ ((x.take s.f1.toNat).map (fun b => ⟨false, 0, b⟩) ++ og l (d.drop s.f0.toNat) (x.drop s.f1.toNat) (a + s.f0.toNat + s.f2))
/-- What is left of a step, and behind it. -/
def ogr (n m : Nat) (sk : Int) (l : List S100) (d x : List Int) (a : Int) : List S94 :=
  (List.range n).map (fun i => ⟨true, wrap64 (a + (i : Int)), d.getD i 0⟩) ++ ((x.take m).map (fun b => ⟨false, 0, b⟩) ++ og l (d.drop n) (x.drop m) (a + n + sk))
theorem og_cons (s : S100) (l : List S100) (d x : List Int) (a : Int) : og (s :: l) d x a = ogr s.f0.toNat s.f1.toNat s.f2 l d x a := rfl
theorem ogr_add (n m : Nat) (sk : Int) (l : List S100) (b : Int) (d x : List Int) (a : Int) : ogr (n + 1) m sk l (b :: d) x a = ⟨true, wrap64 a, b⟩ :: ogr n m sk l d x (a + 1) := by
  unfold ogr
  rw [List.range_succ_eq_map, List.map_cons, List.map_map, List.cons_append]
  congr 1
  · simp
  · congr 1
    · apply List.map_congr_left
      intro i _
      simp only [Function.comp, List.getD_cons_succ]
      congr 2
      omega
    · rw [List.drop_succ_cons]
      congr 2
      omega
theorem ogr_copy (m : Nat) (sk : Int) (l : List S100) (d : List Int) (b : Int) (x : List Int) (a : Int) : ogr 0 (m + 1) sk l d (b :: x) a = ⟨false, 0, b⟩ :: ogr 0 m sk l d x a := by
  simp [ogr]
theorem ogr_end (sk : Int) (l : List S100) (d x : List Int) (a : Int) : ogr 0 0 sk l d x a = og l d x (a + sk) := by
  simp [ogr]
theorem og_len : ∀ (st : List S100) (d x : List Int) (a : Int), st.all may = true → sA st = d.length → sC st = x.length → ((og st d x a).length : Int) = sA st + sC st
  | [], d, x, a, _, _, _ => by simp [og, sA, sC]
  | s :: l, d, x, a, h, hd, hx => by
    simp only [List.all_cons, Bool.and_eq_true] at h
    have h1 := (may_iff s).1 h.1
    have h2 := sA_nn l h.2
    have h3 := sC_nn l h.2
    simp only [sA, sC] at hd hx ⊢
    have ih := og_len l (d.drop s.f0.toNat) (x.drop s.f1.toNat) (a + s.f0.toNat + s.f2) h.2 (by rw [List.length_drop]; omega) (by rw [List.length_drop]; omega)
    simp only [og, List.length_append, List.length_map, List.length_range, List.length_take]
    omega
end Go.Proofs.Ytmfnjmecnhagmaa.Pr
namespace Go.Proofs.Ytmfnjmecnhagmaa
open Go.RowKit Go.Shelf Go.Proofs.YtmfnjmecnhagmaaW.PrintWords Go.Proofs.YtmfnjmecnhagmaaW.PrintLast Go.Proofs.YtmfnjmecnhagmaaW.PrintMore Go.Proofs.Ytmfnjmecnhagmaa.Pr
set_option linter.unusedVariables false
set_option linter.unusedSimpArgs false
/-- An edit's lists, read. -/
structure EdC (W : World) (A0 : Option Addr) (c0 : Nat) (st : List S100) (A1 : Option Addr) (c1 : Nat) (d : List Int) (A2 : Option Addr) (c2 : Nat) (x : List Int) : Prop where
  s : Kd.C k100 W A0 st.length st
  di : Kd.C (Kd.int .u8) W A1 d.length d
  ex : Kd.C (Kd.int .u8) W A2 x.length x
  hs : st.length ≤ c0
  hd : d.length ≤ c1
  hx : x.length ≤ c2
theorem EdC.below {W W' : World} {A0 : Option Addr} {c0 : Nat} {st : List S100} {A1 : Option Addr} {c1 : Nat} {d : List Int} {A2 : Option Addr} {c2 : Nat} {x : List Int} (h : EdC W A0 c0 st A1 c1 d A2 c2 x) (hb : Below W.heap.size W W') : EdC W' A0 c0 st A1 c1 d A2 c2 x :=
  ⟨Kd.C_below h.s hb, Kd.C_below h.di hb, Kd.C_below h.ex hb, h.hs, h.hd, h.hx⟩
def EdV (A0 : Option Addr) (n0 c0 : Nat) (A1 : Option Addr) (n1 c1 : Nat) (A2 : Option Addr) (n2 c2 : Nat) : Value := .agg #[.slice A0 n0 c0, .slice A1 n1 c1, .slice A2 n2 c2]
/-- An edit in a box. -/
structure EdB (W : World) (Be : Nat) (A0 : Option Addr) (c0 : Nat) (st : List S100) (A1 : Option Addr) (c1 : Nat) (d : List Int) (A2 : Option Addr) (c2 : Nat) (x : List Int) : Prop where
  b : W.heap[Be]? = some (.cells #[.slice A0 st.length c0, .slice A1 d.length c1, .slice A2 x.length c2] 37 (0, 0))
  r : EdC W A0 c0 st A1 c1 d A2 c2 x
theorem Below.drew' (W : World) : Below W.heap.size W W.drew := ⟨rfl, rfl, rfl, Nat.le_refl _, fun _ _ => rfl⟩
theorem cell_blk {w : World} {g : Nat} {t : TypeId} {cs : Array Value} {fr : Nat × Nat} (h : w.heap[g]? = some (.cells cs t fr)) (i : Nat) : w.cell? ⟨g, i, none⟩ = cs[i]? := cell_of_row w g i cs t fr h
def cells100 (l : List S100) : List Value := l.flatMap fun s => [.int .i64 s.f0, .int .i64 s.f1, .int .i64 s.f2]
theorem cells100_len (l : List S100) : (cells100 l).length = l.length * 3 := by
  induction l with
  | nil => rfl
  | cons s l ih => simp [cells100] at ih ⊢; omega
theorem cells100_at : ∀ (l : List S100) (j : Nat) (p : S100), l[j]? = some p → ∀ i u, [Value.int .i64 p.f0, .int .i64 p.f1, .int .i64 p.f2][i]? = some u → (cells100 l)[j * 3 + i]? = some u
  | [], j, p, h => by simp at h
  | s :: l, 0, p, h => by
    simp at h
    subst h
    intro i u hu
    have hi : i < 3 := by have := (List.getElem?_eq_some_iff.1 hu).1; simpa using this
    show (([Value.int .i64 s.f0, .int .i64 s.f1, .int .i64 s.f2] : List Value) ++ cells100 l)[0 * 3 + i]? = some u
    rw [List.getElem?_append_left (by simp; omega)]
    simpa using hu
  | s :: l, j + 1, p, h => by
    intro i u hu
    have := cells100_at l j p (by simpa using h) i u hu
    show (([Value.int .i64 s.f0, .int .i64 s.f1, .int .i64 s.f2] : List Value) ++ cells100 l)[(j + 1) * 3 + i]? = some u
    rw [List.getElem?_append_right (by simp; omega)]
    rw [← this]
    congr 1
    simp
    omega
theorem C100_lit {w : World} {g : Nat} {t : TypeId} {fr : Nat × Nat} {l : List S100} (h : w.heap[g]? = some (.cells (cells100 l).toArray t fr)) (hl : l.length ≤ 9223372036854775807) : Kd.C k100 w (some ⟨g, 0, none⟩) l.length l := by
  refine ⟨rfl, hl, fun _ => ⟨_, rfl, fun j p hj => ⟨[.int .i64 p.f0, .int .i64 p.f1, .int .i64 p.f2], rfl, k100_mk w p, fun i u hu => ?_⟩⟩⟩
  rw [add_plain, cell_blk h]
  have := cells100_at l j p hj i u hu
  simpa [k100, Kd.iso, Kd.pair, Kd.int, Kd.scalar] using this
theorem eltB : Elt Try.prog 34 5 (.int .u8 0) 1 1 := ⟨Try.underlying34, by kernel_rfl, rfl, by decide, by decide⟩
theorem own_bk {W W' : World} {n : Nat} {base : Nat} {e : TypeId} {size m : Nat} {v : Value} {xs : List Value} (h : W.ownsRow base e size v m xs) (k : Bk n W W') : W'.ownsRow base e size v m xs := by
  refine own_move h (fun g hg => ?_)
  obtain ⟨cells, hc⟩ := own_typed h g hg
  rw [k.block _ _ hc (.inl rfl), hc]
theorem own_src {W : World} {b n c : Nat} {A : Option Addr} {l : List Int} (h : W.ownsRow b 5 1 (.slice A n c) n (nums .u8 l)) : Src W A n 1 (nums .u8 l) := by
  obtain ⟨A', c', e, hr⟩ := own_reads h
  cases e
  have hl : l.length = n := by have := h.1; simp [nums] at this; exact this
  subst hl
  exact Src.of_C (Kd.C_of_reads (enc := Value.int .u8) (d := (0 : Int)) (h1 := fun _ => rfl) hr)
theorem elt100 : Elt Try.prog 35 100 (.agg #[.int .i64 0, .int .i64 0, .int .i64 0]) 3 24 := ⟨Try.underlying35, by kernel_rfl, rfl, by decide, by decide⟩
theorem cells100_one (l : List S100) : ∀ u ∈ cells100 l, u.oneCell' = true := by
  intro u hu
  obtain ⟨s, _, h⟩ := List.mem_flatMap.1 hu
  simp at h
  rcases h with rfl | rfl | rfl <;> rfl
theorem src100 {W : World} {A : Option Addr} {l : List S100} (h : Kd.C k100 W A l.length l) : Src W A l.length 3 (cells100 l) := by
  refine ⟨cells100_len l, fun q u hq => ?_, cells100_one l⟩
  have hlt := (List.getElem?_eq_some_iff.1 hq).1
  rw [cells100_len] at hlt
  obtain ⟨ad, e, hc⟩ := h.2.2 (by omega)
  have hj : q / 3 < l.length := by omega
  obtain ⟨c, _, hK, hcell⟩ := hc (q / 3) _ (List.getElem?_eq_getElem hj)
  rw [k100_open hK] at hcell
  have hi : q % 3 < 3 := Nat.mod_lt _ (by omega)
  have hu := List.getElem?_eq_getElem (l := [Value.int .i64 l[q / 3].f0, .int .i64 l[q / 3].f1, .int .i64 l[q / 3].f2]) (i := q % 3) (by simpa using hi)
  have h1 := cells100_at l (q / 3) _ (List.getElem?_eq_getElem hj) (q % 3) _ hu
  have hq3 : q / 3 * 3 + q % 3 = q := by omega
  rw [hq3, hq] at h1
  refine ⟨ad, e, ?_⟩
  have h2 := hcell (q % 3) _ hu
  rw [show q / 3 * k100.sz + q % 3 = q from hq3] at h2
  rw [h2, h1]
/-- An own row of steps, read. -/
theorem own_C100 {W : World} {b n c : Nat} {A : Option Addr} {l : List S100} (h : W.ownsRow b 100 3 (.slice A n c) n (cells100 l)) (hl : l.length = n) : Kd.C k100 W A l.length l := by
  subst hl
  rcases h.2 with ⟨e1, e2⟩ | ⟨g, cap, cur, e1, _, _, h1, h2, _⟩
  · have : l = [] := List.eq_nil_of_length_eq_zero e2
    subst this
    exact ⟨rfl, by simp, fun h => by simp at h⟩
  · cases e1
    have hcs := h.cells (g := g) rfl
    refine ⟨rfl, by simp only [maxLen] at h2; omega, fun _ => ⟨_, rfl, fun j p hj => ⟨[.int .i64 p.f0, .int .i64 p.f1, .int .i64 p.f2], rfl, k100_mk W p, fun i u hu => ?_⟩⟩⟩
    have := cells100_at l j p hj i u hu
    exact hcs _ _ this
/-- A row's block, by its type. -/
def Typd (W : World) (A : Option Addr) (t : TypeId) : Prop := ∀ a, A = some a → ∃ cur, W.heap[a.block]? = some (.cells cur t (0, 0))
theorem Typd.own {W : World} {b size n c : Nat} {e : TypeId} {A : Option Addr} {xs : List Value} (h : W.ownsRow b e size (.slice A n c) n xs) : Typd W A e := by
  intro a ha
  subst ha
  rcases h.2 with ⟨h', _⟩ | ⟨g, cap, cur, h', _, hg, _⟩
  · simp at h'
  · simp only [Value.slice.injEq, Option.some.injEq, true_and] at h'
    obtain ⟨rfl, _⟩ := h'
    exact ⟨cur, hg⟩
theorem Typd.below {W W' : World} {A : Option Addr} {t : TypeId} (h : Typd W A t) (hb : Below W.heap.size W W') : Typd W' A t := fun a ha => (h a ha).elim fun cur hc => ⟨cur, blk_below hc hb⟩
theorem Typd.ne {W : World} {A : Option Addr} {t u : TypeId} {b : Nat} {cs : Array Value} (h : Typd W A t) (hb : W.heap[b]? = some (.cells cs u (0, 0))) (hne : t ≠ u) : ∀ a, A = some a → a.block ≠ b := by
  intro a ha e
  obtain ⟨cur, hc⟩ := h a ha
  rw [e, hb] at hc
  cases hc
  exact hne rfl
theorem own_C8 {W : World} {b n c : Nat} {A : Option Addr} {l : List Int} (h : W.ownsRow b 5 1 (.slice A n c) n (nums .u8 l)) : Kd.C (Kd.int .u8) W A l.length l := by
  obtain ⟨A', c', e, hr⟩ := own_reads h
  cases e
  have hl : l.length = n := by have := h.1; simp [nums] at this; exact this
  subst hl
  exact Kd.C_of_reads (enc := Value.int .u8) (d := (0 : Int)) (h1 := fun _ => rfl) hr
end Go.Proofs.Ytmfnjmecnhagmaa
