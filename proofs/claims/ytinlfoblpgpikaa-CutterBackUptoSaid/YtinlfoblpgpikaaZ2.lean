/- cutter: words of edit's texts, for this seat: what a step may be, an edit's bytes one by one, lists in memory. ; cutter: edit.Check, told plainly. (Turned from edit/Tl.) ; cutter: Check, by contract,  -/
import Derived.Test.YtinlfoblpgpikaaE1
import Derived.Test.YtinlfoblpgpikaaZ1
import Derived.Shelf.Abstract
import Derived.Shelf.RegionOpen
import Derived.OwnWalkIn
import Derived.TacticsInMore
import Derived.LoopNIn
import Derived.LoopIn
import Derived.BigRegionIn
import Derived.ScopeJumps
import Derived.WalkMore
import Derived.Test.YtinlfoblpgpikaaF1
import Derived.WalkSpells
import Derived.Deep.Slices
import Derived.Deep.Fields
import Derived.ChangeSame
import Derived.SizedLaws
import Derived.OpenShut
import Derived.Lib.SmallJoins
namespace Go.Proofs.Ytinlfoblpgpikaa.Pr
open Go.RowKit Go.Proofs.YtinlfoblpgpikaaW.PrintWords Go.Proofs.YtinlfoblpgpikaaW.PrintLast Go.Proofs.YtinlfoblpgpikaaW.PrintMore
set_option linter.unusedVariables false
set_option linter.unusedSimpArgs false
/-- Where a byte of the new image comes from: of the old image (f0), its place, the byte of the lists. -/
structure S94 where
  f0 : Bool
  f1 : Int
  f2 : Int
def z94 : S94 := ⟨false, 0, 0⟩
theorem w64 (n : Int) (h : -9223372036854775808 ≤ n ∧ n ≤ 9223372036854775807) : wrap64 n = n := by unfold wrap64; omega
theorem w64_add (a b : Int) : wrap64 (wrap64 a + b) = wrap64 (a + b) := by unfold wrap64; omega
theorem w64_add' (a b : Int) : wrap64 (a + wrap64 b) = wrap64 (a + b) := by unfold wrap64; omega
/-- A cap on the lengths that a row of cells may have. -/
def fits {α : Type} (l : List α) : Prop := l.length ≤ 9223372036854775807
def may (s : S82) : Bool := decide (0 ≤ s.f0 ∧ s.f0 ≤ 16777216 ∧ 0 ≤ s.f1 ∧ s.f1 ≤ 16777216 ∧ -16777216 ≤ s.f2 ∧ s.f2 ≤ 16777216)
theorem may_iff (s : S82) : may s = true ↔ 0 ≤ s.f0 ∧ s.f0 ≤ 16777216 ∧ 0 ≤ s.f1 ∧ s.f1 ≤ 16777216 ∧ -16777216 ≤ s.f2 ∧ s.f2 ≤ 16777216 := decide_eq_true_iff
theorem stepMay_f (s : S82) : edit_stepMay.f s.f0 s.f1 s.f2 = some (may s) := by
  unfold edit_stepMay.f edit_within.f
  have hm := may_iff s
  cases h : may s with
  | true =>
    have := hm.1 h
    simp [this]
  | false =>
    have hn : ¬ (0 ≤ s.f0 ∧ s.f0 ≤ 16777216 ∧ 0 ≤ s.f1 ∧ s.f1 ≤ 16777216 ∧ -16777216 ≤ s.f2 ∧ s.f2 ≤ 16777216) := fun h' => by rw [hm.2 h'] at h; cases h
    by_cases h0 : 0 ≤ s.f0 <;> by_cases h1 : s.f0 ≤ 16777216 <;> by_cases h2 : 0 ≤ s.f1 <;> by_cases h3 : s.f1 ≤ 16777216 <;> by_cases h4 : -16777216 ≤ s.f2 <;> by_cases h5 : s.f2 ≤ 16777216 <;> simp [h0, h1, h2, h3, h4, h5]
    exact hn ⟨h0, h1, h2, h3, h4, h5⟩
def sA : List S82 → Int
  | [] => 0
  | s :: l => s.f0 + sA l
def sC : List S82 → Int
  | [] => 0
  | s :: l => s.f1 + sC l
theorem sA_nn : ∀ (l : List S82), l.all may = true → 0 ≤ sA l
  | [], _ => by simp [sA]
  | s :: l, h => by
    simp only [List.all_cons, Bool.and_eq_true] at h
    have := sA_nn l h.2
    have := (may_iff s).1 h.1
    simp only [sA]
    omega
theorem sC_nn : ∀ (l : List S82), l.all may = true → 0 ≤ sC l
  | [], _ => by simp [sC]
  | s :: l, h => by
    simp only [List.all_cons, Bool.and_eq_true] at h
    have := sC_nn l h.2
    have := (may_iff s).1 h.1
    simp only [sC]
    omega
def ited (st : List S82) (d x : List Int) : Int × Int :=
  if st.all may = true then (if sA st + sC st ≤ 16777216 ∧ sA st = d.length ∧ sC st = x.length then (sA st + sC st, 0) else (0, 162)) else (0, 160)
theorem drop_rd (st : List S82) (i : Nat) (h : i < st.length) : st.drop i = rd_T82 st i :: st.drop (i + 1) := by
  rw [List.drop_eq_getElem_cons h]
  congr 1
  simp [rd_T82, List.getD_eq_getElem?_getD, List.getElem?_eq_getElem h]
theorem all_drop {st : List S82} (h : st.all may = true) (i : Nat) : (st.drop i).all may = true := by
  rw [List.all_eq_true] at h ⊢
  exact fun x hx => h x (List.mem_of_mem_drop hx)
theorem it_l1 (st : List S82) (d x : List Int) (hst : st.all may = true) (hf : fits st) : ∀ (j i : Nat) (a c : Int), i + j = st.length → 0 ≤ a → 0 ≤ c → a + c ≤ 16777216 →
    edit_itself.l1 (j + 1) a c st (st.length : Int) i st d x =
      some (if a + c + (sA (st.drop i) + sC (st.drop i)) ≤ 16777216 ∧ a + sA (st.drop i) = d.length ∧ c + sC (st.drop i) = x.length then (a + sA (st.drop i) + (c + sC (st.drop i)), 0) else (0, 162))
  | 0, i, a, c, hi, ha, hc, hac => by
    obtain rfl : i = st.length := by omega
    simp only [edit_itself.l1, List.drop_length, sA, sC]
    rw [if_neg (by omega)]
    rw [w64 _ (by omega)]
    by_cases h1 : a = d.length <;> by_cases h2 : c = x.length <;> simp [h1, h2] <;> omega
  | j + 1, i, a, c, hi, ha, hc, hac => by
    have hlt : i < st.length := by omega
    have hd := drop_rd st i hlt
    have hall := all_drop hst i
    rw [hd, List.all_cons, Bool.and_eq_true] at hall
    have hm := (may_iff _).1 hall.1
    have hA := sA_nn _ hall.2
    have hC := sC_nn _ hall.2
    unfold fits at hf
    rw [edit_itself.l1, if_pos (by omega), if_pos (by omega), if_pos (by omega)]
    rw [w64 (a + _) (by omega), w64 (c + _) (by omega), w64 (_ + _) (by omega), w64 ((i : Int) + 1) (by omega)]
    have eA : sA (st.drop i) = (rd_T82 st i).f0 + sA (st.drop (i + 1)) := by rw [hd]; rfl
    have eC : sC (st.drop i) = (rd_T82 st i).f1 + sC (st.drop (i + 1)) := by rw [hd]; rfl
    by_cases ht : a + (rd_T82 st i).f0 + (c + (rd_T82 st i).f1) > 16777216
    · rw [if_pos ht, if_neg (by omega)]
    · rw [if_neg ht, show ((i : Int) + 1) = ((i + 1 : Nat) : Int) by omega, it_l1 st d x hst hf j (i + 1) _ _ (by omega) (by omega) (by omega) (by omega)]
      congr 1
      have e1 : a + (rd_T82 st i).f0 + sA (st.drop (i + 1)) = a + sA (st.drop i) := by omega
      have e2 : c + (rd_T82 st i).f1 + sC (st.drop (i + 1)) = c + sC (st.drop i) := by omega
      rw [e1, e2]
      by_cases h : a + c + (sA (st.drop i) + sC (st.drop i)) ≤ 16777216 ∧ a + sA (st.drop i) = d.length ∧ c + sC (st.drop i) = x.length
      · rw [if_pos h, if_pos ⟨by omega, h.2⟩]
      · rw [if_neg h, if_neg (fun h' => h ⟨by omega, h'.2⟩)]
theorem it_l0 (st : List S82) (d x : List Int) (hf : fits st) : ∀ (j i : Nat), i + j = st.length → (st.take i).all may = true →
    edit_itself.l0 (st.length + 2 + j) 0 0 st (st.length : Int) i st d x = some (ited st d x)
  | 0, i, hi, ht => by
    obtain rfl : i = st.length := by omega
    rw [List.take_length] at ht
    rw [edit_itself.l0, if_neg (by omega)]
    have := it_l1 st d x ht hf st.length 0 0 0 (by omega) (by omega) (by omega) (by omega)
    rw [show ((0 : Nat) : Int) = 0 from rfl] at this
    simp only [List.drop_zero, Int.zero_add, Int.add_zero] at this
    rw [show st.length + 1 + 0 = st.length + 1 from rfl]
    rw [this]
    unfold ited
    rw [if_pos ht]
  | j + 1, i, hi, ht => by
    have hlt : i < st.length := by omega
    have hd := drop_rd st i hlt
    have hf' := hf
    unfold fits at hf
    rw [show st.length + 2 + (j + 1) = (st.length + 2 + j) + 1 by omega, edit_itself.l0, if_pos (by omega), if_pos (by omega), if_pos (by omega), stepMay_f, Option.bind_some]
    have hta : st.take (i + 1) = st.take i ++ [rd_T82 st i] := by
      rw [List.take_succ_eq_append_getElem hlt]
      congr 2
      simp [rd_T82, List.getD_eq_getElem?_getD, List.getElem?_eq_getElem hlt]
    by_cases hm : may (rd_T82 st i) = true
    · rw [if_pos hm, w64 _ (by omega), show ((i : Int) + 1) = ((i + 1 : Nat) : Int) by omega]
      exact it_l0 st d x hf' j (i + 1) (by omega) (by rw [hta, List.all_append, ht]; simp [hm])
    · rw [if_neg hm]
      unfold ited
      rw [if_neg]
      intro h
      have := all_drop h i
      rw [hd, List.all_cons, Bool.and_eq_true] at this
      exact hm this.1
theorem itself_f (st : List S82) (d x : List Int) (hf : fits st) : ∃ k, edit_itself.f k st d x = some (ited st d x) :=
  ⟨_, it_l0 st d x hf st.length 0 (by omega) (by simp)⟩
/-- Where reading goes is reckoned as the machine does. -/
def rds (old : Int) : List S82 → Int → Bool
  | [], _ => true
  | s :: l, a => if 0 < s.f0 ∧ (wrap64 a < 0 ∨ old < wrap64 (a + s.f0)) then false else rds old l (a + s.f0 + s.f2)
theorem rds_l0 (st : List S82) (old : Int) (hf : fits st) : ∀ (j i : Nat) (a : Int), i + j = st.length → edit_reads.l0 (j + 1) old (wrap64 a) st (st.length : Int) i = some (rds old (st.drop i) a)
  | 0, i, a, hi => by
    obtain rfl : i = st.length := by omega
    simp [edit_reads.l0, rds]
  | j + 1, i, a, hi => by
    have hlt : i < st.length := by omega
    rw [drop_rd st i hlt, rds]
    have hf' := hf
    unfold fits at hf
    rw [edit_reads.l0, if_pos (by omega), if_pos (by omega), if_pos (by omega)]
    have ih := rds_l0 st old hf' j (i + 1) (a + (rd_T82 st i).f0 + (rd_T82 st i).f2) (by omega)
    rw [w64_add' (wrap64 a), w64_add a, w64_add a, ← Int.add_assoc, w64 ((i : Int) + 1) (by omega), show ((i : Int) + 1) = ((i + 1 : Nat) : Int) by omega, ih]
    by_cases h0 : (rd_T82 st i).f0 > 0
    · rw [if_pos h0]
      by_cases h1 : wrap64 a < 0
      · rw [if_pos h1, if_pos ⟨h0, .inl h1⟩]
      · rw [if_neg h1]
        by_cases h2 : wrap64 (a + (rd_T82 st i).f0) > old
        · rw [if_pos h2, if_pos ⟨h0, .inr h2⟩]
        · rw [if_neg h2, if_neg (fun h => h.2.elim h1 h2)]
    · rw [if_neg h0, if_neg (fun h => h0 h.1)]
theorem reads_f (st : List S82) (old : Int) (hf : fits st) : ∃ k, edit_reads.f k st old = some (rds old st 0) :=
  ⟨st.length + 1, by
    have := rds_l0 st old hf st.length 0 0 (by omega)
    simpa [edit_reads.f, w64] using this⟩
def og : List S82 → List Int → List Int → Int → List S94
  | [], _, _, _ => []
  | s :: l, d, x, a => (List.range s.f0.toNat).map (fun i => ⟨true, wrap64 (a + (i : Int)), d.getD i 0⟩) ++ ((x.take s.f1.toNat).map (fun b => ⟨false, 0, b⟩) ++ og l (d.drop s.f0.toNat) (x.drop s.f1.toNat) (a + s.f0.toNat + s.f2))
/-- What is left of a step, and behind it. -/
def ogr (n m : Nat) (sk : Int) (l : List S82) (d x : List Int) (a : Int) : List S94 :=
  (List.range n).map (fun i => ⟨true, wrap64 (a + (i : Int)), d.getD i 0⟩) ++ ((x.take m).map (fun b => ⟨false, 0, b⟩) ++ og l (d.drop n) (x.drop m) (a + n + sk))
theorem og_cons (s : S82) (l : List S82) (d x : List Int) (a : Int) : og (s :: l) d x a = ogr s.f0.toNat s.f1.toNat s.f2 l d x a := rfl
theorem ogr_add (n m : Nat) (sk : Int) (l : List S82) (b : Int) (d x : List Int) (a : Int) : ogr (n + 1) m sk l (b :: d) x a = ⟨true, wrap64 a, b⟩ :: ogr n m sk l d x (a + 1) := by
  unfold ogr
  rw [List.range_succ_eq_map, List.map_cons, List.map_map, List.cons_append]
  congr 1
  · simp
  · congr 1
    · apply List.map_congr_left
      intro i _
      simp only [Function.comp, List.getD_cons_succ]
      congr 2
      omega
    · rw [List.drop_succ_cons]
      congr 2
      omega
theorem ogr_copy (m : Nat) (sk : Int) (l : List S82) (d : List Int) (b : Int) (x : List Int) (a : Int) : ogr 0 (m + 1) sk l d (b :: x) a = ⟨false, 0, b⟩ :: ogr 0 m sk l d x a := by
  simp [ogr]
theorem ogr_end (sk : Int) (l : List S82) (d x : List Int) (a : Int) : ogr 0 0 sk l d x a = og l d x (a + sk) := by
  simp [ogr]
theorem og_len : ∀ (st : List S82) (d x : List Int) (a : Int), st.all may = true → sA st = d.length → sC st = x.length → ((og st d x a).length : Int) = sA st + sC st
  | [], d, x, a, _, _, _ => by simp [og, sA, sC]
  | s :: l, d, x, a, h, hd, hx => by
    simp only [List.all_cons, Bool.and_eq_true] at h
    have h1 := (may_iff s).1 h.1
    have h2 := sA_nn l h.2
    have h3 := sC_nn l h.2
    simp only [sA, sC] at hd hx ⊢
    have ih := og_len l (d.drop s.f0.toNat) (x.drop s.f1.toNat) (a + s.f0.toNat + s.f2) h.2 (by rw [List.length_drop]; omega) (by rw [List.length_drop]; omega)
    simp only [og, List.length_append, List.length_map, List.length_range, List.length_take]
    omega
end Go.Proofs.Ytinlfoblpgpikaa.Pr
namespace Go.Proofs.Ytinlfoblpgpikaa
open Go.RowKit Go.Shelf Go.Proofs.YtinlfoblpgpikaaW.PrintWords Go.Proofs.YtinlfoblpgpikaaW.PrintLast Go.Proofs.YtinlfoblpgpikaaW.PrintMore Go.Proofs.Ytinlfoblpgpikaa.Pr
set_option linter.unusedVariables false
set_option linter.unusedSimpArgs false
/-- An edit's lists, read. -/
structure EdC (W : World) (A0 : Option Addr) (c0 : Nat) (st : List S82) (A1 : Option Addr) (c1 : Nat) (d : List Int) (A2 : Option Addr) (c2 : Nat) (x : List Int) : Prop where
  s : Kd.C k82 W A0 st.length st
  di : Kd.C (Kd.int .u8) W A1 d.length d
  ex : Kd.C (Kd.int .u8) W A2 x.length x
  hs : st.length ≤ c0
  hd : d.length ≤ c1
  hx : x.length ≤ c2
theorem EdC.below {W W' : World} {A0 : Option Addr} {c0 : Nat} {st : List S82} {A1 : Option Addr} {c1 : Nat} {d : List Int} {A2 : Option Addr} {c2 : Nat} {x : List Int} (h : EdC W A0 c0 st A1 c1 d A2 c2 x) (hb : Below W.heap.size W W') : EdC W' A0 c0 st A1 c1 d A2 c2 x :=
  ⟨Kd.C_below h.s hb, Kd.C_below h.di hb, Kd.C_below h.ex hb, h.hs, h.hd, h.hx⟩
def EdV (A0 : Option Addr) (n0 c0 : Nat) (A1 : Option Addr) (n1 c1 : Nat) (A2 : Option Addr) (n2 c2 : Nat) : Value := .agg #[.slice A0 n0 c0, .slice A1 n1 c1, .slice A2 n2 c2]
/-- An edit in a box. -/
structure EdB (W : World) (Be : Nat) (A0 : Option Addr) (c0 : Nat) (st : List S82) (A1 : Option Addr) (c1 : Nat) (d : List Int) (A2 : Option Addr) (c2 : Nat) (x : List Int) : Prop where
  b : W.heap[Be]? = some (.cells #[.slice A0 st.length c0, .slice A1 d.length c1, .slice A2 x.length c2] 29 (0, 0))
  r : EdC W A0 c0 st A1 c1 d A2 c2 x
theorem Below.drew' (W : World) : Below W.heap.size W W.drew := ⟨rfl, rfl, rfl, Nat.le_refl _, fun _ _ => rfl⟩
theorem cell_blk {w : World} {g : Nat} {t : TypeId} {cs : Array Value} {fr : Nat × Nat} (h : w.heap[g]? = some (.cells cs t fr)) (i : Nat) : w.cell? ⟨g, i, none⟩ = cs[i]? := cell_of_row w g i cs t fr h
def cells82 (l : List S82) : List Value := l.flatMap fun s => [.int .i64 s.f0, .int .i64 s.f1, .int .i64 s.f2]
theorem cells82_len (l : List S82) : (cells82 l).length = l.length * 3 := by
  induction l with
  | nil => rfl
  | cons s l ih => simp [cells82] at ih ⊢; omega
theorem cells82_at : ∀ (l : List S82) (j : Nat) (p : S82), l[j]? = some p → ∀ i u, [Value.int .i64 p.f0, .int .i64 p.f1, .int .i64 p.f2][i]? = some u → (cells82 l)[j * 3 + i]? = some u
  | [], j, p, h => by simp at h
  | s :: l, 0, p, h => by
    simp at h
    subst h
    intro i u hu
    have hi : i < 3 := by have := (List.getElem?_eq_some_iff.1 hu).1; simpa using this
    show (([Value.int .i64 s.f0, .int .i64 s.f1, .int .i64 s.f2] : List Value) ++ cells82 l)[0 * 3 + i]? = some u
    rw [List.getElem?_append_left (by simp; omega)]
    simpa using hu
  | s :: l, j + 1, p, h => by
    intro i u hu
    have := cells82_at l j p (by simpa using h) i u hu
    show (([Value.int .i64 s.f0, .int .i64 s.f1, .int .i64 s.f2] : List Value) ++ cells82 l)[(j + 1) * 3 + i]? = some u
    rw [List.getElem?_append_right (by simp; omega)]
    rw [← this]
    congr 1
    simp
    omega
theorem C82_lit {w : World} {g : Nat} {t : TypeId} {fr : Nat × Nat} {l : List S82} (h : w.heap[g]? = some (.cells (cells82 l).toArray t fr)) (hl : l.length ≤ 9223372036854775807) : Kd.C k82 w (some ⟨g, 0, none⟩) l.length l := by
  refine ⟨rfl, hl, fun _ => ⟨_, rfl, fun j p hj => ⟨[.int .i64 p.f0, .int .i64 p.f1, .int .i64 p.f2], rfl, k82_mk w p, fun i u hu => ?_⟩⟩⟩
  rw [add_plain, cell_blk h]
  have := cells82_at l j p hj i u hu
  simpa [k82, Kd.iso, Kd.pair, Kd.int, Kd.scalar] using this
theorem eltB : Elt Try.prog 24 5 (.int .u8 0) 1 1 := ⟨Try.underlying24, by kernel_rfl, rfl, by decide, by decide⟩
theorem own_bk {W W' : World} {n : Nat} {base : Nat} {e : TypeId} {size m : Nat} {v : Value} {xs : List Value} (h : W.ownsRow base e size v m xs) (k : Bk n W W') : W'.ownsRow base e size v m xs := by
  refine own_move h (fun g hg => ?_)
  obtain ⟨cells, hc⟩ := own_typed h g hg
  rw [k.block _ _ hc (.inl rfl), hc]
theorem elt82 : Elt Try.prog 27 82 (.agg #[.int .i64 0, .int .i64 0, .int .i64 0]) 3 24 := ⟨Try.underlying27, by kernel_rfl, rfl, by decide, by decide⟩
theorem cells82_one (l : List S82) : ∀ u ∈ cells82 l, u.oneCell' = true := by
  intro u hu
  obtain ⟨s, _, h⟩ := List.mem_flatMap.1 hu
  simp at h
  rcases h with rfl | rfl | rfl <;> rfl
theorem src82 {W : World} {A : Option Addr} {l : List S82} (h : Kd.C k82 W A l.length l) : Src W A l.length 3 (cells82 l) := by
  refine ⟨cells82_len l, fun q u hq => ?_, cells82_one l⟩
  have hlt := (List.getElem?_eq_some_iff.1 hq).1
  rw [cells82_len] at hlt
  obtain ⟨ad, e, hc⟩ := h.2.2 (by omega)
  have hj : q / 3 < l.length := by omega
  obtain ⟨c, _, hK, hcell⟩ := hc (q / 3) _ (List.getElem?_eq_getElem hj)
  rw [k82_open hK] at hcell
  have hi : q % 3 < 3 := Nat.mod_lt _ (by omega)
  have hu := List.getElem?_eq_getElem (l := [Value.int .i64 l[q / 3].f0, .int .i64 l[q / 3].f1, .int .i64 l[q / 3].f2]) (i := q % 3) (by simpa using hi)
  have h1 := cells82_at l (q / 3) _ (List.getElem?_eq_getElem hj) (q % 3) _ hu
  have hq3 : q / 3 * 3 + q % 3 = q := by omega
  rw [hq3, hq] at h1
  refine ⟨ad, e, ?_⟩
  have h2 := hcell (q % 3) _ hu
  rw [show q / 3 * k82.sz + q % 3 = q from hq3] at h2
  rw [h2, h1]
/-- A row's block, by its type. -/
def Typd (W : World) (A : Option Addr) (t : TypeId) : Prop := ∀ a, A = some a → ∃ cur, W.heap[a.block]? = some (.cells cur t (0, 0))
theorem Typd.own {W : World} {b size n c : Nat} {e : TypeId} {A : Option Addr} {xs : List Value} (h : W.ownsRow b e size (.slice A n c) n xs) : Typd W A e := by
  intro a ha
  subst ha
  rcases h.2 with ⟨h', _⟩ | ⟨g, cap, cur, h', _, hg, _⟩
  · simp at h'
  · simp only [Value.slice.injEq, Option.some.injEq, true_and] at h'
    obtain ⟨rfl, _⟩ := h'
    exact ⟨cur, hg⟩
theorem Typd.below {W W' : World} {A : Option Addr} {t : TypeId} (h : Typd W A t) (hb : Below W.heap.size W W') : Typd W' A t := fun a ha => (h a ha).elim fun cur hc => ⟨cur, blk_below hc hb⟩
theorem Typd.ne {W : World} {A : Option Addr} {t u : TypeId} {b : Nat} {cs : Array Value} (h : Typd W A t) (hb : W.heap[b]? = some (.cells cs u (0, 0))) (hne : t ≠ u) : ∀ a, A = some a → a.block ≠ b := by
  intro a ha e
  obtain ⟨cur, hc⟩ := h a ha
  rw [e, hb] at hc
  cases hc
  exact hne rfl
theorem own_C8 {W : World} {b n c : Nat} {A : Option Addr} {l : List Int} (h : W.ownsRow b 5 1 (.slice A n c) n (nums .u8 l)) : Kd.C (Kd.int .u8) W A l.length l := by
  obtain ⟨A', c', e, hr⟩ := own_reads h
  cases e
  have hl : l.length = n := by have := h.1; simp [nums] at this; exact this
  subst hl
  exact Kd.C_of_reads (enc := Value.int .u8) (d := (0 : Int)) (h1 := fun _ => rfl) hr
end Go.Proofs.Ytinlfoblpgpikaa
namespace Go.Proofs.Ytinlfoblpgpikaa.Pr
open Go.RowKit Go.Proofs.YtinlfoblpgpikaaW.PrintWords Go.Proofs.YtinlfoblpgpikaaW.PrintLast Go.Proofs.YtinlfoblpgpikaaW.PrintMore
section
attribute [local go_sem] max2_int min2_int max_two min_two max_three min_three max_four min_four   -- for this text's walks alone
set_option linter.unusedVariables false
set_option linter.unusedSimpArgs false

/-! ### edit_Check: function 40 -/
def edit_Check.j0 : Nat → Int → Int → Bool → List (S82) → List Int → List Int → Option (Int)
  | 0, _, _, _, _, _, _ => none
  | k + 1, x1, x2, x16, x114000, x114001, x114002 => if x16 = true then (some 1) else ((edit_itself.f k x114000 x114001 x114002).bind fun bt116 => (if bt116.2 = 0 then (if bt116.1 = x2 then ((edit_reads.f k x114000 x1).bind fun t118 => (if t118 = true then (some 0) else (some 161))) else (some 162)) else (some bt116.2)))
def edit_Check.f (k : Nat) (l0_0 : List (S82)) (l0_1 : List Int) (l0_2 : List Int) (a1 : Int) (a2 : Int) : Option (Int) := (edit_within.f a1 0 16777216).bind fun t114 => (if t114 = true then ((edit_within.f a2 0 16777216).bind fun t115 => (edit_Check.j0 k a1 a2 (!t115) l0_0 l0_1 l0_2)) else (edit_Check.j0 k a1 a2 true l0_0 l0_1 l0_2))
set_option maxHeartbeats 8000000 in
set_option maxRecDepth 100000 in
theorem edit_Check.calls (k : Nat) (A0_0 : Option Addr) (c0_0 : Nat) (l0_0 : List (S82)) (A0_1 : Option Addr) (c0_1 : Nat) (l0_1 : List Int) (A0_2 : Option Addr) (c0_2 : Nat) (l0_2 : List Int) (a1 : Int) (a2 : Int) (r : Int) (w : World) (hr0_0 : Kd.C k82 w A0_0 l0_0.length l0_0) (hc0_0 : l0_0.length ≤ c0_0) (hr0_1 : Kd.C (Kd.int .u8) w A0_1 l0_1.length l0_1) (hc0_1 : l0_1.length ≤ c0_1) (hr0_2 : Kd.C (Kd.int .u8) w A0_2 l0_2.length l0_2) (hc0_2 : l0_2.length ≤ c0_2) (h : edit_Check.f k l0_0 l0_1 l0_2 a1 a2 = some r) :
    Calls Try.prog 40 #[.agg #[.slice A0_0 l0_0.length c0_0, .slice A0_1 l0_1.length c0_1, .slice A0_2 l0_2.length c0_2], .int .i64 a1, .int .i64 a2] w fun e w' => e = .returned (.int .i64 r) ∧ Below w.heap.size w w' := by
  have hu29 := Try.underlying29
  have HR0_0 := Aside0.mk hr0_0
  have HC0_0 := Aside0.mk hc0_0
  clear hr0_0 hc0_0
  have HR0_1 := Aside0.mk hr0_1
  have HC0_1 := Aside0.mk hc0_1
  clear hr0_1 hc0_1
  have HR0_2 := Aside0.mk hr0_2
  have HC0_2 := Aside0.mk hc0_2
  clear hr0_2 hc0_2
  have HB := Aside0.mk (Below.refl w.heap.size w)
  have H : ((edit_within.f a1 0 16777216).bind fun t114 => (if t114 = true then ((edit_within.f a2 0 16777216).bind fun t115 => (edit_Check.j0 k a1 a2 (!t115) l0_0 l0_1 l0_2)) else (edit_Check.j0 k a1 a2 true l0_0 l0_1 l0_2))) = some r := h
  clear h
  have HC4 := Aside0.mk H
  clear H
  go_enter Try.func40, Try.ntmps40
  go_upto_region 1 with (first | ((with_reducible refine gate_dst (N := 3) rfl ?_); refine box_event ?hg (N := 3) ?hd (cs := #[.slice A0_0 l0_0.length c0_0, .slice A0_1 l0_1.length c0_1, .slice A0_2 l0_2.length c0_2]) (t := 29) ?hr ?_; (case hd => rfl); (case hg => rfl); (case hr => first | (go_simp; done) | (go_simp; rfl)); intro gb113 hg w5 hbox hb; have n0_ := Aside0.mk (below_step (by repeat (first | (with_reducible first | exact HB.out | apply below_alloc | apply pw_below_drewN | apply below_drew1) | exact HB.out)) hb); have n1_ := Aside0.mk (hbox); have n2_ := Aside0.mk ((by rw [hg]; exact (below_size (by repeat (first | (with_reducible first | exact HB.out | apply below_alloc | apply pw_below_drewN | apply below_drew1) | exact HB.out))) : w.heap.size ≤ gb113)); have n3_ := Aside0.mk ((by rw [hg]; exact (below_size (by repeat (first | (with_reducible first | exact HB.out | apply below_alloc | apply pw_below_drewN | apply below_drew1) | exact HB.out))) : w.heap.size ≤ gb113)); clear HB; have HB := n0_; have BK113 := n1_; have GW113 := n2_; have GE113 := n3_; clear n0_ n1_ n2_ n3_; clear hb hbox hg))
  (try simp only [Act.put, List.setIfInBounds_toArray, List.set_cons_zero, List.set_cons_succ])
  go_cut [16] (fun v16 wc => ∃ (kq : Nat) (x16_3 : Bool), v16 = .bool x16_3 ∧ Aside0 (edit_Check.j0 kq a1 a2 x16_3 l0_0 l0_1 l0_2 = some r) ∧ Aside0 (kq ≤ k) ∧ Aside0 (wc.heap[gb113]? = some (.cells #[(.slice A0_0 l0_0.length c0_0), (.slice A0_1 l0_1.length c0_1), (.slice A0_2 l0_2.length c0_2)] 29 (0, 0))) ∧ Aside0 (Below w.heap.size w wc))
  case first =>
    have H := HC4.out
    clear HC4
    replace H := Option.bind_eq_some_iff.mp H
    obtain ⟨t114, A60, H⟩ := H
    replace H : (if t114 = true then ((edit_within.f a2 0 16777216).bind fun t115 => (edit_Check.j0 k a1 a2 (!t115) l0_0 l0_1 l0_2)) else (edit_Check.j0 k a1 a2 true l0_0 l0_1 l0_2)) = some r := H
    have A6 := Aside0.mk A60
    clear A60
    by_cases c7 : t114 = true
    · subst c7
      have H1 : ((edit_within.f a2 0 16777216).bind fun t115 => (edit_Check.j0 k a1 a2 (!t115) l0_0 l0_1 l0_2)) = some r := by rw [if_pos rfl] at H; exact H
      clear H
      have H := H1
      clear H1
      replace H := Option.bind_eq_some_iff.mp H
      obtain ⟨t115, A80, H⟩ := H
      replace H : (edit_Check.j0 k a1 a2 (!t115) l0_0 l0_1 l0_2) = some r := H
      have A8 := Aside0.mk A80
      clear A80
      have H' := Aside0.mk H
      clear H
      go_wp2_with (first | ((with_reducible refine gate_callee (f := 60) rfl ?_); refine goesL_ (some 10) rfl rfl Try.func60 (by kernel_rfl) rfl #[.int .i64 a1, .int .i64 0, .int .i64 16777216] rfl (by (try simp only [List.map_toArray, List.map_cons, List.map_nil]); first | done | rfl | (simp only [List.length_drop, List.length_take]; rfl)) ?_; (with_reducible refine (edit_within.calls a1 0 16777216 true _ A6.out).mono ?_); rintro e w' ⟨rfl, ⟨nd, rfl⟩⟩; refine ⟨_, rfl, ?_⟩) | (go_at_call 60; (with_reducible refine (edit_within.calls a2 0 16777216 t115 _ A8.out).mono ?_); rintro e w' ⟨rfl, ⟨nd, rfl⟩⟩))
      go_meet
      case rel => exact ⟨_, (!t115), (by first | rfl | (simp; done) | (simp [*]; done)), H', ⟨by first | omega | exact Nat.le_refl _⟩, ⟨by (with_reducible repeat (first | refine blk_drewN ?_ _ | refine blk_drew ?_ | refine blk_alloc ?_ _)); exact BK113.out⟩, ⟨by repeat (first | (with_reducible first | exact HB.out | apply below_alloc | apply pw_below_drewN | apply below_drew1 | refine below_set ?_ GE113.out) | exact HB.out)⟩⟩
    · replace c7 := Bool.eq_false_iff.mpr c7
      subst c7
      have H1 : (edit_Check.j0 k a1 a2 true l0_0 l0_1 l0_2) = some r := by rw [if_neg (show ¬ (false = true) by decide)] at H; exact H
      clear H
      have H := H1
      clear H1
      have H' := Aside0.mk H
      clear H
      go_wp2_with (first | ((with_reducible refine gate_callee (f := 60) rfl ?_); refine goesL_ (some 10) rfl rfl Try.func60 (by kernel_rfl) rfl #[.int .i64 a1, .int .i64 0, .int .i64 16777216] rfl (by (try simp only [List.map_toArray, List.map_cons, List.map_nil]); first | done | rfl | (simp only [List.length_drop, List.length_take]; rfl)) ?_; (with_reducible refine (edit_within.calls a1 0 16777216 false _ A6.out).mono ?_); rintro e w' ⟨rfl, ⟨nd, rfl⟩⟩; refine ⟨_, rfl, ?_⟩))
      go_meet
      case rel => exact ⟨_, (true), (by first | rfl | (simp; done) | (simp [*]; done)), H', ⟨by first | omega | exact Nat.le_refl _⟩, ⟨by (with_reducible repeat (first | refine blk_drewN ?_ _ | refine blk_drew ?_ | refine blk_alloc ?_ _)); exact BK113.out⟩, ⟨by repeat (first | (with_reducible first | exact HB.out | apply below_alloc | apply pw_below_drewN | apply below_drew1 | refine below_set ?_ GE113.out) | exact HB.out)⟩⟩
  case rest =>
    clear HC4
    try clear p2
    try clear c4
    try clear c6
    try clear c7
    obtain ⟨kq, x16_3, rfl, HA, HJ3, BK113, HB⟩ := hcut
    cases kq with
    | zero => exact absurd HA.out (by simp [edit_Check.j0])
    | succ kj3 =>
      have H := HA.out
      clear HA
      simp only [edit_Check.j0] at H
      by_cases c9 : x16_3 = true
      · subst c9
        have H1 : (some 1) = some r := by rw [if_pos rfl] at H; exact H
        clear H
        have H := H1
        clear H1
        obtain rfl := Option.some.inj H
        go_wp2
        go_ret
        exact ⟨by first | rfl | (simp [errW_none, errW_some] <;> rfl) | (simp [*, errW_none, errW_some] <;> rfl), by repeat (first | (with_reducible first | exact HB.out | apply below_alloc | apply pw_below_drewN | apply below_drew1 | refine below_set ?_ GE113.out) | exact HB.out)⟩
      · replace c9 := Bool.eq_false_iff.mpr c9
        subst c9
        have H1 : ((edit_itself.f kj3 l0_0 l0_1 l0_2).bind fun bt116 => (if bt116.2 = 0 then (if bt116.1 = a2 then ((edit_reads.f kj3 l0_0 a1).bind fun t118 => (if t118 = true then (some 0) else (some 161))) else (some 162)) else (some bt116.2))) = some r := by rw [if_neg (show ¬ (false = true) by decide)] at H; exact H
        clear H
        have H := H1
        clear H1
        replace H := Option.bind_eq_some_iff.mp H
        obtain ⟨⟨t116, t117⟩, A100, H⟩ := H
        replace H : (if t117 = 0 then (if t116 = a2 then ((edit_reads.f kj3 l0_0 a1).bind fun t118 => (if t118 = true then (some 0) else (some 161))) else (some 162)) else (some t117)) = some r := H
        have A10 := Aside0.mk A100
        clear A100
        by_cases c11 : t117 = 0
        · rw [if_pos c11] at H
          have c11b0 : (t117 == 0) = true := beq_iff_eq.mpr c11
          have c11b1 : (t117 != 0) = false := bne_eq_false_iff_eq.mpr c11
          clear c11
          by_cases c12 : t116 = a2
          · rw [if_pos c12] at H
            have c12b0 : (t116 == a2) = true := beq_iff_eq.mpr c12
            have c12b1 : (t116 != a2) = false := bne_eq_false_iff_eq.mpr c12
            clear c12
            replace H := Option.bind_eq_some_iff.mp H
            obtain ⟨t118, A130, H⟩ := H
            replace H : (if t118 = true then (some 0) else (some 161)) = some r := H
            have A13 := Aside0.mk A130
            clear A130
            by_cases c14 : t118 = true
            · subst c14
              have H1 : (some 0) = some r := by rw [if_pos rfl] at H; exact H
              clear H
              have H := H1
              clear H1
              obtain rfl := Option.some.inj H
              have hcz15_0 : wc.cell? ⟨gb113, 0, none⟩ = some (.slice A0_0 l0_0.length c0_0) := (blk_cell BK113.out 0).trans rfl
              have hcz15_1 : wc.cell? ⟨gb113, 1, none⟩ = some (.slice A0_1 l0_1.length c0_1) := (blk_cell BK113.out 1).trans rfl
              have hcz15_2 : wc.cell? ⟨gb113, 2, none⟩ = some (.slice A0_2 l0_2.length c0_2) := (blk_cell BK113.out 2).trans rfl
              have hfz15_0 := blk_frozen BK113.out 0
              have hfz15_1 := blk_frozen BK113.out 1
              have hfz15_2 := blk_frozen BK113.out 2
              go_wp2_with (first | ((with_reducible refine gate_callee (f := 56) rfl ?_); refine goesL_ (some 19) rfl rfl Try.func56 (by kernel_rfl) rfl #[.agg #[.slice A0_0 l0_0.length c0_0, .slice A0_1 l0_1.length c0_1, .slice A0_2 l0_2.length c0_2]] rfl (by (try simp only [List.map_toArray, List.map_cons, List.map_nil]); first | done | rfl | (simp only [List.length_drop, List.length_take]; rfl)) ?_; (with_reducible refine (edit_itself.calls kj3 _ _ l0_0 _ _ l0_1 _ _ l0_2 t116 t117 _ ?side1 ?side2 ?side3 ?side4 ?side5 ?side6 A10.out).mono ?_); (case side1 => repeat (first | exact (Kd.C_below HR0_0.out HB.out) | (with_reducible refine Kd.C_alloc ?_ _) | (with_reducible refine Kd.C_drewN ?_ _) | (with_reducible refine Kd.C_drew ?_))); (case side2 => exact HC0_0.out); (case side3 => repeat (first | exact (Kd.C_below HR0_1.out HB.out) | (with_reducible refine Kd.C_alloc ?_ _) | (with_reducible refine Kd.C_drewN ?_ _) | (with_reducible refine Kd.C_drew ?_))); (case side4 => exact HC0_1.out); (case side5 => repeat (first | exact (Kd.C_below HR0_2.out HB.out) | (with_reducible refine Kd.C_alloc ?_ _) | (with_reducible refine Kd.C_drewN ?_ _) | (with_reducible refine Kd.C_drew ?_))); (case side6 => exact HC0_2.out); rintro e w16 ⟨rfl, hb⟩; refine ⟨_, rfl, ?_⟩; have n0_ := Aside0.mk (blk_below (g := gb113) (o := .cells #[.slice A0_0 l0_0.length c0_0, .slice A0_1 l0_1.length c0_1, .slice A0_2 l0_2.length c0_2] 29 (0, 0)) (by (with_reducible repeat (first | refine blk_drewN ?_ _ | refine blk_drew ?_ | refine blk_alloc ?_ _)); exact BK113.out) hb); have n1_ := Aside0.mk (below_step (by repeat (first | (with_reducible first | exact HB.out | apply below_alloc | apply pw_below_drewN | apply below_drew1 | refine below_set ?_ GE113.out) | exact HB.out)) hb); clear BK113; clear HB; have BK113 := n0_; have HB := n1_; clear n0_ n1_; (try clear hb); (try clear hb2); (try clear hk); (try clear hi); have hcz17_0 : w16.cell? ⟨gb113, 0, none⟩ = some (.slice A0_0 l0_0.length c0_0) := (blk_cell BK113.out 0).trans rfl; have hcz17_1 : w16.cell? ⟨gb113, 1, none⟩ = some (.slice A0_1 l0_1.length c0_1) := (blk_cell BK113.out 1).trans rfl; have hcz17_2 : w16.cell? ⟨gb113, 2, none⟩ = some (.slice A0_2 l0_2.length c0_2) := (blk_cell BK113.out 2).trans rfl; have hfz17_0 := blk_frozen BK113.out 0; have hfz17_1 := blk_frozen BK113.out 1; have hfz17_2 := blk_frozen BK113.out 2) | ((with_reducible refine gate_callee (f := 57) rfl ?_); refine goesL_ (some 34) rfl rfl Try.func57 (by kernel_rfl) rfl #[.slice A0_0 l0_0.length c0_0, .int .i64 a1] rfl (by (try simp only [List.map_toArray, List.map_cons, List.map_nil]); first | done | rfl | (simp only [List.length_drop, List.length_take]; rfl)) ?_; (with_reducible refine (edit_reads.calls kj3 _ _ l0_0 a1 true _ ?side1 ?side2 A13.out).mono ?_); (case side1 => repeat (first | exact (Kd.C_below HR0_0.out HB.out) | (with_reducible refine Kd.C_alloc ?_ _) | (with_reducible refine Kd.C_drewN ?_ _) | (with_reducible refine Kd.C_drew ?_))); (case side2 => exact HC0_0.out); rintro e w18 ⟨rfl, hb⟩; refine ⟨_, rfl, ?_⟩; have n0_ := Aside0.mk (blk_below (g := gb113) (o := .cells #[.slice A0_0 l0_0.length c0_0, .slice A0_1 l0_1.length c0_1, .slice A0_2 l0_2.length c0_2] 29 (0, 0)) (by (with_reducible repeat (first | refine blk_drewN ?_ _ | refine blk_drew ?_ | refine blk_alloc ?_ _)); exact BK113.out) hb); have n1_ := Aside0.mk (below_step (by repeat (first | (with_reducible first | exact HB.out | apply below_alloc | apply pw_below_drewN | apply below_drew1 | refine below_set ?_ GE113.out) | exact HB.out)) hb); clear BK113; clear HB; have BK113 := n0_; have HB := n1_; clear n0_ n1_; (try clear hb); (try clear hb2); (try clear hk); (try clear hi)))
              go_ret
              exact ⟨by first | rfl | (simp [errW_none, errW_some] <;> rfl) | (simp [*, errW_none, errW_some] <;> rfl), by repeat (first | (with_reducible first | exact HB.out | apply below_alloc | apply pw_below_drewN | apply below_drew1 | refine below_set ?_ GE113.out) | exact HB.out)⟩
            · replace c14 := Bool.eq_false_iff.mpr c14
              subst c14
              have H1 : (some 161) = some r := by rw [if_neg (show ¬ (false = true) by decide)] at H; exact H
              clear H
              have H := H1
              clear H1
              obtain rfl := Option.some.inj H
              have hcz19_0 : wc.cell? ⟨gb113, 0, none⟩ = some (.slice A0_0 l0_0.length c0_0) := (blk_cell BK113.out 0).trans rfl
              have hcz19_1 : wc.cell? ⟨gb113, 1, none⟩ = some (.slice A0_1 l0_1.length c0_1) := (blk_cell BK113.out 1).trans rfl
              have hcz19_2 : wc.cell? ⟨gb113, 2, none⟩ = some (.slice A0_2 l0_2.length c0_2) := (blk_cell BK113.out 2).trans rfl
              have hfz19_0 := blk_frozen BK113.out 0
              have hfz19_1 := blk_frozen BK113.out 1
              have hfz19_2 := blk_frozen BK113.out 2
              go_wp2_with (first | ((with_reducible refine gate_callee (f := 56) rfl ?_); refine goesL_ (some 19) rfl rfl Try.func56 (by kernel_rfl) rfl #[.agg #[.slice A0_0 l0_0.length c0_0, .slice A0_1 l0_1.length c0_1, .slice A0_2 l0_2.length c0_2]] rfl (by (try simp only [List.map_toArray, List.map_cons, List.map_nil]); first | done | rfl | (simp only [List.length_drop, List.length_take]; rfl)) ?_; (with_reducible refine (edit_itself.calls kj3 _ _ l0_0 _ _ l0_1 _ _ l0_2 t116 t117 _ ?side1 ?side2 ?side3 ?side4 ?side5 ?side6 A10.out).mono ?_); (case side1 => repeat (first | exact (Kd.C_below HR0_0.out HB.out) | (with_reducible refine Kd.C_alloc ?_ _) | (with_reducible refine Kd.C_drewN ?_ _) | (with_reducible refine Kd.C_drew ?_))); (case side2 => exact HC0_0.out); (case side3 => repeat (first | exact (Kd.C_below HR0_1.out HB.out) | (with_reducible refine Kd.C_alloc ?_ _) | (with_reducible refine Kd.C_drewN ?_ _) | (with_reducible refine Kd.C_drew ?_))); (case side4 => exact HC0_1.out); (case side5 => repeat (first | exact (Kd.C_below HR0_2.out HB.out) | (with_reducible refine Kd.C_alloc ?_ _) | (with_reducible refine Kd.C_drewN ?_ _) | (with_reducible refine Kd.C_drew ?_))); (case side6 => exact HC0_2.out); rintro e w20 ⟨rfl, hb⟩; refine ⟨_, rfl, ?_⟩; have n0_ := Aside0.mk (blk_below (g := gb113) (o := .cells #[.slice A0_0 l0_0.length c0_0, .slice A0_1 l0_1.length c0_1, .slice A0_2 l0_2.length c0_2] 29 (0, 0)) (by (with_reducible repeat (first | refine blk_drewN ?_ _ | refine blk_drew ?_ | refine blk_alloc ?_ _)); exact BK113.out) hb); have n1_ := Aside0.mk (below_step (by repeat (first | (with_reducible first | exact HB.out | apply below_alloc | apply pw_below_drewN | apply below_drew1 | refine below_set ?_ GE113.out) | exact HB.out)) hb); clear BK113; clear HB; have BK113 := n0_; have HB := n1_; clear n0_ n1_; (try clear hb); (try clear hb2); (try clear hk); (try clear hi); have hcz21_0 : w20.cell? ⟨gb113, 0, none⟩ = some (.slice A0_0 l0_0.length c0_0) := (blk_cell BK113.out 0).trans rfl; have hcz21_1 : w20.cell? ⟨gb113, 1, none⟩ = some (.slice A0_1 l0_1.length c0_1) := (blk_cell BK113.out 1).trans rfl; have hcz21_2 : w20.cell? ⟨gb113, 2, none⟩ = some (.slice A0_2 l0_2.length c0_2) := (blk_cell BK113.out 2).trans rfl; have hfz21_0 := blk_frozen BK113.out 0; have hfz21_1 := blk_frozen BK113.out 1; have hfz21_2 := blk_frozen BK113.out 2) | ((with_reducible refine gate_callee (f := 57) rfl ?_); refine goesL_ (some 34) rfl rfl Try.func57 (by kernel_rfl) rfl #[.slice A0_0 l0_0.length c0_0, .int .i64 a1] rfl (by (try simp only [List.map_toArray, List.map_cons, List.map_nil]); first | done | rfl | (simp only [List.length_drop, List.length_take]; rfl)) ?_; (with_reducible refine (edit_reads.calls kj3 _ _ l0_0 a1 false _ ?side1 ?side2 A13.out).mono ?_); (case side1 => repeat (first | exact (Kd.C_below HR0_0.out HB.out) | (with_reducible refine Kd.C_alloc ?_ _) | (with_reducible refine Kd.C_drewN ?_ _) | (with_reducible refine Kd.C_drew ?_))); (case side2 => exact HC0_0.out); rintro e w22 ⟨rfl, hb⟩; refine ⟨_, rfl, ?_⟩; have n0_ := Aside0.mk (blk_below (g := gb113) (o := .cells #[.slice A0_0 l0_0.length c0_0, .slice A0_1 l0_1.length c0_1, .slice A0_2 l0_2.length c0_2] 29 (0, 0)) (by (with_reducible repeat (first | refine blk_drewN ?_ _ | refine blk_drew ?_ | refine blk_alloc ?_ _)); exact BK113.out) hb); have n1_ := Aside0.mk (below_step (by repeat (first | (with_reducible first | exact HB.out | apply below_alloc | apply pw_below_drewN | apply below_drew1 | refine below_set ?_ GE113.out) | exact HB.out)) hb); clear BK113; clear HB; have BK113 := n0_; have HB := n1_; clear n0_ n1_; (try clear hb); (try clear hb2); (try clear hk); (try clear hi)))
              go_ret
              exact ⟨by first | rfl | (simp [errW_none, errW_some] <;> rfl) | (simp [*, errW_none, errW_some] <;> rfl), by repeat (first | (with_reducible first | exact HB.out | apply below_alloc | apply pw_below_drewN | apply below_drew1 | refine below_set ?_ GE113.out) | exact HB.out)⟩
          · rw [if_neg c12] at H
            have c12b0 : (t116 == a2) = false := beq_eq_false_iff_ne.mpr c12
            have c12b1 : (t116 != a2) = true := bne_iff_ne.mpr c12
            obtain rfl := Option.some.inj H
            have hcz23_0 : wc.cell? ⟨gb113, 0, none⟩ = some (.slice A0_0 l0_0.length c0_0) := (blk_cell BK113.out 0).trans rfl
            have hcz23_1 : wc.cell? ⟨gb113, 1, none⟩ = some (.slice A0_1 l0_1.length c0_1) := (blk_cell BK113.out 1).trans rfl
            have hcz23_2 : wc.cell? ⟨gb113, 2, none⟩ = some (.slice A0_2 l0_2.length c0_2) := (blk_cell BK113.out 2).trans rfl
            have hfz23_0 := blk_frozen BK113.out 0
            have hfz23_1 := blk_frozen BK113.out 1
            have hfz23_2 := blk_frozen BK113.out 2
            go_wp2_with (first | ((with_reducible refine gate_callee (f := 56) rfl ?_); refine goesL_ (some 19) rfl rfl Try.func56 (by kernel_rfl) rfl #[.agg #[.slice A0_0 l0_0.length c0_0, .slice A0_1 l0_1.length c0_1, .slice A0_2 l0_2.length c0_2]] rfl (by (try simp only [List.map_toArray, List.map_cons, List.map_nil]); first | done | rfl | (simp only [List.length_drop, List.length_take]; rfl)) ?_; (with_reducible refine (edit_itself.calls kj3 _ _ l0_0 _ _ l0_1 _ _ l0_2 t116 t117 _ ?side1 ?side2 ?side3 ?side4 ?side5 ?side6 A10.out).mono ?_); (case side1 => repeat (first | exact (Kd.C_below HR0_0.out HB.out) | (with_reducible refine Kd.C_alloc ?_ _) | (with_reducible refine Kd.C_drewN ?_ _) | (with_reducible refine Kd.C_drew ?_))); (case side2 => exact HC0_0.out); (case side3 => repeat (first | exact (Kd.C_below HR0_1.out HB.out) | (with_reducible refine Kd.C_alloc ?_ _) | (with_reducible refine Kd.C_drewN ?_ _) | (with_reducible refine Kd.C_drew ?_))); (case side4 => exact HC0_1.out); (case side5 => repeat (first | exact (Kd.C_below HR0_2.out HB.out) | (with_reducible refine Kd.C_alloc ?_ _) | (with_reducible refine Kd.C_drewN ?_ _) | (with_reducible refine Kd.C_drew ?_))); (case side6 => exact HC0_2.out); rintro e w24 ⟨rfl, hb⟩; refine ⟨_, rfl, ?_⟩; have n0_ := Aside0.mk (blk_below (g := gb113) (o := .cells #[.slice A0_0 l0_0.length c0_0, .slice A0_1 l0_1.length c0_1, .slice A0_2 l0_2.length c0_2] 29 (0, 0)) (by (with_reducible repeat (first | refine blk_drewN ?_ _ | refine blk_drew ?_ | refine blk_alloc ?_ _)); exact BK113.out) hb); have n1_ := Aside0.mk (below_step (by repeat (first | (with_reducible first | exact HB.out | apply below_alloc | apply pw_below_drewN | apply below_drew1 | refine below_set ?_ GE113.out) | exact HB.out)) hb); clear BK113; clear HB; have BK113 := n0_; have HB := n1_; clear n0_ n1_; (try clear hb); (try clear hb2); (try clear hk); (try clear hi)))
            go_ret
            exact ⟨by first | rfl | (simp [errW_none, errW_some] <;> rfl) | (simp [*, errW_none, errW_some] <;> rfl), by repeat (first | (with_reducible first | exact HB.out | apply below_alloc | apply pw_below_drewN | apply below_drew1 | refine below_set ?_ GE113.out) | exact HB.out)⟩
        · rw [if_neg c11] at H
          have c11b0 : (t117 == 0) = false := beq_eq_false_iff_ne.mpr c11
          have c11b1 : (t117 != 0) = true := bne_iff_ne.mpr c11
          obtain rfl := Option.some.inj H
          have hcz25_0 : wc.cell? ⟨gb113, 0, none⟩ = some (.slice A0_0 l0_0.length c0_0) := (blk_cell BK113.out 0).trans rfl
          have hcz25_1 : wc.cell? ⟨gb113, 1, none⟩ = some (.slice A0_1 l0_1.length c0_1) := (blk_cell BK113.out 1).trans rfl
          have hcz25_2 : wc.cell? ⟨gb113, 2, none⟩ = some (.slice A0_2 l0_2.length c0_2) := (blk_cell BK113.out 2).trans rfl
          have hfz25_0 := blk_frozen BK113.out 0
          have hfz25_1 := blk_frozen BK113.out 1
          have hfz25_2 := blk_frozen BK113.out 2
          go_wp2_with (first | ((with_reducible refine gate_callee (f := 56) rfl ?_); refine goesL_ (some 19) rfl rfl Try.func56 (by kernel_rfl) rfl #[.agg #[.slice A0_0 l0_0.length c0_0, .slice A0_1 l0_1.length c0_1, .slice A0_2 l0_2.length c0_2]] rfl (by (try simp only [List.map_toArray, List.map_cons, List.map_nil]); first | done | rfl | (simp only [List.length_drop, List.length_take]; rfl)) ?_; (with_reducible refine (edit_itself.calls kj3 _ _ l0_0 _ _ l0_1 _ _ l0_2 t116 t117 _ ?side1 ?side2 ?side3 ?side4 ?side5 ?side6 A10.out).mono ?_); (case side1 => repeat (first | exact (Kd.C_below HR0_0.out HB.out) | (with_reducible refine Kd.C_alloc ?_ _) | (with_reducible refine Kd.C_drewN ?_ _) | (with_reducible refine Kd.C_drew ?_))); (case side2 => exact HC0_0.out); (case side3 => repeat (first | exact (Kd.C_below HR0_1.out HB.out) | (with_reducible refine Kd.C_alloc ?_ _) | (with_reducible refine Kd.C_drewN ?_ _) | (with_reducible refine Kd.C_drew ?_))); (case side4 => exact HC0_1.out); (case side5 => repeat (first | exact (Kd.C_below HR0_2.out HB.out) | (with_reducible refine Kd.C_alloc ?_ _) | (with_reducible refine Kd.C_drewN ?_ _) | (with_reducible refine Kd.C_drew ?_))); (case side6 => exact HC0_2.out); rintro e w26 ⟨rfl, hb⟩; refine ⟨_, rfl, ?_⟩; have n0_ := Aside0.mk (blk_below (g := gb113) (o := .cells #[.slice A0_0 l0_0.length c0_0, .slice A0_1 l0_1.length c0_1, .slice A0_2 l0_2.length c0_2] 29 (0, 0)) (by (with_reducible repeat (first | refine blk_drewN ?_ _ | refine blk_drew ?_ | refine blk_alloc ?_ _)); exact BK113.out) hb); have n1_ := Aside0.mk (below_step (by repeat (first | (with_reducible first | exact HB.out | apply below_alloc | apply pw_below_drewN | apply below_drew1 | refine below_set ?_ GE113.out) | exact HB.out)) hb); clear BK113; clear HB; have BK113 := n0_; have HB := n1_; clear n0_ n1_; (try clear hb); (try clear hb2); (try clear hk); (try clear hi)))
          go_ret
          exact ⟨by first | rfl | (simp [errW_none, errW_some] <;> rfl) | (simp [*, errW_none, errW_some] <;> rfl), by repeat (first | (with_reducible first | exact HB.out | apply below_alloc | apply pw_below_drewN | apply below_drew1 | refine below_set ?_ GE113.out) | exact HB.out)⟩
end
end Go.Proofs.Ytinlfoblpgpikaa.Pr
namespace Go.Proofs.Ytinlfoblpgpikaa
open Go.RowKit Go.Shelf Go.Proofs.YtinlfoblpgpikaaW.PrintWords Go.Proofs.YtinlfoblpgpikaaW.PrintLast Go.Proofs.YtinlfoblpgpikaaW.PrintMore Go.Proofs.Ytinlfoblpgpikaa.Pr
set_option linter.unusedVariables false
set_option linter.unusedSimpArgs false
theorem itself_mono (st : List S82) (d x : List Int) {k k' : Nat} (h : k ≤ k') {r : Int × Int} (hk : edit_itself.f k st d x = some r) : edit_itself.f k' st d x = some r := at_rounds (g := fun k => edit_itself.f k st d x) (fun k => edit_itself.mono st d x k) h hk
def checked (st : List S82) (d x : List Int) (old size : Int) : Int :=
  if ¬ (0 ≤ old ∧ old ≤ 16777216 ∧ 0 ≤ size ∧ size ≤ 16777216) then 1 else if (ited st d x).2 ≠ 0 then (ited st d x).2 else if (ited st d x).1 ≠ size then 162 else if rds old st 0 = true then 0 else 161
theorem within_f (a lo hi : Int) : edit_within.f a lo hi = some (decide (lo ≤ a ∧ a ≤ hi)) := by
  unfold edit_within.f
  by_cases h : lo ≤ a <;> simp [h]
theorem check_f (st : List S82) (d x : List Int) (old size : Int) (hf : fits st) : ∃ k, edit_Check.f k st d x old size = some (checked st d x old size) := by
  obtain ⟨k0, hk0⟩ := itself_f st d x hf
  obtain ⟨k1, hk1⟩ := reads_f st old hf
  refine ⟨k0 + k1 + 1, ?_⟩
  have h0 := itself_mono st d x (show k0 ≤ k0 + k1 by omega) hk0
  have h1 : edit_reads.f (k0 + k1) st old = some (rds old st 0) := at_rounds (g := fun k => edit_reads.f k st old) (fun k => edit_reads.mono st old k) (by omega) hk1
  unfold edit_Check.f checked
  rw [within_f, Option.bind_some, within_f]
  by_cases ho : 0 ≤ old ∧ old ≤ 16777216
  · rw [decide_eq_true ho, if_pos rfl, Option.bind_some]
    by_cases hs : 0 ≤ size ∧ size ≤ 16777216
    · rw [decide_eq_true hs, if_neg (by omega), edit_Check.j0, Bool.not_true, if_neg (by decide), h0, Option.bind_some, h1]
      by_cases h2 : (ited st d x).2 = 0
      · by_cases h3 : (ited st d x).1 = size
        · cases hr : rds old st 0 <;> simp [h2, h3, hr]
        · simp [h2, h3]
      · simp [h2]
    · rw [decide_eq_false hs, if_pos (by omega), edit_Check.j0]
      rfl
  · rw [decide_eq_false ho, if_neg (by decide), if_pos (by omega), edit_Check.j0]
    rfl
end Go.Proofs.Ytinlfoblpgpikaa
namespace Go.Proofs.Ytinlfoblpgpikaa
open Go.RowKit Go.Shelf Go.Proofs.YtinlfoblpgpikaaW.PrintWords Go.Proofs.YtinlfoblpgpikaaW.PrintLast Go.Proofs.YtinlfoblpgpikaaW.PrintMore Go.Proofs.Ytinlfoblpgpikaa.Pr
set_option linter.unusedVariables false
set_option linter.unusedSimpArgs false
/-- The steps, one by one: what they add and copy, where all may be. -/
def wk (old size : Int) : List S82 → Int → Int → Int → Option (Int × Int)
  | [], a, c, _ => some (a, c)
  | s :: l, a, c, p => if s.f0 < 0 ∨ s.f1 < 0 ∨ (s.f0 = 0 ∧ s.f1 = 0) ∨ size < s.f0 ∨ size < s.f1 then none
    else if ¬ (0 ≤ p + s.f0 ∧ p + s.f0 ≤ old) ∨ size < a + s.f0 + (c + s.f1) ∨ 16777216 < s.f2 ∨ s.f2 < -16777216 then none
    else if ¬ (0 ≤ p + s.f0 + s.f2 ∧ p + s.f0 + s.f2 ≤ old) then none else wk old size l (a + s.f0) (c + s.f1) (p + s.f0 + s.f2)
def lastS (st : List S82) : Int := (rd_T82 st ((st.length : Int) - 1)).f2
/-- What Check answers. -/
def pchk (pos : Int) (st : List S82) (d x : List Int) (old size : Int) : Int :=
  if size < 1 ∨ 65536 < size ∨ old < 0 ∨ 16777216 < old ∨ ¬ (0 ≤ pos ∧ pos ≤ old) then 171 else
    match wk old size st 0 0 pos with
    | none => 171
    | some (a, c) => if st = [] ∨ lastS st ≠ 0 then 171 else if a ≠ d.length ∨ c ≠ x.length ∨ a + c ≠ size then 171 else 0
theorem place_c (p old : Int) (w : World) : Calls Try.prog 47 #[.int .i64 p, .int .i64 old] w fun e w' => e = .returned (.bool (decide (0 ≤ p ∧ p ≤ old))) ∧ w' = w := by
  by_cases h0 : 0 ≤ p
  · by_cases h1 : p ≤ old
    · have e0 : decide (0 ≤ p) = true := decide_eq_true h0
      have e1 : decide (p ≤ old) = true := decide_eq_true h1
      have e2 : decide (0 ≤ p ∧ p ≤ old) = true := decide_eq_true ⟨h0, h1⟩
      rw [e2]
      clear h0 h1 e2
      go_enter Try.func47, Try.ntmps47
      go_wp2
      go_ret
      exact ⟨by simp, rfl⟩
    · have e0 : decide (0 ≤ p) = true := decide_eq_true h0
      have e1 : decide (p ≤ old) = false := decide_eq_false h1
      have e2 : decide (0 ≤ p ∧ p ≤ old) = false := decide_eq_false (fun h => h1 h.2)
      rw [e2]
      clear h0 h1 e2
      go_enter Try.func47, Try.ntmps47
      go_wp2
      go_ret
      exact ⟨by simp, rfl⟩
  · have e0 : decide (0 ≤ p) = false := decide_eq_false h0
    have e2 : decide (0 ≤ p ∧ p ≤ old) = false := decide_eq_false (fun h => h0 h.1)
    rw [e2]
    clear h0 e2
    go_enter Try.func47, Try.ntmps47
    go_wp2
    go_ret
    exact ⟨by simp, rfl⟩
set_option maxRecDepth 100000 in
set_option maxHeartbeats 8000000 in
theorem cck_c {A0 : Option Addr} {c0 : Nat} {st : List S82} {A1 : Option Addr} {c1 : Nat} {d : List Int} {A2 : Option Addr} {c2 : Nat} {x : List Int} {w : World} (hE : EdC w A0 c0 st A1 c1 d A2 c2 x) (pos old size : Int) :
    Calls Try.prog 19 #[.agg #[.int .i64 pos, .slice A0 st.length c0, .slice A1 d.length c1, .slice A2 x.length c2], .int .i64 old, .int .i64 size] w fun e w' => e = .returned (.int .i64 (pchk pos st d x old size)) ∧ Below w.heap.size w w' := by
  have hb0 : Below w.heap.size w (w.alloc (.cells #[.int .i64 pos, .slice A0 st.length c0, .slice A1 d.length c1, .slice A2 x.length c2] 43)) := (Below.refl _ _).alloc (Nat.le_refl _) _
  have HE := Hd.mk (hE.below hb0)
  have HB := Hd.mk hb0
  have HY := Hd.mk (blk_new w (.cells #[.int .i64 pos, .slice A0 st.length c0, .slice A1 d.length c1, .slice A2 x.length c2] 43))
  obtain ⟨r, hr⟩ : ∃ r, pchk pos st d x old size = r := ⟨_, rfl⟩
  rw [hr]
  have HR := Hd.mk hr
  clear hb0 hE hr
  go_enter Try.func19, Try.ntmps19
  go_wp2
  obtain ⟨w0, hw0⟩ : ∃ v, w.alloc (.cells #[.int .i64 pos, .slice A0 st.length c0, .slice A1 d.length c1, .slice A2 x.length c2] 43) = v := ⟨_, rfl⟩
  rw [hw0] at HE HB HY ⊢
  clear hw0
  refine wp_scope_jumps 0 (fun a W => a.tmps.size = 153 ∧ a.defers = [] ∧ r = 171 ∧ Below w.heap.size w W) (fun _ _ => 0) rfl ?first ?pass
  case pass =>
    rintro ⟨tmps, defers⟩ W ⟨hs, hd, hr, hb⟩
    simp only at hs hd
    subst hd
    subst hr
    have HBB := Hd.mk hb
    clear hb
    go_wp2
    refine ⟨rfl, .int .i64 171, ?_, rfl, HBB.out⟩
    simp [results, Try.results19, go_sem, hs]
  case first =>
    have cHY0 := blk_cell HY.out 0
    have cHY1 := blk_cell HY.out 1
    have cHY2 := blk_cell HY.out 2
    have cHY3 := blk_cell HY.out 3
    simp at cHY0 cHY1 cHY2 cHY3
    go_upto_region 1 with fail
    clear cHY0 cHY1 cHY2 cHY3
    replace HB := Hd.mk (below_step HB.out (Below.drew' w0))
    replace HE := Hd.mk (HE.out.below (Below.drew' w0))
    replace HY := Hd.mk (blk_below HY.out (Below.drew' w0))
    have cHY0 := blk_cell HY.out 0
    have cHY1 := blk_cell HY.out 1
    have cHY2 := blk_cell HY.out 2
    have cHY3 := blk_cell HY.out 3
    simp at cHY0 cHY1 cHY2 cHY3
    refine start_ (n := 5) (S := fun w' => w'.cell? ⟨w.heap.size, 0, none⟩ = some (.int .i64 pos) ∧ w'.cell? ⟨w.heap.size, 1, none⟩ = some (.slice A0 st.length c0) ∧ w'.cell? ⟨w.heap.size, 2, none⟩ = some (.slice A1 d.length c1) ∧ w'.cell? ⟨w.heap.size, 3, none⟩ = some (.slice A2 x.length c2)) (ds := []) #[false, false, false, false, false] (by kernel_rfl) rfl rfl ⟨cHY0, cHY1, cHY2, cHY3⟩ (fun hHeld => ?_)
    refine pure_ (i := 0) (N := some 13) (v := ?_) (a' := ?_) #[true, false, false, false, false] rfl rfl (by kernel_rfl) (fun _ _ _ h => h) (Or.inl ⟨by rfl, ?_⟩) ?_ ?_
    rotate_left
    · intro w'
      go_simp
      with_reducible rfl
    rotate_left
    · simp only [Act.put, List.setIfInBounds_toArray, List.set_cons_zero, List.set_cons_succ, i64_w, i32_w]
      rfl
    refine pure_ (i := 2) (N := some 7) (v := ?_) (a' := ?_) #[true, false, true, false, false] rfl rfl (by kernel_rfl) (fun _ _ _ h => h) (Or.inl ⟨by rfl, ?_⟩) ?_ ?_
    rotate_left
    · intro w'
      go_simp
      with_reducible rfl
    rotate_left
    · simp only [Act.put, List.setIfInBounds_toArray, List.set_cons_zero, List.set_cons_succ, i64_w, i32_w]
      rfl
    refine pure_ (i := 3) (N := some 8) (v := ?_) (a' := ?_) #[true, false, true, true, false] rfl rfl (by kernel_rfl) (fun _ _ _ h => h) (Or.inl ⟨by rfl, ?_⟩) ?_ ?_
    rotate_left
    · intro w'
      go_simp
      with_reducible rfl
    rotate_left
    · simp only [Act.put, List.setIfInBounds_toArray, List.set_cons_zero, List.set_cons_succ, i64_w, i32_w]
      rfl
    refine take_ (i := 1) (N := some 14) (v := ?_) (a' := ?_) #[true, true, true, true, false] rfl rfl (by kernel_rfl) (fun _ _ _ h => h) (Or.inl ⟨by rfl, ?_⟩) hHeld ?_ ?_
    rotate_left
    · rintro w' ⟨s0, s1, s2, s3⟩
      go_simp
      with_reducible rfl
    rotate_left
    · simp only [Act.put, List.setIfInBounds_toArray, List.set_cons_zero, List.set_cons_succ, i64_w, i32_w]
      rfl
    refine pure_ (i := 4) (N := some 9) (v := ?_) (a' := ?_) #[true, true, true, true, true] rfl rfl (by kernel_rfl) (fun _ _ _ h => h) (Or.inl ⟨by rfl, ?_⟩) ?_ ?_
    rotate_left
    · intro w'
      go_simp
      with_reducible rfl
    rotate_left
    · simp only [Act.put, List.setIfInBounds_toArray, List.set_cons_zero, List.set_cons_succ, i64_w, i32_w]
      rfl
    refine done_ (by kernel_rfl) ?_
    clear hHeld
    obtain ⟨w1, hw1⟩ : ∃ v, w0.drew = v := ⟨_, rfl⟩
    clear cHY0 cHY1 cHY2 cHY3
    rw [hw1] at HE HB HY ⊢
    clear hw1
    have cHY0 := blk_cell HY.out 0
    have cHY1 := blk_cell HY.out 1
    have cHY2 := blk_cell HY.out 2
    have cHY3 := blk_cell HY.out 3
    simp at cHY0 cHY1 cHY2 cHY3
    have HRp := HR.out
    unfold pchk at HRp
    by_cases k1 : size < 1
    · rw [if_pos (.inl k1)] at HRp
      have HR1 := Hd.mk HRp
      clear HRp
      have HZ := Hd.mk (show r = 171 from HR1.out.symm)
      go_wp2
      exact wp_goto ⟨rfl, rfl, rfl, HZ.out, HB.out⟩
    by_cases k2 : 65536 < size
    · rw [if_pos (.inr (.inl k2))] at HRp
      have HR1 := Hd.mk HRp
      clear HRp
      have HZ := Hd.mk (show r = 171 from HR1.out.symm)
      go_wp2
      exact wp_goto ⟨rfl, rfl, rfl, HZ.out, HB.out⟩
    by_cases k3 : old < 0
    · rw [if_pos (.inr (.inr (.inl k3)))] at HRp
      have HR1 := Hd.mk HRp
      clear HRp
      have HZ := Hd.mk (show r = 171 from HR1.out.symm)
      go_wp2
      exact wp_goto ⟨rfl, rfl, rfl, HZ.out, HB.out⟩
    by_cases k4 : 16777216 < old
    · rw [if_pos (.inr (.inr (.inr (.inl k4))))] at HRp
      have HR1 := Hd.mk HRp
      clear HRp
      have HZ := Hd.mk (show r = 171 from HR1.out.symm)
      go_wp2
      exact wp_goto ⟨rfl, rfl, rfl, HZ.out, HB.out⟩
    by_cases k5 : 0 ≤ pos ∧ pos ≤ old
    rotate_left
    · rw [if_pos (.inr (.inr (.inr (.inr k5))))] at HRp
      have HR1 := Hd.mk HRp
      have HPL := Hd.mk (place_c pos old w1)
      rw [decide_eq_false k5] at HPL
      clear HRp k5
      go_wp2_with fail
      refine HPL.out.mono ?_
      rintro e w2 ⟨rfl, rfl⟩
      clear HPL
      have HZ := Hd.mk (show r = 171 from HR1.out.symm)
      go_wp2
      exact wp_goto ⟨rfl, rfl, rfl, HZ.out, HB.out⟩
    rw [if_neg (by omega)] at HRp
    have HNO : Hd (wk old size st 0 0 pos = none → r = 171) := ⟨fun h => by rw [h] at HRp; exact HRp.symm⟩
    have HSO : Hd (∀ a c, wk old size st 0 0 pos = some (a, c) → (if st = [] ∨ lastS st ≠ 0 then 171 else if a ≠ d.length ∨ c ≠ x.length ∨ a + c ≠ size then 171 else 0) = r) := ⟨fun a c h => by rw [h] at HRp; exact HRp⟩
    have HPL := Hd.mk (place_c pos old w1)
    rw [decide_eq_true k5] at HPL
    obtain ⟨k50, k51⟩ := k5
    clear HRp
    go_wp2_with fail
    refine HPL.out.mono ?_
    rintro e w2 ⟨rfl, rfl⟩
    clear HPL
    go_wp2
    go_loopg [7, 8, 9, 39] st.length (fun k v7 v8 v9 v39 W => ∃ (i : Nat) (a c p : Int), v7 = .int .i64 a ∧ v8 = .int .i64 c ∧ v9 = .int .i64 p ∧ v39 = .int .i64 i ∧ i + k = st.length ∧ 0 ≤ a ∧ 0 ≤ c ∧ a + c ≤ size ∧ 0 ≤ p ∧ p ≤ old ∧ Hd (wk old size st 0 0 pos = wk old size (st.drop i) a c p) ∧ Hd (Below w2.heap.size w2 W))
    case atStart => exact ⟨0, 0, 0, pos, rfl, rfl, rfl, rfl, by omega, by omega, by omega, by omega, k50, k51, ⟨by rw [List.drop_zero]⟩, ⟨Below.refl _ _⟩⟩
    case round =>
      clear k50 k51
      obtain ⟨i, a, c, p, rfl, rfl, rfl, rfl, hk, ha0, hc0, hac, hp0, hp1, HI, HBW⟩ := hrel
      have hbw := HBW.out
      clear cHY0 cHY1 cHY2 cHY3
      replace HB := Hd.mk (below_step HB.out hbw)
      replace HE := Hd.mk (HE.out.below hbw)
      replace HY := Hd.mk (blk_below HY.out hbw)
      have cHY0 := blk_cell HY.out 0
      have cHY1 := blk_cell HY.out 1
      have cHY2 := blk_cell HY.out 2
      have cHY3 := blk_cell HY.out 3
      simp at cHY0 cHY1 cHY2 cHY3
      clear hbw
      rcases gk with _ | gk
      · have hlt : decide ((i : Int) < (st.length : Int)) = false := decide_eq_false (by omega)
        obtain rfl : i = st.length := by omega
        have hso := HSO.out a c (HI.out.trans (by rw [List.drop_length]; rfl))
        by_cases e1 : st.length = 0
        · have hse : st = [] := List.eq_nil_of_length_eq_zero e1
          rw [if_pos (.inl hse)] at hso
          have e1' : ((st.length : Int) == 0) = true := by simp [e1]
          have HZ0 := Hd.mk hso
          clear hso e1 hse hlt
          have HZ := Hd.mk (show r = 171 from HZ0.out.symm)
          go_wp2
          exact wp_goto ⟨rfl, rfl, rfl, HZ.out, HB.out⟩
        · obtain ⟨m, hm⟩ : ∃ m, st.length = m + 1 := ⟨st.length - 1, by omega⟩
          have hml : m < st.length := by omega
          have e1' : ((st.length : Int) == 0) = false := by rw [beq_eq_false_iff_ne]; omega
          have hfit : st.length ≤ 9223372036854775807 := HE.out.s.2.1
          have hsub : (st.length : Int) - 1 = (m : Int) := by omega
          have hng : decide ((0 : Int) ≤ (m : Int)) = true := decide_eq_true (by omega)
          have hgl : decide ((m : Int) < (st.length : Int)) = true := decide_eq_true (by omega)
          have hls : lastS st = (rd_T82 st (m : Int)).f2 := by unfold lastS; rw [hsub]
          obtain ⟨ad, e, s0, s1, s2⟩ := at_T82 HE.out.s (m : Int) (by omega) (by omega)
          subst e
          rw [Int.toNat_natCast] at s0 s1 s2
          have hne0 : ¬ st = [] := fun h => e1 (by rw [h]; rfl)
          rw [hls] at hso
          obtain ⟨z, hz⟩ : ∃ z, (rd_T82 st (m : Int)).f2 = z := ⟨_, rfl⟩
          rw [hz] at s2 hso
          by_cases e2 : z = 0
          rotate_left
          · rw [if_pos (.inr e2)] at hso
            have e2' : (z != 0) = true := by simpa using e2
            have HZ0 := Hd.mk hso
            have HE2 := Hd.mk e2
            clear hso e2 hz hls hne0 hlt s0 s1 e1
            clear cHY0 cHY1 cHY2 cHY3
            have cHY0 := blk_cell HY.out 0
            have cHY1 := blk_cell HY.out 1
            have cHY2 := blk_cell HY.out 2
            have cHY3 := blk_cell HY.out 3
            simp at cHY0 cHY1 cHY2 cHY3
            have HZ := Hd.mk (show r = 171 from HZ0.out.symm)
            go_wp2
            exact wp_goto ⟨rfl, rfl, rfl, HZ.out, HB.out⟩
          subst e2
          rw [if_neg (fun h => h.elim hne0 (fun h => h rfl))] at hso
          clear cHY0 cHY1 cHY2 cHY3
          have cHY0 := blk_cell HY.out 0
          have cHY1 := blk_cell HY.out 1
          have cHY2 := blk_cell HY.out 2
          have cHY3 := blk_cell HY.out 3
          simp at cHY0 cHY1 cHY2 cHY3
          clear hz hls hne0 hlt s0 s1 e1
          by_cases e3 : a = (d.length : Int)
          rotate_left
          · rw [if_pos (.inl e3)] at hso
            have e3' : (a != (d.length : Int)) = true := by simpa using e3
            have HZ0 := Hd.mk hso
            have HE3 := Hd.mk e3
            clear hso e3
            have HZ := Hd.mk (show r = 171 from HZ0.out.symm)
            go_wp2
            exact wp_goto ⟨rfl, rfl, rfl, HZ.out, HB.out⟩
          by_cases e4 : c = (x.length : Int)
          rotate_left
          · rw [if_pos (.inr (.inl e4))] at hso
            have e3' : (a != (d.length : Int)) = false := by simpa using e3
            have e4' : (c != (x.length : Int)) = true := by simpa using e4
            have HZ0 := Hd.mk hso
            have HE3 := Hd.mk (And.intro e3 e4)
            clear hso e3 e4
            have HZ := Hd.mk (show r = 171 from HZ0.out.symm)
            go_wp2
            exact wp_goto ⟨rfl, rfl, rfl, HZ.out, HB.out⟩
          have e3' : (a != (d.length : Int)) = false := by simpa using e3
          have e4' : (c != (x.length : Int)) = false := by simpa using e4
          by_cases e5 : a + c = size
          rotate_left
          · rw [if_pos (.inr (.inr e5))] at hso
            have e5' : (a + c != size) = true := by simpa using e5
            have HZ0 := Hd.mk hso
            have HE3 := Hd.mk (And.intro e3 (And.intro e4 e5))
            clear hso e3 e4 e5
            have HZ := Hd.mk (show r = 171 from HZ0.out.symm)
            go_wp2
            exact wp_goto ⟨rfl, rfl, rfl, HZ.out, HB.out⟩
          rw [if_neg (by omega)] at hso
          have e5' : (a + c != size) = false := by simpa using e5
          have HZ0 := Hd.mk hso
          have HE3 := Hd.mk (And.intro e3 (And.intro e4 e5))
          clear hso e3 e4 e5
          go_wp2
          refine ⟨rfl, .int .i64 0, ?_, by rw [HZ0.out], HB.out⟩
          simp [results, Try.results19, go_sem]
      · have hlt : decide ((i : Int) < (st.length : Int)) = true := decide_eq_true (by omega)
        have hng : decide ((0 : Int) ≤ (i : Int)) = true := decide_eq_true (by omega)
        have hil : i < st.length := by omega
        obtain ⟨ad, e, s0, s1, s2⟩ := at_T82 HE.out.s (i : Int) (by omega) (by omega)
        subst e
        clear cHY0 cHY1 cHY2 cHY3
        rw [Int.toNat_natCast] at s0 s1 s2
        have hdr := drop_rd st i hil
        obtain ⟨⟨f0, f1, f2⟩, hg⟩ : ∃ s, rd_T82 st (i : Int) = s := ⟨_, rfl⟩
        rw [hg] at s0 s1 s2 hdr
        simp only at s0 s1 s2
        have HBX := Hd.mk (Below.alloc HB.out HB.out.size (.cells #[.int .i64 f0, .int .i64 f1, .int .i64 f2] 82))
        have HBW2 := Hd.mk (Below.alloc HBW.out HBW.out.size (.cells #[.int .i64 f0, .int .i64 f1, .int .i64 f2] 82))
        have hlY := blk_lt HY.out
        have hfit : st.length ≤ 9223372036854775807 := HE.out.s.2.1
        clear hg
        have cHY0 := blk_cell HY.out 0
        have cHY1 := blk_cell HY.out 1
        have cHY2 := blk_cell HY.out 2
        have cHY3 := blk_cell HY.out 3
        simp at cHY0 cHY1 cHY2 cHY3
        go_upto_region 6 with fail
        clear cHY0 cHY1 cHY2 cHY3
        clear s0 s1 s2
        have HS := Hd.mk (blk_new wr (.cells #[.int .i64 f0, .int .i64 f1, .int .i64 f2] 82))
        obtain ⟨wx, hwx⟩ : ∃ v, wr.alloc (.cells #[.int .i64 f0, .int .i64 f1, .int .i64 f2] 82) = v := ⟨_, rfl⟩
        obtain ⟨bx, hbx⟩ : ∃ b, wr.heap.size = b := ⟨_, rfl⟩
        rw [hwx] at HBX HBW2 HS ⊢
        rw [hbx] at HS ⊢
        clear hwx hbx
        have cx0 := blk_cell HS.out 0
        have cx1 := blk_cell HS.out 1
        have cx2 := blk_cell HS.out 2
        simp at cx0 cx1 cx2
        by_cases q0 : f0 < 0
        · skip
          have HZ := Hd.mk (HNO.out (HI.out.trans (by rw [hdr]; unfold wk; rw [if_pos (.inl q0)])))
          clear hdr
          go_wp2
          exact wp_goto ⟨rfl, rfl, rfl, HZ.out, HBX.out⟩
        by_cases q1 : f1 < 0
        · skip
          have HZ := Hd.mk (HNO.out (HI.out.trans (by rw [hdr]; unfold wk; rw [if_pos (.inr (.inl q1))])))
          clear hdr
          go_wp2
          exact wp_goto ⟨rfl, rfl, rfl, HZ.out, HBX.out⟩
        by_cases q2 : f0 = 0 ∧ f1 = 0
        · obtain ⟨rfl, rfl⟩ := q2
          have HZ := Hd.mk (HNO.out (HI.out.trans (by rw [hdr]; unfold wk; rw [if_pos (.inr (.inr (.inl ⟨rfl, rfl⟩)))])))
          clear hdr
          go_wp2
          exact wp_goto ⟨rfl, rfl, rfl, HZ.out, HBX.out⟩
        by_cases q3 : size < f0
        · have q3' : (f0 == 0) = false := by rw [beq_eq_false_iff_ne]; omega
          clear q2
          have HZ := Hd.mk (HNO.out (HI.out.trans (by rw [hdr]; unfold wk; rw [if_pos (.inr (.inr (.inr (.inl q3))))])))
          clear hdr
          go_wp2
          exact wp_goto ⟨rfl, rfl, rfl, HZ.out, HBX.out⟩
        by_cases q4 : size < f1
        · have q4' : (f1 == 0) = false := by rw [beq_eq_false_iff_ne]; omega
          clear q2
          by_cases q5 : f0 = 0
          · subst q5
            have HZ := Hd.mk (HNO.out (HI.out.trans (by rw [hdr]; unfold wk; rw [if_pos (.inr (.inr (.inr (.inr q4))))])))
            clear hdr
            go_wp2
            exact wp_goto ⟨rfl, rfl, rfl, HZ.out, HBX.out⟩
          · have q5' : (f0 == 0) = false := by rw [beq_eq_false_iff_ne]; exact q5
            have HQ5 := Hd.mk q5
            clear q5
            have HZ := Hd.mk (HNO.out (HI.out.trans (by rw [hdr]; unfold wk; rw [if_pos (.inr (.inr (.inr (.inr q4))))])))
            clear hdr
            go_wp2
            exact wp_goto ⟨rfl, rfl, rfl, HZ.out, HBX.out⟩
        have HDR := Hd.mk (show wk old size (st.drop i) a c p = if ¬ (0 ≤ p + f0 ∧ p + f0 ≤ old) ∨ size < a + f0 + (c + f1) ∨ 16777216 < f2 ∨ f2 < -16777216 then none
            else if ¬ (0 ≤ p + f0 + f2 ∧ p + f0 + f2 ≤ old) then none else wk old size (st.drop (i + 1)) (a + f0) (c + f1) (p + f0 + f2) by
          rw [hdr]
          conv => lhs; unfold wk
          rw [if_neg (by simp only; omega)])
        have HQ2 := Hd.mk q2
        clear hdr q2
        go_cut [72] (fun v72 W => v72 = .bool false ∧ Hd (W = wx))
        case first =>
          by_cases q5 : f0 = 0
          · have q6 : (f1 == 0) = false := by rw [beq_eq_false_iff_ne]; intro h; exact HQ2.out ⟨q5, h⟩
            subst q5
            go_wp2_with fail
            go_meet
            case rel => exact ⟨rfl, ⟨rfl⟩⟩
          · have q5' : (f0 == 0) = false := by rw [beq_eq_false_iff_ne]; exact q5
            have HQ5 := Hd.mk q5
            clear q5
            go_wp2_with fail
            go_meet
            case rel => exact ⟨rfl, ⟨rfl⟩⟩
        case rest =>
          obtain ⟨rfl, HW⟩ := hcut
          have hw := HW.out
          subst hw
          clear HW
          have HPL := Hd.mk (place_c (p + f0) old wc)
          by_cases r1 : 0 ≤ p + f0 ∧ p + f0 ≤ old
          rotate_left
          · rw [decide_eq_false r1] at HPL
            have HZ := Hd.mk (show r = 171 from HNO.out (HI.out.trans (HDR.out.trans (if_pos (.inl r1)))))
            have HR1 := Hd.mk r1
            clear r1 HDR
            go_wp2_with fail
            refine HPL.out.mono ?_
            rintro e w5 ⟨rfl, rfl⟩
            clear HPL
            go_wp2
            exact wp_goto ⟨rfl, rfl, rfl, HZ.out, HBX.out⟩
          rw [decide_eq_true r1] at HPL
          obtain ⟨r10, r11⟩ := r1
          go_wp2_with fail
          refine HPL.out.mono ?_
          rintro e w5 ⟨rfl, rfl⟩
          clear HPL
          by_cases r2 : size < a + f0 + (c + f1)
          · have HZ := Hd.mk (show r = 171 from HNO.out (HI.out.trans (HDR.out.trans (if_pos (.inr (.inl r2))))))
            clear HDR
            go_wp2
            exact wp_goto ⟨rfl, rfl, rfl, HZ.out, HBX.out⟩
          by_cases r3 : 16777216 < f2
          · have HZ := Hd.mk (show r = 171 from HNO.out (HI.out.trans (HDR.out.trans (if_pos (.inr (.inr (.inl r3)))))))
            clear HDR
            go_wp2
            exact wp_goto ⟨rfl, rfl, rfl, HZ.out, HBX.out⟩
          by_cases r4 : f2 < -16777216
          · have HZ := Hd.mk (show r = 171 from HNO.out (HI.out.trans (HDR.out.trans (if_pos (.inr (.inr (.inr r4)))))))
            clear HDR
            go_wp2
            exact wp_goto ⟨rfl, rfl, rfl, HZ.out, HBX.out⟩
          have hdr := HDR.out
          rw [if_neg (by omega)] at hdr
          have HPL := Hd.mk (place_c (p + f0 + f2) old w5)
          by_cases r5 : 0 ≤ p + f0 + f2 ∧ p + f0 + f2 ≤ old
          rotate_left
          · rw [decide_eq_false r5] at HPL
            rw [if_pos r5] at hdr
            have HZ := Hd.mk (show r = 171 from HNO.out (HI.out.trans hdr))
            have HR1 := Hd.mk r5
            clear r5 HDR hdr
            go_wp2_with fail
            refine HPL.out.mono ?_
            rintro e w6 ⟨rfl, rfl⟩
            clear HPL
            go_wp2
            exact wp_goto ⟨rfl, rfl, rfl, HZ.out, HBX.out⟩
          rw [if_neg (fun h => h r5)] at hdr
          rw [decide_eq_true r5] at HPL
          obtain ⟨r50, r51⟩ := r5
          have HIN := Hd.mk (HI.out.trans hdr)
          clear HDR hdr
          go_wp2_with fail
          refine HPL.out.mono ?_
          rintro e w6 ⟨rfl, rfl⟩
          clear HPL
          go_wp2
          go_roundg gk
          case measure => omega
          case rel => exact ⟨i + 1, a + f0, c + f1, p + f0 + f2, rfl, rfl, rfl, by go_num, by omega, by omega, by omega, by omega, r50, r51, HIN, HBW2⟩
end Go.Proofs.Ytinlfoblpgpikaa
namespace Go.Proofs.Ytinlfoblpgpikaa
open Go.RowKit Go.Shelf Go.Proofs.YtinlfoblpgpikaaW.PrintWords Go.Proofs.YtinlfoblpgpikaaW.PrintLast Go.Proofs.YtinlfoblpgpikaaW.PrintMore Go.Proofs.Ytinlfoblpgpikaa.Pr
set_option linter.unusedVariables false
set_option linter.unusedSimpArgs false
def f81 (s : S81) : S82 := ⟨s.f0, s.f1, s.f2⟩
theorem drop_rd81 (L : List S81) (i : Nat) (h : i < L.length) : L.drop i = rd_T81 L i :: L.drop (i + 1) := by
  rw [List.drop_eq_getElem_cons h]
  congr 1
  simp [rd_T81, List.getD_eq_getElem?_getD, List.getElem?_eq_getElem h]
theorem faceSteps_l0 (L : List S81) (hl : L.length < 5864062014805) : ∀ (j i : Nat) (acc : List S82), i + j = L.length → acc.length = i → sapperlaw17_faceSteps.l0 (j + 1) acc L (L.length : Int) i = some (acc ++ (L.drop i).map f81)
  | 0, i, acc, hi, ha => by
    obtain rfl : i = L.length := by omega
    rw [sapperlaw17_faceSteps.l0, if_neg (by omega), List.drop_length]
    simp
  | j + 1, i, acc, hi, ha => by
    have hil : i < L.length := by omega
    rw [sapperlaw17_faceSteps.l0, if_pos (by omega), if_pos (by omega), if_pos (by omega), if_pos (by omega), w64 _ (by omega), show ((i : Int) + 1) = ((i + 1 : Nat) : Int) by omega, faceSteps_l0 L hl j (i + 1) _ (by omega) (by simp [ha]), drop_rd81 L i hil]
    simp [f81]
theorem in_f (a lo hi : Int) : sapperref17_in.f a lo hi = some (decide (lo ≤ a ∧ a ≤ hi)) := by
  unfold sapperref17_in.f
  by_cases h : lo ≤ a
  · rw [if_pos h]
    by_cases h2 : a ≤ hi
    · rw [decide_eq_true h2, decide_eq_true (And.intro h h2)]
    · rw [decide_eq_false h2, decide_eq_false (fun h3 => h2 h3.2)]
  · rw [if_neg h, decide_eq_false (fun h3 => h h3.1)]
/-- The sums, where they may be. -/
def sm : List S81 → Int → Int → Option (Int × Int)
  | [], a, c => some (a, c)
  | s :: l, a, c => if (0 ≤ s.f0 ∧ s.f0 ≤ 16777216) ∧ (0 ≤ s.f1 ∧ s.f1 ≤ 16777216) ∧ a + s.f0 ≤ 16777216 ∧ c + s.f1 ≤ 16777216 then sm l (a + s.f0) (c + s.f1) else none
def sme (r : Option (Int × Int)) : Int × Int × Bool := match r with | some (a, c) => (a, c, true) | none => (0, 0, false)
theorem sums_l0 (L : List S81) (hl : L.length ≤ 9223372036854775807) : ∀ (j i : Nat) (a c : Int), i + j = L.length → 0 ≤ a → a ≤ 16777216 → 0 ≤ c → c ≤ 16777216 → sapperref17_Sums.l0 (2 * j + 1) a c L (L.length : Int) i = some (sme (sm (L.drop i) a c))
  | 0, i, a, c, hi, h1, h2, h3, h4 => by
    obtain rfl : i = L.length := by omega
    rw [sapperref17_Sums.l0, if_neg (by omega), List.drop_length]
    rfl
  | j + 1, i, a, c, hi, h1, h2, h3, h4 => by
    have hil : i < L.length := by omega
    obtain ⟨s, hg⟩ : ∃ s, rd_T81 L (i : Int) = s := ⟨_, rfl⟩
    rw [show 2 * (j + 1) + 1 = 2 * j + 1 + 1 + 1 by omega, sapperref17_Sums.l0, if_pos (by omega), if_pos (by omega), if_pos (by omega), drop_rd81 L i hil, hg, in_f, Option.bind_some]
    by_cases c1 : 0 ≤ s.f0 ∧ s.f0 ≤ 16777216
    · rw [decide_eq_true c1, if_pos rfl, in_f, Option.bind_some]
      by_cases c2 : 0 ≤ s.f1 ∧ s.f1 ≤ 16777216
      · rw [decide_eq_true c2, sapperref17_Sums.j1, Bool.not_true, if_neg (by simp), w64 (a + s.f0) (by omega), w64 (c + s.f1) (by omega), w64 ((i : Int) + 1) (by omega)]
        by_cases c3 : a + s.f0 ≤ 16777216
        · rw [if_neg (by omega)]
          by_cases c4 : c + s.f1 ≤ 16777216
          · rw [if_neg (by omega), show ((i : Int) + 1) = ((i + 1 : Nat) : Int) by omega, sums_l0 L hl j (i + 1) _ _ (by omega) (by omega) c3 (by omega) c4, sm, if_pos ⟨c1, c2, c3, c4⟩]
          · rw [if_pos (by omega), sm, if_neg (fun h => c4 h.2.2.2)]
            rfl
        · rw [if_pos (by omega), sm, if_neg (fun h => c3 h.2.2.1)]
          rfl
      · rw [decide_eq_false c2, sapperref17_Sums.j1, Bool.not_false, if_pos rfl, sm, if_neg (fun h => c2 h.2.1)]
        rfl
    · rw [decide_eq_false c1, if_neg (by simp), sapperref17_Sums.j1, if_pos rfl, sm, if_neg (fun h => c1 h.1)]
      rfl
def bad (old : Int) (s : S81) (e : Bool) (p : Int) : Prop := (s.f0 = 0 ∧ s.f1 = 0) ∨ (e = true ∧ s.f2 ≠ 0) ∨ ¬ (-16777216 ≤ s.f2 ∧ s.f2 ≤ 16777216) ∨ ¬ (0 ≤ p + s.f0 ∧ p + s.f0 ≤ old) ∨ ¬ (0 ≤ p + s.f0 + s.f2 ∧ p + s.f0 + s.f2 ≤ old)
instance (old : Int) (s : S81) (e : Bool) (p : Int) : Decidable (bad old s e p) := by unfold bad; infer_instance
end Go.Proofs.Ytinlfoblpgpikaa
namespace Go.Proofs.Ytinlfoblpgpikaa
open Go.RowKit Go.Proofs.YtinlfoblpgpikaaW.PrintWords Go.Proofs.YtinlfoblpgpikaaW.PrintLast Go.Proofs.YtinlfoblpgpikaaW.PrintMore
set_option linter.unusedVariables false
set_option linter.unusedSimpArgs false

/-- v is a slice of bytes of the call's own: xs. -/
abbrev OB (w : World) (base : Nat) (v : Value) (xs : List Int) : Prop := w.ownsRow base 5 1 v xs.length (nums .u8 xs)
theorem OB.snoc {w : World} {base : Nat} {v : Value} {xs ys : List Int} {n : Nat} (h : w.ownsRow base 5 1 v n (nums .u8 xs ++ nums .u8 ys)) (hn : n = xs.length + ys.length) : OB w base v (xs ++ ys) := by
  rw [OB, nums_append, List.length_append, ← hn]
  exact h

theorem own_C {w : World} {base : Nat} {e : TypeId} {k : IntKind} {v : Value} {xs : List Int} (h : w.ownsRow base e 1 v xs.length (nums k xs)) : ∃ A c, v = .slice A xs.length c ∧ xs.length ≤ c ∧ (Kd.int k).C w A xs.length xs := by
  obtain ⟨A, c, rfl, hr⟩ := own_reads h
  exact ⟨A, c, rfl, own_cap h, Kd.C_of_reads (d := (0 : Int)) (h1 := fun _ => rfl) hr⟩
/-! ### plain -/
/-- A slice of uint64 that came in. -/
structure U64s (w : World) (A : Option Addr) (n c : Nat) (l : List Int) : Prop where
  C : (Kd.int .u64).C w A n l
  hc : n ≤ c
  hr : ∀ x ∈ l, 0 ≤ x ∧ x ≤ 18446744073709551615
  hn : n * 8 ≤ 140737488351232
theorem U64s.below {w w' : World} {A : Option Addr} {n c : Nat} {l : List Int} (h : U64s w A n c l) (hb : Below w.heap.size w w') : U64s w' A n c l := ⟨Kd.C_below h.C hb, h.hc, h.hr, h.hn⟩
end Go.Proofs.Ytinlfoblpgpikaa
namespace Go.Proofs.Ytinlfoblpgpikaa
open Go.RowKit Go.Proofs.YtinlfoblpgpikaaW.PrintWords Go.Proofs.YtinlfoblpgpikaaW.PrintLast Go.Proofs.YtinlfoblpgpikaaW.PrintMore
set_option linter.unusedVariables false
set_option linter.unusedSimpArgs false

/-- A slice of bytes that is read. -/
structure Bs (w : World) (A : Option Addr) (n c : Nat) (xs : List Int) : Prop where
  C : (Kd.int .u8).C w A n xs
  hc : n ≤ c
  hr : ∀ x ∈ xs, 0 ≤ x ∧ x ≤ 255
theorem Bs.below {w w' : World} {A : Option Addr} {n c : Nat} {xs : List Int} (h : Bs w A n c xs) (hb : Below w.heap.size w w') : Bs w' A n c xs := ⟨Kd.C_below h.C hb, h.hc, h.hr⟩
theorem Bs.len {w : World} {A : Option Addr} {n c : Nat} {xs : List Int} (h : Bs w A n c xs) : xs.length = n := h.C.1
theorem OB.bs {w : World} {base : Nat} {v : Value} {xs : List Int} (h : OB w base v xs) (hr : ∀ x ∈ xs, 0 ≤ x ∧ x ≤ 255) : ∃ A c, v = .slice A xs.length c ∧ Bs w A xs.length c xs := by
  obtain ⟨A, c, e, h1, h2⟩ := own_C h
  exact ⟨A, c, e, h2, h1, hr⟩
end Go.Proofs.Ytinlfoblpgpikaa
namespace Go.Proofs.Ytinlfoblpgpikaa
open Go.RowKit Go.Proofs.YtinlfoblpgpikaaW.PrintWords Go.Proofs.YtinlfoblpgpikaaW.PrintLast Go.Proofs.YtinlfoblpgpikaaW.PrintMore
set_option linter.unusedVariables false
set_option linter.unusedSimpArgs false

def mk (i n : Nat) : List Int := (List.range n).map fun k : Nat => ((i : Int) + 7 * (k : Int)) % 256
/-- The rows of a family. -/
def Fam (w : World) (base n : Nat) (vs : Nat → Value) (xs : Nat → List Int) : Prop := ∀ j, j < n → OB w base (vs j) (xs j)
theorem Fam.upd {S : Nat → Prop} {w w' : World} {base n : Nat} {vs : Nat → Value} {xs : Nat → List Int} (h : Fam w base n vs xs) (hu : Upd S w w') (hs : ∀ k, S k → ∀ j, j < n → (vs j).ownBlock ≠ some k) : Fam w' base n vs xs :=
  fun j hj => own_upd (h j hj) hu (fun k hk hS => hs k hS j hj hk)
/-- One of them has turned. -/
theorem Fam.one {w w' : World} {base n i : Nat} {vs : Nat → Value} {xs ys : Nat → List Int} (h : Fam w base n vs xs) (hu : Upd (fun k => (vs i).ownBlock = some k) w w')
    (hne : ∀ j, j < n → j ≠ i → ∀ k, (vs j).ownBlock = some k → (vs i).ownBlock ≠ some k) (hi : OB w' base (vs i) (ys i)) (hy : ∀ j, j < n → j ≠ i → ys j = xs j) : Fam w' base n vs ys := by
  intro j hj
  by_cases e : j = i
  · subst e
    exact hi
  · rw [hy j hj e]
    exact own_upd (h j hj) hu (fun k hk hS => hne j hj e k hk hS)

def up (gl : Nat → Value) (i : Nat) (u : Value) : Nat → Value := fun j => if j = i then u else gl j
theorem up_set (gl : Nat → Value) (n i : Nat) (u : Value) (h : i < n) : ((List.range n).map gl).set i u = (List.range n).map (up gl i u) := by
  apply List.ext_getElem?
  intro j
  rw [List.getElem?_set]
  by_cases e : i = j
  · subst e
    simp [h, up]
  · rw [if_neg e]
    simp only [List.getElem?_map]
    rcases Nat.lt_or_ge j n with hj | hj
    · rw [List.getElem?_range hj]
      simp [up, Ne.symm e]
    · rw [List.getElem?_eq_none (by simpa using hj)]
      rfl
/-- The row of rows. -/
abbrev GR (w : World) (G n : Nat) (gl : Nat → Value) : Prop := w.ownsRow G 24 1 (.slice (some ⟨G, 0, none⟩) n n) n ((List.range n).map gl)
theorem GR.cell {w : World} {G n : Nat} {gl : Nat → Value} (h : GR w G n gl) (i : Nat) (hi : i < n) : w.cell? ⟨G, i, none⟩ = some (gl i) := by
  rw [World.ownsRow.cellAt h i (by omega)]
  simp [hi]
theorem GR.store {w : World} {G n : Nat} {gl : Nat → Value} (h : GR w G n gl) (i : Nat) (hi : i < n) (u : Value) : GR (w.setCell ⟨G, i, none⟩ u) G n (up gl i u) := by
  have := (World.ownsRow.stored h i u).1
  rwa [up_set gl n i u hi] at this

/-- No block of both. -/
def Dj (u v : Value) : Prop := ∀ k, u.ownBlock = some k → v.ownBlock ≠ some k
theorem Dj.symm {u v : Value} (h : Dj u v) : Dj v u := fun k hk hk' => h k hk' hk
theorem Dj.of {w w' : World} {b b' : Nat} {e e' : TypeId} {s s' n n' : Nat} {u v : Value} {xs ys : List Value} (h : w.ownsRow b e s u n xs) (h' : w'.ownsRow b' e' s' v n' ys) (hb : w.heap.size ≤ b') : Dj u v := fun k hk hk' => by
  have := own_lt h k hk
  have := own_base h' k hk'
  omega

end Go.Proofs.Ytinlfoblpgpikaa
namespace Go.Proofs.Ytinlfoblpgpikaa
set_option linter.unusedVariables false

open Go.RowKit Go.Shelf Go.Proofs.YtinlfoblpgpikaaW.PrintWords Go.Proofs.YtinlfoblpgpikaaW.PrintLast Go.Proofs.YtinlfoblpgpikaaW.PrintMore
theorem Bs.suf {w : World} {A : Option Addr} {n c m : Nat} {xs : List Int} (h : Bs w A n c xs) (hm : m ≤ n) : Bs w (A.map (·.add m)) (n - m) (c - m) (xs.drop m) := by
  refine ⟨Kd.C_of_reads (enc := Value.int .u8) (d := (0 : Int)) (h1 := fun _ => rfl) ⟨by rw [List.length_drop, h.len], by have := Kd.C_max h.C; omega, fun hn => ?_⟩, by have := h.hc; omega, fun x hx => h.hr x (List.mem_of_mem_drop hx)⟩
  obtain ⟨ad, e, _⟩ := at_byte h.C 0 (by omega)
  subst e
  refine ⟨_, rfl, fun j hj => ?_⟩
  obtain ⟨ad', e', hc'⟩ := at_byte h.C (m + j) (by omega)
  cases e'
  show w.cell? ((ad.add m).add j) = _
  rw [add_add, hc']
  simp [gb, List.getD_eq_getElem?_getD]
end Go.Proofs.Ytinlfoblpgpikaa
namespace Go.Proofs.Ytinlfoblpgpikaa
open Go.RowKit Go.ChangeShapes Go.WideShapes
set_option linter.unusedVariables false
theorem cell_at {w : World} {base : Nat} {x : Addr} {k m j : Nat} {cs : List Value} (h : w.cells? base (x.add k) m = some cs) (hj : j < m) : ∃ v, w.cell? (x.add (k + j)) = some v ∧ (cs.drop j).take 1 = [v] := by
  obtain ⟨_, hl, hc⟩ := World.cells?_some h
  have hlt : j < cs.length := by omega
  refine ⟨cs[j], ?_, by rw [List.drop_eq_getElem_cons hlt]; rfl⟩
  rw [← Go.Deep.add_add, hc j hj, List.getElem?_eq_getElem hlt]
structure OpenRows {H : Type} (enc : TypeId × Value → H) (P : Program) (W : World) (base : Nat) (sp : Nat → Bool) (held : Bool) (fs : Array Field) (a : Option Addr) (len cap : Nat) (d : DataW H) : Prop where
  cap_ : len ≤ cap
  max : cap ≤ maxLen
  at_ : ∃ (D : Nat → DataW H) (rest : List (DataW H)), ((d = .nil ∧ len = 0) ∨ d = .slice ((List.range len).map D) rest) ∧ ∀ i, i < len → ∃ (x : Addr) (ys : List (DataW H × List MemPlace)) (n : Nat), a = some x ∧ D i = .agg (ys.map (·.1)) ∧ ys.length = fs.size ∧
    ∀ (j : Nat) (f : Field), fs[j]? = some f → ∃ (v : Value) (y : DataW H × List MemPlace), W.cell? (x.add (i * fs.size + j)) = some v ∧ ys[j]? = some y ∧ DataW.trod enc P W base sp held n f.type [v] = some y
theorem open_rows {H : Type} {enc : TypeId × Value → H} {P : Program} {W : World} {base : Nat} {sp : Nat → Bool} {held : Bool} {t e : TypeId} {fs : Array Field} {fuel : Nat} {a : Option Addr} {len cap : Nat} {x : DataW H × List MemPlace}
    (ht : P.underlying t = some (.slice e)) (he : P.underlying e = some (.struct fs)) (hone : Go.Deep.oneCellFields P fs = true) (hC : P.cellsOf e = fs.size) (h : DataW.trod enc P W base sp held fuel t [.slice a len cap] = some x) :
    OpenRows enc P W base sp held fs a len cap x.1 := by
  rcases Go.Deep.open_slice ht h with ⟨hcs, hx⟩ | ⟨x0, l, c, m, n, D, Pl, hcs, _, hl, hm, hmm, hx, hi⟩
  · simp at hcs
    obtain ⟨rfl, rfl, rfl⟩ := hcs
    exact ⟨Nat.le_refl _, Nat.zero_le _, fun _ => .nil, [], .inl ⟨by rw [hx], rfl⟩, fun i h => absurd h (by omega)⟩
  · simp at hcs
    obtain ⟨rfl, rfl, rfl⟩ := hcs
    refine ⟨hl, hm, D, _, .inr (by rw [hx]), fun i hil => ?_⟩
    obtain ⟨cs', hc, ht'⟩ := hi i (by rw [hmm]; split <;> omega)
    rw [hC] at hc
    obtain ⟨ys, n', _, hy, _, hyl, hf⟩ := DataW.trod_struct he ht'
    refine ⟨x0, ys, n', rfl, congrArg Prod.fst hy, hyl, fun j f hj => ?_⟩
    obtain ⟨ho, hk⟩ := Go.Deep.hone_of hone j f hj
    have hjl : j < fs.size := (Array.getElem?_eq_some_iff.1 hj).1
    obtain ⟨v, hv, h1⟩ := cell_at hc hjl
    have h2 := hf j f hj
    rw [ho, hk, h1] at h2
    have hys : ys[j]? = some (ys[j]'(by omega)) := List.getElem?_eq_getElem (by omega)
    exact ⟨v, _, hv, hys, h2.trans hys⟩
end Go.Proofs.Ytinlfoblpgpikaa
namespace Go.Proofs.Ytinlfoblpgpikaa
open Go.RowKit Go.ChangeShapes Go.WideShapes Go.Proofs.YtinlfoblpgpikaaW.PrintWords Go.Proofs.Ytinlfoblpgpikaa.Pr
set_option linter.unusedVariables false
theorem listed_of {α : Type} {n : Nat} {p : Nat → α → Prop} (h : ∀ i, i < n → ∃ a, p i a) : ∃ l : List α, l.length = n ∧ ∀ i a, l[i]? = some a → p i a := by
  induction n with
  | zero => exact ⟨[], rfl, fun i a h => by simp at h⟩
  | succ n ih =>
    obtain ⟨l, hl, hp⟩ := ih (fun i hi => h i (by omega))
    obtain ⟨a, ha⟩ := h n (by omega)
    refine ⟨l ++ [a], by simp [hl], fun i b hb => ?_⟩
    rcases Nat.lt_or_ge i l.length with hi | hi
    · rw [List.getElem?_append_left hi] at hb
      exact hp i b hb
    · rw [List.getElem?_append_right hi] at hb
      obtain ⟨h0, h1⟩ := List.getElem?_eq_some_iff.1 hb
      have hi0 : i = n := by simp at h0; omega
      subst hi0
      simp [hl] at h1
      subst h1
      exact ha
/-- Bytes that are read. -/
structure Bys (W : World) (A : Option Addr) (c : Nat) (l : List Int) : Prop where
  r : Kd.C (Kd.int .u8) W A l.length l
  hc : l.length ≤ c
  hr : ∀ x ∈ l, 0 ≤ x ∧ x ≤ 255
theorem bytes_of_trod {H : Type} {enc : TypeId × Value → H} {W : World} {base : Nat} {sp : Nat → Bool} {held : Bool} {n : Nat} {v : Value} {y : DataW H × List MemPlace} (h : DataW.trod enc Try.prog W base sp held n 24 [v] = some y) :
    ∃ (A : Option Addr) (c : Nat) (l : List Int), v = .slice A l.length c ∧ Bys W A c l ∧ l.length ≤ Rows.uptoBulk y.1 := by
  rcases Go.Deep.open_slice1 Try.underlying24 (by kernel_rfl) h with ⟨hcs, rfl⟩ | ⟨a, len, cap, m, n', V, D, Pl, hcs, _, hl, hm, hmm, rfl, hV⟩
  · obtain rfl := (List.cons.inj hcs).1
    exact ⟨none, 0, [], rfl, ⟨⟨rfl, by simp, fun h => by simp at h⟩, by simp, by simp⟩, by simp⟩
  · obtain rfl := (List.cons.inj hcs).1
    obtain ⟨l, hll, hp⟩ := listed_of (α := Int) (n := len) (p := fun i b => W.cell? (a.add i) = some (.int .u8 b) ∧ 0 ≤ b ∧ b ≤ 255) (fun i hi => by
      obtain ⟨h1, h2⟩ := hV i (by rw [hmm]; split <;> omega)
      obtain ⟨b, hb, _, wb⟩ := DataW.trod_int Try.underlying5 h2
      obtain rfl' := (List.cons.inj hb).1
      rw [rfl'] at h1
      exact ⟨b, h1, bounds_u8 wb⟩)
    subst hll
    have hmx : l.length ≤ 9223372036854775807 := by unfold maxLen at hm; omega
    refine ⟨some a, cap, l, rfl, ⟨Kd.C_of_reads (enc := Value.int .u8) (d := (0 : Int)) (h1 := fun _ => rfl) ⟨rfl, hmx, fun _ => ⟨a, rfl, fun j hj => ?_⟩⟩, hl, fun x hx => ?_⟩, ?_⟩
    · have := (hp j _ (List.getElem?_eq_getElem hj)).1
      rw [this]
      simp [List.getD_eq_getElem?_getD, List.getElem?_eq_getElem hj]
    · obtain ⟨j, hj, rfl⟩ := List.mem_iff_getElem.1 hx
      exact (hp j _ (List.getElem?_eq_getElem hj)).2
    · have := bulks.slice_le ((List.range l.length).map D) ((List.range (m - l.length)).map fun j => D (l.length + j))
      simp only [List.length_map, List.length_range] at this
      exact Nat.le_trans (by omega) this
def wfS (s : S81) : Prop := (-9223372036854775808 ≤ s.f0 ∧ s.f0 ≤ 9223372036854775807) ∧ (-9223372036854775808 ≤ s.f1 ∧ s.f1 ≤ 9223372036854775807) ∧ (-9223372036854775808 ≤ s.f2 ∧ s.f2 ≤ 9223372036854775807)
theorem steps_of_trod {H : Type} {enc : TypeId × Value → H} {W : World} {base : Nat} {sp : Nat → Bool} {held : Bool} {n : Nat} {v : Value} {y : DataW H × List MemPlace} (h : DataW.trod enc Try.prog W base sp held n 23 [v] = some y) :
    ∃ (A : Option Addr) (c : Nat) (l : List S81), v = .slice A l.length c ∧ Kd.C k81 W A l.length l ∧ l.length ≤ c ∧ (∀ s ∈ l, wfS s) ∧ l.length ≤ Rows.uptoBulk y.1 := by
  have h0 := h
  rcases Go.Deep.open_slice Try.underlying23 h with ⟨hcs, rfl⟩ | ⟨a, len, cap, m, n', D, Pl, hcs, _, hl, hm, hmm, rfl, _⟩
  · obtain rfl := (List.cons.inj hcs).1
    exact ⟨none, 0, [], rfl, ⟨rfl, by simp, fun h => by simp at h⟩, by simp, by simp, by simp⟩
  · obtain rfl := (List.cons.inj hcs).1
    have o := open_rows Try.underlying23 Try.underlying81 (by kernel_rfl) (by kernel_rfl) h0
    obtain ⟨D', rest, _, hi⟩ := o.at_
    obtain ⟨l, hll, hp⟩ := listed_of (α := S81) (n := len) (p := fun i s => W.cell? (a.add (i * 3 + 0)) = some (.int .i64 s.f0) ∧ W.cell? (a.add (i * 3 + 1)) = some (.int .i64 s.f1) ∧ W.cell? (a.add (i * 3 + 2)) = some (.int .i64 s.f2) ∧ wfS s) (fun i hil => by
      obtain ⟨x, ys, n'', e, _, _, hf⟩ := hi i hil
      cases e
      obtain ⟨v0, y0, c0, _, t0⟩ := hf 0 _ rfl
      obtain ⟨v1, y1, c1, _, t1⟩ := hf 1 _ rfl
      obtain ⟨v2, y2, c2, _, t2⟩ := hf 2 _ rfl
      obtain ⟨b0, hb0, _, w0⟩ := DataW.trod_int Try.underlying3 t0
      obtain ⟨b1, hb1, _, w1⟩ := DataW.trod_int Try.underlying3 t1
      obtain ⟨b2, hb2, _, w2⟩ := DataW.trod_int Try.underlying3 t2
      have e0 := (List.cons.inj hb0).1
      have e1 := (List.cons.inj hb1).1
      have e2 := (List.cons.inj hb2).1
      rw [e0] at c0
      rw [e1] at c1
      rw [e2] at c2
      exact ⟨⟨b0, b1, b2⟩, c0, c1, c2, bounds_i64 w0, bounds_i64 w1, bounds_i64 w2⟩)
    subst hll
    have hmx : l.length ≤ 9223372036854775807 := by unfold maxLen at hm; omega
    refine ⟨some a, cap, l, rfl, ⟨rfl, hmx, fun _ => ⟨a, rfl, fun j s hj => ⟨[.int .i64 s.f0, .int .i64 s.f1, .int .i64 s.f2], rfl, k81_mk W s, fun i u hu => ?_⟩⟩⟩, hl, fun s hs => ?_, ?_⟩
    · obtain ⟨h0, h1, h2, _⟩ := hp j s hj
      match i, hu with
      | 0, hu => simp at hu; subst hu; exact h0
      | 1, hu => simp at hu; subst hu; exact h1
      | 2, hu => simp at hu; subst hu; exact h2
      | i + 3, hu => simp at hu
    · obtain ⟨j, hj, rfl⟩ := List.mem_iff_getElem.1 hs
      exact (hp j _ (List.getElem?_eq_getElem hj)).2.2.2
    · have := bulks.slice_le ((List.range l.length).map D) ((List.range (m - l.length)).map fun j => D (l.length + j))
      simp only [List.length_map, List.length_range] at this
      exact Nat.le_trans (by omega) this
/-- A window that came in. -/
structure WinI (W : World) (pos : Int) (A0 : Option Addr) (c0 : Nat) (st : List S81) (A1 : Option Addr) (c1 : Nat) (d : List Int) (A2 : Option Addr) (c2 : Nat) (x : List Int) : Prop where
  s : Kd.C k81 W A0 st.length st
  di : Kd.C (Kd.int .u8) W A1 d.length d
  ex : Kd.C (Kd.int .u8) W A2 x.length x
  hs : st.length ≤ c0
  hd : d.length ≤ c1
  hx : x.length ≤ c2
  ws : ∀ s ∈ st, wfS s
  hp : -9223372036854775808 ≤ pos ∧ pos ≤ 9223372036854775807
  l0 : st.length * 24 ≤ 140737488351232
  l1 : d.length * 1 ≤ 140737488351232
  l2 : x.length * 1 ≤ 140737488351232
end Go.Proofs.Ytinlfoblpgpikaa
namespace Go.Proofs.Ytinlfoblpgpikaa
open Go.RowKit Go.Shelf Go.Proofs.YtinlfoblpgpikaaW.PrintWords Go.Proofs.YtinlfoblpgpikaaW.PrintLast Go.Proofs.YtinlfoblpgpikaaW.PrintMore Go.Proofs.Ytinlfoblpgpikaa.Pr
set_option linter.unusedVariables false
set_option linter.unusedSimpArgs false
/-- What a window holds beside its lists: where it begins, how many bytes, where the next byte must stand, has one been added. -/
structure Wx where
  pos : Int
  sz : Int
  at_ : Int
  any : Bool
def MS (Bm : Nat) (s d x : Value) (k : Nat) : Prop := k = Bm ∨ s.ownBlock = some k ∨ d.ownBlock = some k ∨ x.ownBlock = some k
structure Mkr (base : Nat) (W : World) (Bm : Nat) (s d x : Value) (sl : List S82) (dl xl : List Int) (a : Wx) : Prop where
  b : W.heap[Bm]? = some (.cells #[.int .i64 a.pos, s, d, x, .int .i64 a.sz, .int .i64 a.at_, .bool a.any] 86 (0, 0))
  hb : base ≤ Bm
  rs : W.ownsRow base 82 3 s sl.length (cells82 sl)
  rd : W.ownsRow base 5 1 d dl.length (nums .u8 dl)
  rx : W.ownsRow base 5 1 x xl.length (nums .u8 xl)
  ne : ∀ g, d.ownBlock = some g → x.ownBlock ≠ some g
theorem Mkr.le {base : Nat} {W : World} {Bm : Nat} {s d x : Value} {sl : List S82} {dl xl : List Int} {a : Wx} (h : Mkr base W Bm s d x sl dl xl a) : base ≤ W.heap.size := by
  have := blk_lt h.b
  have := h.hb
  omega
/-- The maker, with what has been done since W0, Wk; Z: blocks beside it. -/
structure Mq (base : Nat) (W0 : World) (S0 : Nat → Prop) (Z : List (Nat × Obj)) (Wk W : World) (Bm : Nat) (s d x : Value) (sl : List S82) (dl xl : List Int) (a : Wx) : Prop where
  m : Mkr base W Bm s d x sl dl xl a
  u : Upd S0 W0 W
  k : ∀ k, MS Bm s d x k → S0 k ∨ W0.heap.size ≤ k
  z : ∀ q ∈ Z, W.heap[q.1]? = some q.2 ∧ ¬ MS Bm s d x q.1
  ko : KeepsOthers Wk W
theorem own_cells {w : World} {base : Nat} {e : TypeId} {size n : Nat} {v : Value} {xs : List Value} (h : w.ownsRow base e size v n xs) {j : Nat} {o : Obj} (ej : v.ownBlock = some j) (hj : w.heap[j]? = some o) : o.isCells = true := by
  rcases h.2 with ⟨rfl, _⟩ | ⟨g, cap, cur, rfl, _, hh, _⟩
  · simp [Value.ownBlock] at ej
  · have : g = j := by simpa [Value.ownBlock] using ej
    subst this
    rw [hh] at hj
    cases hj
    rfl
theorem KeepsOthers.of_below' {W W' : World} (h : Below W.heap.size W W') : KeepsOthers W W' := by
  refine ⟨h.size, fun k o hk _ => ?_⟩
  exact (h.block k (Array.getElem?_eq_some_iff.1 hk).1).trans hk
section
variable {base : Nat} {W0 : World} {S0 : Nat → Prop} {Z : List (Nat × Obj)} {Wk W W' : World} {Bm : Nat} {s d x : Value} {sl : List S82} {dl xl : List Int} {a : Wx}
theorem Mq.reset (h : Mq base W0 S0 Z Wk W Bm s d x sl dl xl a) : Mq base W0 S0 Z W W Bm s d x sl dl xl a := ⟨h.m, h.u, h.k, h.z, KeepsOthers.refl _⟩
theorem Mq.lt (h : Mq base W0 S0 Z Wk W Bm s d x sl dl xl a) : ∀ k, MS Bm s d x k → k < W.heap.size := by
  intro k hk
  rcases hk with rfl | hk | hk | hk
  · exact blk_lt h.m.b
  · exact own_lt h.m.rs k hk
  · exact own_lt h.m.rd k hk
  · exact own_lt h.m.rx k hk
theorem Mq.below (h : Mq base W0 S0 Z Wk W Bm s d x sl dl xl a) (hb : Below W.heap.size W W') : Mq base W0 S0 Z Wk W' Bm s d x sl dl xl a := by
  refine ⟨⟨blk_below h.m.b hb, h.m.hb, pw_own_below h.m.rs hb, pw_own_below h.m.rd hb, pw_own_below h.m.rx hb, h.m.ne⟩, h.u.trans (S' := fun _ => False) (Upd.of_below hb) (fun _ _ h => h.elim), h.k, fun q hq => ?_, h.ko.trans (KeepsOthers.of_below' hb)⟩
  exact ⟨blk_below (h.z q hq).1 hb, (h.z q hq).2⟩
theorem Mq.add (h : Mq base W0 S0 Z Wk W Bm s d x sl dl xl a) (o : Obj) : Mq base W0 S0 ((W.heap.size, o) :: Z) Wk (W.alloc o) Bm s d x sl dl xl a := by
  have h2 := h.below ((Below.refl W.heap.size W).alloc (Nat.le_refl _) o)
  refine ⟨h2.m, h2.u, h2.k, fun q hq => ?_, h2.ko⟩
  rcases List.mem_cons.1 hq with rfl | hq
  · refine ⟨blk_new W o, fun hk => ?_⟩
    have := h.lt _ hk
    simp at this
  · exact h2.z q hq
theorem Mq.less {Z' : List (Nat × Obj)} (h : Mq base W0 S0 Z Wk W Bm s d x sl dl xl a) (hs : ∀ q ∈ Z', q ∈ Z) : Mq base W0 S0 Z' Wk W Bm s d x sl dl xl a := ⟨h.m, h.u, h.k, fun q hq => h.z q (hs q hq), h.ko⟩
/-- A store into the maker's own blocks. -/
theorem Mq.store {p : Addr} {u : Value} {s' d' x' : Value} {sl' : List S82} {dl' xl' : List Int} {a' : Wx} (h : Mq base W0 S0 Z Wk W Bm s d x sl dl xl a) (hp : MS Bm s d x p.block)
    (hs : ∀ k, MS Bm s' d' x' k → MS Bm s d x k) (hm : Mkr base (W.setCell p u) Bm s' d' x' sl' dl' xl' a') : Mq base W0 S0 Z Wk (W.setCell p u) Bm s' d' x' sl' dl' xl' a' := by
  refine ⟨hm, h.u.setCell p (h.k _ hp) u, fun k hk => h.k k (hs k hk), fun q hq => ?_, h.ko.trans (KeepsOthers.setCell _ _ _)⟩
  obtain ⟨h1, h2⟩ := h.z q hq
  have hne : q.1 ≠ p.block := fun e => h2 (by rw [e]; exact hp)
  exact ⟨(Below.heap_setCell W p u q.1 hne).trans h1, fun hk => h2 (hs _ hk)⟩
theorem Mq.setPos (h : Mq base W0 S0 Z Wk W Bm s d x sl dl xl a) (v : Int) : Mq base W0 S0 Z Wk (W.setCell ⟨Bm, 0, none⟩ (.int .i64 v)) Bm s d x sl dl xl ⟨v, a.sz, a.at_, a.any⟩ := by
  have e := blk_set h.m.b 0 (.int .i64 v)
  have e' : (W.setCell ⟨Bm, 0, none⟩ (.int .i64 v)).heap[Bm]? = some (.cells #[.int .i64 v, s, d, x, .int .i64 a.sz, .int .i64 a.at_, .bool a.any] 86 (0, 0)) := by simpa using e
  refine h.store (.inl rfl) (fun _ hk => hk) ⟨e', h.m.hb, ?_, ?_, ?_, h.m.ne⟩
  · exact own_setCell h.m.rs (p := ⟨Bm, 0, none⟩) (own_ne h.m.rs h.m.b (by decide)) _
  · exact own_setCell h.m.rd (p := ⟨Bm, 0, none⟩) (own_ne h.m.rd h.m.b (by decide)) _
  · exact own_setCell h.m.rx (p := ⟨Bm, 0, none⟩) (own_ne h.m.rx h.m.b (by decide)) _
theorem Mq.setSz (h : Mq base W0 S0 Z Wk W Bm s d x sl dl xl a) (v : Int) : Mq base W0 S0 Z Wk (W.setCell ⟨Bm, 4, none⟩ (.int .i64 v)) Bm s d x sl dl xl ⟨a.pos, v, a.at_, a.any⟩ := by
  have e := blk_set h.m.b 4 (.int .i64 v)
  have e' : (W.setCell ⟨Bm, 4, none⟩ (.int .i64 v)).heap[Bm]? = some (.cells #[.int .i64 a.pos, s, d, x, .int .i64 v, .int .i64 a.at_, .bool a.any] 86 (0, 0)) := by simpa using e
  refine h.store (.inl rfl) (fun _ hk => hk) ⟨e', h.m.hb, ?_, ?_, ?_, h.m.ne⟩
  · exact own_setCell h.m.rs (p := ⟨Bm, 4, none⟩) (own_ne h.m.rs h.m.b (by decide)) _
  · exact own_setCell h.m.rd (p := ⟨Bm, 4, none⟩) (own_ne h.m.rd h.m.b (by decide)) _
  · exact own_setCell h.m.rx (p := ⟨Bm, 4, none⟩) (own_ne h.m.rx h.m.b (by decide)) _
theorem Mq.setAt (h : Mq base W0 S0 Z Wk W Bm s d x sl dl xl a) (v : Int) : Mq base W0 S0 Z Wk (W.setCell ⟨Bm, 5, none⟩ (.int .i64 v)) Bm s d x sl dl xl ⟨a.pos, a.sz, v, a.any⟩ := by
  have e := blk_set h.m.b 5 (.int .i64 v)
  have e' : (W.setCell ⟨Bm, 5, none⟩ (.int .i64 v)).heap[Bm]? = some (.cells #[.int .i64 a.pos, s, d, x, .int .i64 a.sz, .int .i64 v, .bool a.any] 86 (0, 0)) := by simpa using e
  refine h.store (.inl rfl) (fun _ hk => hk) ⟨e', h.m.hb, ?_, ?_, ?_, h.m.ne⟩
  · exact own_setCell h.m.rs (p := ⟨Bm, 5, none⟩) (own_ne h.m.rs h.m.b (by decide)) _
  · exact own_setCell h.m.rd (p := ⟨Bm, 5, none⟩) (own_ne h.m.rd h.m.b (by decide)) _
  · exact own_setCell h.m.rx (p := ⟨Bm, 5, none⟩) (own_ne h.m.rx h.m.b (by decide)) _
theorem Mq.setAny (h : Mq base W0 S0 Z Wk W Bm s d x sl dl xl a) (v : Bool) : Mq base W0 S0 Z Wk (W.setCell ⟨Bm, 6, none⟩ (.bool v)) Bm s d x sl dl xl ⟨a.pos, a.sz, a.at_, v⟩ := by
  have e := blk_set h.m.b 6 (.bool v)
  have e' : (W.setCell ⟨Bm, 6, none⟩ (.bool v)).heap[Bm]? = some (.cells #[.int .i64 a.pos, s, d, x, .int .i64 a.sz, .int .i64 a.at_, .bool v] 86 (0, 0)) := by simpa using e
  refine h.store (.inl rfl) (fun _ hk => hk) ⟨e', h.m.hb, ?_, ?_, ?_, h.m.ne⟩
  · exact own_setCell h.m.rs (p := ⟨Bm, 6, none⟩) (own_ne h.m.rs h.m.b (by decide)) _
  · exact own_setCell h.m.rd (p := ⟨Bm, 6, none⟩) (own_ne h.m.rd h.m.b (by decide)) _
  · exact own_setCell h.m.rx (p := ⟨Bm, 6, none⟩) (own_ne h.m.rx h.m.b (by decide)) _
end
/-! The last step. -/
def getf (t : S82) : Nat → Int
  | 0 => t.f0
  | 1 => t.f1
  | _ => t.f2
def setf (t : S82) : Nat → Int → S82
  | 0, v => ⟨v, t.f1, t.f2⟩
  | 1, v => ⟨t.f0, v, t.f2⟩
  | _, v => ⟨t.f0, t.f1, v⟩
theorem cells82_snoc (dn : List S82) (t : S82) : cells82 (dn ++ [t]) = cells82 dn ++ [.int .i64 t.f0, .int .i64 t.f1, .int .i64 t.f2] := by simp [cells82]
theorem cells82_put (dn : List S82) (t : S82) (j : Nat) (hj : j < 3) (v : Int) : (cells82 (dn ++ [t])).set (dn.length * 3 + j) (.int .i64 v) = cells82 (dn ++ [setf t j v]) := by
  rw [cells82_snoc, cells82_snoc, List.set_append_right _ _ (by rw [cells82_len]; omega), cells82_len, Nat.add_sub_cancel_left]
  match j, hj with
  | 0, _ => rfl
  | 1, _ => rfl
  | 2, _ => rfl
theorem cells82_get (dn : List S82) (t : S82) (j : Nat) (hj : j < 3) : (cells82 (dn ++ [t]))[dn.length * 3 + j]? = some (.int .i64 (getf t j)) := by
  rw [cells82_snoc, List.getElem?_append_right (by rw [cells82_len]; omega), cells82_len, Nat.add_sub_cancel_left]
  match j, hj with
  | 0, _ => rfl
  | 1, _ => rfl
  | 2, _ => rfl
section
variable {base : Nat} {W0 : World} {S0 : Nat → Prop} {Z : List (Nat × Obj)} {Wk W W' : World} {Bm : Nat} {s d x : Value} {sl dn : List S82} {t : S82} {dl xl : List Int} {a : Wx} {g c : Nat}
theorem Mq.form (h : Mq base W0 S0 Z Wk W Bm s d x (dn ++ [t]) dl xl a) : ∃ g c, s = .slice (some ⟨g, 0, none⟩) (dn.length + 1) c := by
  obtain ⟨g, cap, he, _⟩ := World.ownsRow.form h.m.rs (by simp)
  exact ⟨g, cap, by rw [he]; simp⟩
theorem own_last {base : Nat} {W : World} {v : Value} {dn : List S82} {t : S82} (h : W.ownsRow base 82 3 v (dn ++ [t]).length (cells82 (dn ++ [t]))) : W.ownsRow base 82 3 v (dn.length + 1) (cells82 (dn ++ [t])) := by
  rw [List.length_append, List.length_cons, List.length_nil, Nat.zero_add] at h
  exact h
theorem Mq.at_ (h : Mq base W0 S0 Z Wk W Bm (.slice (some ⟨g, 0, none⟩) (dn.length + 1) c) d x (dn ++ [t]) dl xl a) (j : Nat) (hj : j < 3) :
    W.cell? ⟨g, dn.length * 3 + j, none⟩ = some (.int .i64 (getf t j)) ∧ W.frozen? ⟨g, dn.length * 3 + j, none⟩ = false := by
  refine ⟨?_, World.ownsRow.frozenAt (own_last h.m.rs) _⟩
  rw [World.ownsRow.cellAt (own_last h.m.rs) _ (by omega)]
  exact cells82_get dn t j hj
theorem Mq.poke (h : Mq base W0 S0 Z Wk W Bm (.slice (some ⟨g, 0, none⟩) (dn.length + 1) c) d x (dn ++ [t]) dl xl a) (j : Nat) (hj : j < 3) (v : Int) :
    Mq base W0 S0 Z Wk (W.setCell ⟨g, dn.length * 3 + j, none⟩ (.int .i64 v)) Bm (.slice (some ⟨g, 0, none⟩) (dn.length + 1) c) d x (dn ++ [setf t j v]) dl xl a := by
  have hgb : g ≠ Bm := by
    have := own_ne h.m.rs h.m.b (by decide)
    intro e
    exact this (by rw [e]; rfl)
  have hs := (World.ownsRow.stored (own_last h.m.rs) (dn.length * 3 + j) (.int .i64 v)).1
  rw [cells82_put dn t j hj v] at hs
  have hd := own_type_ne h.m.rd h.m.rs (by decide)
  have hx := own_type_ne h.m.rx h.m.rs (by decide)
  refine h.store (p := ⟨g, dn.length * 3 + j, none⟩) (.inr (.inl rfl)) (fun _ hk => hk) ⟨(Below.heap_setCell W _ _ Bm (Ne.symm hgb)).trans h.m.b, h.m.hb, by simpa using hs, ?_, ?_, h.m.ne⟩
  · refine own_setCell h.m.rd (p := ⟨g, dn.length * 3 + j, none⟩) (fun e => ?_) _
    rcases hd with hd | hd
    · rw [hd] at e; cases e
    · exact hd (by rw [← e]; rfl)
  · refine own_setCell h.m.rx (p := ⟨g, dn.length * 3 + j, none⟩) (fun e => ?_) _
    rcases hx with hx | hx
    · rw [hx] at e; cases e
    · exact hx (by rw [← e]; rfl)
theorem Mq.newS (h : Mq base W0 S0 Z Wk W Bm s d x sl dl xl a) (hn : sl.length ≤ 20000000) : ∃ A c w1,
    (Builtin.append_ #[27, 27] 27 #[s, .slice (some ⟨W.heap.size, 0, none⟩) 1 1]).run Try.prog (W.alloc (.cells #[.int .i64 0, .int .i64 0, .int .i64 0] 82)) = .ok (.slice A (sl.length + 1) c) w1 ∧
      w1.heap[Bm]? = some (.cells #[.int .i64 a.pos, s, d, x, .int .i64 a.sz, .int .i64 a.at_, .bool a.any] 86 (0, 0)) ∧ Mq base W0 S0 Z Wk (w1.setCell ⟨Bm, 1, none⟩ (.slice A (sl.length + 1) c)) Bm (.slice A (sl.length + 1) c) d x (sl ++ [⟨0, 0, 0⟩]) dl xl a := by
  have hba : Below W.heap.size W (W.alloc (.cells #[.int .i64 0, .int .i64 0, .int .i64 0] 82)) := (Below.refl _ _).alloc (Nat.le_refl _) _
  have h2 := h.below hba
  have hlit : Kd.C k82 (W.alloc (.cells #[.int .i64 0, .int .i64 0, .int .i64 0] 82)) (some ⟨W.heap.size, 0, none⟩) ([⟨0, 0, 0⟩] : List S82).length [⟨0, 0, 0⟩] := C82_lit (l := [⟨0, 0, 0⟩]) (blk_new W _) (by decide)
  obtain ⟨v', w1, hrun, ho, hg, hp, _⟩ := run_app (P := Try.prog) (W.alloc (.cells #[.int .i64 0, .int .i64 0, .int .i64 0] 82)) base 27 27 82 _ 3 24 elt82 s sl.length _ h2.m.rs (some ⟨W.heap.size, 0, none⟩) 1 1 (cells82 [⟨0, 0, 0⟩]) (src82 hlit) (by omega) h2.m.le
  rw [show cells82 sl ++ cells82 [⟨0, 0, 0⟩] = cells82 (sl ++ [⟨0, 0, 0⟩]) from (List.flatMap_append ..).symm] at ho
  obtain ⟨A, c, rfl⟩ := own_slice ho
  have hb1 := blk_grown h2.m.b hg (own_ne h2.m.rs h2.m.b (by decide))
  refine ⟨A, c, w1, hrun, hb1, ?_⟩
  have hnew : ∀ k, (Value.slice A (sl.length + 1) c).ownBlock = some k → s.ownBlock = some k ∨ W.heap.size ≤ k := by
    intro k hk
    rcases hp.block with e | e
    · rw [← e]; exact .inl hk
    · rw [e] at hk; cases hk; right; simp
  have e := blk_set hb1 1 (.slice A (sl.length + 1) c)
  have e' : (w1.setCell ⟨Bm, 1, none⟩ (.slice A (sl.length + 1) c)).heap[Bm]? = some (.cells #[.int .i64 a.pos, .slice A (sl.length + 1) c, d, x, .int .i64 a.sz, .int .i64 a.at_, .bool a.any] 86 (0, 0)) := by simpa using e
  have hrd := own_other h2.m.rd hg (own_type_ne h2.m.rd h2.m.rs (by decide))
  have hrx := own_other h2.m.rx hg (own_type_ne h2.m.rx h2.m.rs (by decide))
  have hko : KeepsOthers Wk w1 := h2.ko.trans (KeepsOthers.of_grownBy hg fun j o ej hj => by
    exact own_cells h2.m.rs ej hj)
  refine ⟨⟨e', h.m.hb, ?_, ?_, ?_, h.m.ne⟩, ?_, ?_, ?_, hko.trans (KeepsOthers.setCell _ _ _)⟩
  · rw [List.length_append]
    exact own_setCell ho (p := ⟨Bm, 1, none⟩) (own_ne ho hb1 (by decide)) _
  · exact own_setCell hrd (p := ⟨Bm, 1, none⟩) (own_ne hrd hb1 (by decide)) _
  · exact own_setCell hrx (p := ⟨Bm, 1, none⟩) (own_ne hrx hb1 (by decide)) _
  · refine Upd.setCell (h2.u.trans (S' := fun k => s.ownBlock = some k) (Upd.of_grown hg (fun k e => e)) (fun j hj hk => ?_)) _ (h.k Bm (.inl rfl)) _
    rcases h.k j (.inr (.inl hk)) with q | q
    · exact q
    · omega
  · intro k hk
    rcases hk with rfl | hk | hk | hk
    · exact h.k _ (.inl rfl)
    · rcases hnew k hk with q | q
      · exact h.k k (.inr (.inl q))
      · right
        have := h.u.size
        omega
    · exact h.k k (.inr (.inr (.inl hk)))
    · exact h.k k (.inr (.inr (.inr hk)))
  · intro q hq
    obtain ⟨z1, z2⟩ := h2.z q hq
    have z3 := blk_lt (h.z q hq).1
    have hne : q.1 ≠ Bm := fun e => z2 (.inl e)
    refine ⟨(Below.heap_setCell w1 _ _ q.1 hne).trans ((hg.block q.1 (blk_lt z1) (fun e => z2 (.inr (.inl e.symm)))).trans z1), fun hk => ?_⟩
    rcases hk with hk | hk | hk | hk
    · exact hne hk
    · rcases hnew _ hk with g | g
      · exact z2 (.inr (.inl g))
      · omega
    · exact z2 (.inr (.inr (.inl hk)))
    · exact z2 (.inr (.inr (.inr hk)))
theorem Mq.newD (h : Mq base W0 S0 Z Wk W Bm s d x sl dl xl a) (b : Int) (hn : dl.length ≤ 20000000) : ∃ A c w1,
    (Builtin.append_ #[24, 24] 24 #[d, .slice (some ⟨W.heap.size, 0, none⟩) 1 1]).run Try.prog (W.alloc (.cells #[.int .u8 b] 5)) = .ok (.slice A (dl.length + 1) c) w1 ∧
      w1.heap[Bm]? = some (.cells #[.int .i64 a.pos, s, d, x, .int .i64 a.sz, .int .i64 a.at_, .bool a.any] 86 (0, 0)) ∧ Mq base W0 S0 Z Wk (w1.setCell ⟨Bm, 2, none⟩ (.slice A (dl.length + 1) c)) Bm s (.slice A (dl.length + 1) c) x sl (dl ++ [b]) xl a := by
  have hba : Below W.heap.size W (W.alloc (.cells #[.int .u8 b] 5)) := (Below.refl _ _).alloc (Nat.le_refl _) _
  have h2 := h.below hba
  obtain ⟨v', w1, hrun, ho, hg, hp, _⟩ := run_app (P := Try.prog) (W.alloc (.cells #[.int .u8 b] 5)) base 24 24 5 (.int .u8 0) 1 1 eltB d dl.length _ h2.m.rd (some ⟨W.heap.size, 0, none⟩) 1 1 [.int .u8 b] (Src.one W _ _ rfl) (by omega) h2.m.le
  rw [show nums .u8 dl ++ [.int .u8 b] = nums .u8 (dl ++ [b]) by simp [nums]] at ho
  obtain ⟨A, c, rfl⟩ := own_slice ho
  have hb1 := blk_grown h2.m.b hg (own_ne h2.m.rd h2.m.b (by decide))
  refine ⟨A, c, w1, hrun, hb1, ?_⟩
  have hnew : ∀ k, (Value.slice A (dl.length + 1) c).ownBlock = some k → d.ownBlock = some k ∨ W.heap.size ≤ k := by
    intro k hk
    rcases hp.block with e | e
    · rw [← e]; exact .inl hk
    · rw [e] at hk; cases hk; right; simp
  have e := blk_set hb1 2 (.slice A (dl.length + 1) c)
  have e' : (w1.setCell ⟨Bm, 2, none⟩ (.slice A (dl.length + 1) c)).heap[Bm]? = some (.cells #[.int .i64 a.pos, s, .slice A (dl.length + 1) c, x, .int .i64 a.sz, .int .i64 a.at_, .bool a.any] 86 (0, 0)) := by simpa using e
  have hrs := own_other h2.m.rs hg (own_type_ne h2.m.rs h2.m.rd (by decide))
  have hro := own_other h2.m.rx hg (by
    cases hq : x.ownBlock with
    | none => exact .inl rfl
    | some g => exact .inr (fun e => h.m.ne g (by rw [← e]) hq))
  have hko : KeepsOthers Wk w1 := h2.ko.trans (KeepsOthers.of_grownBy hg fun j o ej hj => by
    exact own_cells h2.m.rd ej hj)
  have hlt := h.lt
  refine ⟨⟨e', h.m.hb, ?_, ?_, ?_, fun g hk hk2 => ?_⟩, ?_, ?_, ?_, hko.trans (KeepsOthers.setCell _ _ _)⟩
  · exact own_setCell hrs (p := ⟨Bm, 2, none⟩) (own_ne hrs hb1 (by decide)) _
  · rw [List.length_append]
    exact own_setCell ho (p := ⟨Bm, 2, none⟩) (own_ne ho hb1 (by decide)) _
  · exact own_setCell hro (p := ⟨Bm, 2, none⟩) (own_ne hro hb1 (by decide)) _
  · rcases hnew g hk with q | q
    · exact h.m.ne g q hk2
    · have := hlt g (.inr (.inr (.inr hk2)))
      omega
  · refine Upd.setCell (h2.u.trans (S' := fun k => d.ownBlock = some k) (Upd.of_grown hg (fun k e => e)) (fun j hj hk => ?_)) _ (h.k Bm (.inl rfl)) _
    rcases h.k j (.inr (.inr (.inl hk))) with q | q
    · exact q
    · omega
  · intro k hk
    rcases hk with rfl | hk | hk | hk
    · exact h.k _ (.inl rfl)
    · exact h.k k (.inr (.inl hk))
    · rcases hnew k hk with q | q
      · exact h.k k (.inr (.inr (.inl q)))
      · right
        have := h.u.size
        omega
    · exact h.k k (.inr (.inr (.inr hk)))
  · intro q hq
    obtain ⟨z1, z2⟩ := h2.z q hq
    have z3 := blk_lt (h.z q hq).1
    have hne : q.1 ≠ Bm := fun e => z2 (.inl e)
    refine ⟨(Below.heap_setCell w1 _ _ q.1 hne).trans ((hg.block q.1 (blk_lt z1) (fun e => z2 (.inr (.inr (.inl e.symm))))).trans z1), fun hk => ?_⟩
    rcases hk with hk | hk | hk | hk
    · exact hne hk
    · exact z2 (.inr (.inl hk))
    · rcases hnew _ hk with g | g
      · exact z2 (.inr (.inr (.inl g)))
      · omega
    · exact z2 (.inr (.inr (.inr hk)))
theorem Mq.newX (h : Mq base W0 S0 Z Wk W Bm s d x sl dl xl a) (b : Int) (hn : xl.length ≤ 20000000) : ∃ A c w1,
    (Builtin.append_ #[24, 24] 24 #[x, .slice (some ⟨W.heap.size, 0, none⟩) 1 1]).run Try.prog (W.alloc (.cells #[.int .u8 b] 5)) = .ok (.slice A (xl.length + 1) c) w1 ∧
      w1.heap[Bm]? = some (.cells #[.int .i64 a.pos, s, d, x, .int .i64 a.sz, .int .i64 a.at_, .bool a.any] 86 (0, 0)) ∧ Mq base W0 S0 Z Wk (w1.setCell ⟨Bm, 3, none⟩ (.slice A (xl.length + 1) c)) Bm s d (.slice A (xl.length + 1) c) sl dl (xl ++ [b]) a := by
  have hba : Below W.heap.size W (W.alloc (.cells #[.int .u8 b] 5)) := (Below.refl _ _).alloc (Nat.le_refl _) _
  have h2 := h.below hba
  obtain ⟨v', w1, hrun, ho, hg, hp, _⟩ := run_app (P := Try.prog) (W.alloc (.cells #[.int .u8 b] 5)) base 24 24 5 (.int .u8 0) 1 1 eltB x xl.length _ h2.m.rx (some ⟨W.heap.size, 0, none⟩) 1 1 [.int .u8 b] (Src.one W _ _ rfl) (by omega) h2.m.le
  rw [show nums .u8 xl ++ [.int .u8 b] = nums .u8 (xl ++ [b]) by simp [nums]] at ho
  obtain ⟨A, c, rfl⟩ := own_slice ho
  have hb1 := blk_grown h2.m.b hg (own_ne h2.m.rx h2.m.b (by decide))
  refine ⟨A, c, w1, hrun, hb1, ?_⟩
  have hnew : ∀ k, (Value.slice A (xl.length + 1) c).ownBlock = some k → x.ownBlock = some k ∨ W.heap.size ≤ k := by
    intro k hk
    rcases hp.block with e | e
    · rw [← e]; exact .inl hk
    · rw [e] at hk; cases hk; right; simp
  have e := blk_set hb1 3 (.slice A (xl.length + 1) c)
  have e' : (w1.setCell ⟨Bm, 3, none⟩ (.slice A (xl.length + 1) c)).heap[Bm]? = some (.cells #[.int .i64 a.pos, s, d, .slice A (xl.length + 1) c, .int .i64 a.sz, .int .i64 a.at_, .bool a.any] 86 (0, 0)) := by simpa using e
  have hrs := own_other h2.m.rs hg (own_type_ne h2.m.rs h2.m.rx (by decide))
  have hro := own_other h2.m.rd hg (by
    cases hq : d.ownBlock with
    | none => exact .inl rfl
    | some g => exact .inr (fun e => h.m.ne g hq (by rw [← e])))
  have hko : KeepsOthers Wk w1 := h2.ko.trans (KeepsOthers.of_grownBy hg fun j o ej hj => by
    exact own_cells h2.m.rx ej hj)
  have hlt := h.lt
  refine ⟨⟨e', h.m.hb, ?_, ?_, ?_, fun g hk hk2 => ?_⟩, ?_, ?_, ?_, hko.trans (KeepsOthers.setCell _ _ _)⟩
  · exact own_setCell hrs (p := ⟨Bm, 3, none⟩) (own_ne hrs hb1 (by decide)) _
  · exact own_setCell hro (p := ⟨Bm, 3, none⟩) (own_ne hro hb1 (by decide)) _
  · rw [List.length_append]
    exact own_setCell ho (p := ⟨Bm, 3, none⟩) (own_ne ho hb1 (by decide)) _
  · rcases hnew g hk2 with q | q
    · exact h.m.ne g hk q
    · have := hlt g (.inr (.inr (.inl hk)))
      omega
  · refine Upd.setCell (h2.u.trans (S' := fun k => x.ownBlock = some k) (Upd.of_grown hg (fun k e => e)) (fun j hj hk => ?_)) _ (h.k Bm (.inl rfl)) _
    rcases h.k j (.inr (.inr (.inr hk))) with q | q
    · exact q
    · omega
  · intro k hk
    rcases hk with rfl | hk | hk | hk
    · exact h.k _ (.inl rfl)
    · exact h.k k (.inr (.inl hk))
    · exact h.k k (.inr (.inr (.inl hk)))
    · rcases hnew k hk with q | q
      · exact h.k k (.inr (.inr (.inr q)))
      · right
        have := h.u.size
        omega
  · intro q hq
    obtain ⟨z1, z2⟩ := h2.z q hq
    have z3 := blk_lt (h.z q hq).1
    have hne : q.1 ≠ Bm := fun e => z2 (.inl e)
    refine ⟨(Below.heap_setCell w1 _ _ q.1 hne).trans ((hg.block q.1 (blk_lt z1) (fun e => z2 (.inr (.inr (.inr e.symm))))).trans z1), fun hk => ?_⟩
    rcases hk with hk | hk | hk | hk
    · exact hne hk
    · exact z2 (.inr (.inl hk))
    · exact z2 (.inr (.inr (.inl hk)))
    · rcases hnew _ hk with g | g
      · exact z2 (.inr (.inr (.inr g)))
      · omega
theorem Mq.cells (h : Mq base W0 S0 Z Wk W Bm s d x sl dl xl a) : W.cell? ⟨Bm, 0, none⟩ = some (.int .i64 a.pos) ∧ W.cell? ⟨Bm, 1, none⟩ = some s ∧ W.cell? ⟨Bm, 2, none⟩ = some d ∧ W.cell? ⟨Bm, 3, none⟩ = some x ∧ W.cell? ⟨Bm, 4, none⟩ = some (.int .i64 a.sz) ∧ W.cell? ⟨Bm, 5, none⟩ = some (.int .i64 a.at_) ∧ W.cell? ⟨Bm, 6, none⟩ = some (.bool a.any) :=
  ⟨(blk_cell h.m.b 0).trans rfl, (blk_cell h.m.b 1).trans rfl, (blk_cell h.m.b 2).trans rfl, (blk_cell h.m.b 3).trans rfl, (blk_cell h.m.b 4).trans rfl, (blk_cell h.m.b 5).trans rfl, (blk_cell h.m.b 6).trans rfl⟩
theorem Mq.froz (h : Mq base W0 S0 Z Wk W Bm s d x sl dl xl a) : W.frozen? ⟨Bm, 0, none⟩ = false ∧ W.frozen? ⟨Bm, 1, none⟩ = false ∧ W.frozen? ⟨Bm, 2, none⟩ = false ∧ W.frozen? ⟨Bm, 3, none⟩ = false ∧ W.frozen? ⟨Bm, 4, none⟩ = false ∧ W.frozen? ⟨Bm, 5, none⟩ = false ∧ W.frozen? ⟨Bm, 6, none⟩ = false :=
  ⟨blk_frozen h.m.b 0, blk_frozen h.m.b 1, blk_frozen h.m.b 2, blk_frozen h.m.b 3, blk_frozen h.m.b 4, blk_frozen h.m.b 5, blk_frozen h.m.b 6⟩
theorem Mq.box {k : Nat} {v0 v1 v2 : Value} {ty : TypeId} (h : Mq base W0 S0 ((k, .cells #[v0, v1, v2] ty) :: Z) Wk W Bm s d x sl dl xl a) : W.cell? ⟨k, 0, none⟩ = some v0 ∧ W.cell? ⟨k, 1, none⟩ = some v1 ∧ W.cell? ⟨k, 2, none⟩ = some v2 := by
  have hz := (h.z _ List.mem_cons_self).1
  exact ⟨(blk_cell hz 0).trans rfl, (blk_cell hz 1).trans rfl, (blk_cell hz 2).trans rfl⟩
theorem Mq.bmlt (h : Mq base W0 S0 Z Wk W Bm s d x sl dl xl a) : Bm < W.heap.size := blk_lt h.m.b
theorem Mq.slice (h : Mq base W0 S0 Z Wk W Bm s d x sl dl xl a) : ∃ A c, s = .slice A sl.length c := own_slice h.m.rs
end
end Go.Proofs.Ytinlfoblpgpikaa
namespace Go.Proofs.Ytinlfoblpgpikaa
open Go.RowKit Go.Shelf Go.Proofs.YtinlfoblpgpikaaW.PrintWords Go.Proofs.YtinlfoblpgpikaaW.PrintLast Go.Proofs.YtinlfoblpgpikaaW.PrintMore Go.Proofs.Ytinlfoblpgpikaa.Pr
section
set_option linter.unusedVariables false
set_option linter.unusedSimpArgs false
attribute [local go_sem] Oper.semAt_some
/-- Of a fence the functions alone. -/
@[reducible] def FN (p : FuncId → Prop) : Fence := { fn := p, depth := none, alive := false, round := none }
/-- A way as the program has it: added, place, byte. -/
def enc91 (o : S94) : Value := .agg #[.bool o.f0, .int .i64 o.f1, .int .u8 o.f2]
set_option maxHeartbeats 8000000 in
theorem ways1_in (p : FuncId → Prop) (hF : p 61) (l Be n1 : Nat) (A0 : Option Addr) (c0 : Nat) (st : List S82) (A1 : Option Addr) (c1 : Nat) (d : List Int) (A2 : Option Addr) (c2 : Nat) (x : List Int)
    (J : List (Nat × Obj) → Nat → World → Prop) (Jx : World → Prop) (Jp : List PanicEntry → World → Prop) (hm : st.all may = true) (hda : sA st = d.length) (hxc : sC st = x.length) (hdl : d.length ≤ 16777216) (hxl : x.length ≤ 16777216)
    (hR : ∀ X i W, J X i W → EdB W Be A0 c0 st A1 c1 d A2 c2 x ∧ ∀ p ∈ X, W.heap[p.1]? = some p.2) (hG : ∀ X i W o, o.isCells = true → J X i W → J ((W.heap.size, o) :: X) i (W.alloc o)) (hst : ∀ X i W W', J X i W → Bk n1 W W' → J X i W')
    (hY : ∀ X i W, i < (og st d x 0).length → J X i W → YieldAt (FN p) 0 Try.prog l #[enc91 ((og st d x 0).getD i z94)] W (RoundGives (J X) Jx Jp i)) (W : World) (h0 : J [] 0 W) :
    CallsIn (FN p) 0 Try.prog 61 #[.func (.yield l) #[] #[], .pointer (some ⟨Be, 0, none⟩)] W (IterGives (fun i W => ∃ X, J X i W) Jx Jp (og st d x 0).length) := by
  obtain ⟨L, hL⟩ : ∃ L, og st d x 0 = L := ⟨_, rfl⟩
  have HS : Hd (L = og st d x 0) := ⟨hL.symm⟩
  rw [hL] at hY ⊢
  have HY := Hd.mk hY
  have HR := Hd.mk hR
  have HG := Hd.mk hG
  have HST := Hd.mk hst
  have HJ0 := Hd.mk h0
  have HM := Hd.mk hm
  have HDA := Hd.mk hda
  have HXC := Hd.mk hxc
  have hr := (HR.out _ _ _ h0).1
  have cb0 := blk_cell hr.b 0
  simp at cb0
  have HB := Hd.mk hr
  clear hY hR hst h0 hL hm hda hxc hG hr
  refine callsIn_of_wp Try.func61 rfl hF ?_ rfl
  simp only [Try.ntmps61, List.size_toArray, List.length_cons, List.length_nil, Nat.reduceAdd, Nat.reduceSub, Array.replicate_succ, Array.replicate_zero, List.push_toArray, List.append_toArray, List.nil_append, List.cons_append]
  gi_wp2
  gi_loopw [3, 4, 5, 11] (fun y3 y4 y5 y11 wr => ∃ (i pz kd kx : Nat) (a : Int) (X : List (Nat × Obj)), y3 = .int .i64 (wrap64 a) ∧ y4 = .int .i64 kd ∧ y5 = .int .i64 kx ∧ y11 = .int .i64 i ∧ i ≤ st.length ∧ kd ≤ d.length ∧ kx ≤ x.length ∧ pz ≤ L.length ∧
    Hd (L.drop pz = og (st.drop i) (d.drop kd) (x.drop kx) a) ∧ Hd (sA (st.drop i) = (d.drop kd).length) ∧ Hd (sC (st.drop i) = (x.drop kx).length) ∧ Hd (J X pz wr)) (fun _ _ _ y _ => st.length - (intOf y).toNat)
  case atStart => exact ⟨0, 0, 0, 0, 0, [], (by rw [w64 0 (by omega)]), rfl, rfl, rfl, by omega, by omega, by omega, by omega, ⟨by rw [List.drop_zero, List.drop_zero, List.drop_zero, List.drop_zero, HS.out]⟩, ⟨HDA.out⟩, ⟨HXC.out⟩, HJ0⟩
  case round =>
    obtain ⟨i, pz, kd, kx, a, X, rfl, rfl, rfl, rfl, hi, hkd, hkx, hpz, HL, Hda, Hxc, HJ⟩ := hrel
    have hr := (HR.out _ _ _ HJ.out).1
    by_cases hlt : i < st.length
    · obtain ⟨ad, e, hx0, hx1, hx2⟩ := at_T82 hr.r.s (i : Int) (by omega) (by omega)
      subst e
      have hd := drop_rd st i hlt
      have hmi : may (rd_T82 st i) = true := by
        have := all_drop HM.out i
        rw [hd, List.all_cons, Bool.and_eq_true] at this
        exact this.1
      obtain ⟨⟨f0, f1, f2⟩, hs⟩ : ∃ s, rd_T82 st i = s := ⟨_, rfl⟩
      rw [hs] at hx0 hx1 hx2 hd hmi
      simp only [Int.toNat_natCast] at hx0 hx1 hx2
      have Hmi := Hd.mk hmi
      have Hdd := Hd.mk hd
      clear hd hmi hr hs
      gi_wp2
      obtain ⟨o82, ho⟩ : ∃ o, (Obj.cells #[.int .i64 f0, .int .i64 f1, .int .i64 f2] 82) = o := ⟨_, rfl⟩
      have HJz := Hd.mk (HG.out X pz wr o82 (by rw [← ho]; rfl) HJ.out)
      rw [ho]
      obtain ⟨wz, hwz⟩ : ∃ w, wr.alloc o82 = w := ⟨_, rfl⟩
      rw [hwz] at HJz ⊢
      obtain ⟨X', hX⟩ : ∃ X', (wr.heap.size, o82) :: X = X' := ⟨_, rfl⟩
      rw [hX] at HJz
      have hmem : (wr.heap.size, o82) ∈ X' := by rw [← hX]; exact List.mem_cons_self
      obtain ⟨b7, hb7⟩ : ∃ b, wr.heap.size = b := ⟨_, rfl⟩
      rw [hb7] at hmem ⊢
      have HBX : Hd (∀ i W, J X' i W → W.heap[b7]? = some (.cells #[.int .i64 f0, .int .i64 f1, .int .i64 f2] 82 (0, 0))) := ⟨fun i W h => by have := (HR.out _ _ _ h).2 _ hmem; rw [← ho] at this; exact this⟩
      have HSA := Hd.mk (show f0 + sA (st.drop (i + 1)) = (d.drop kd).length by rw [← Hda.out, Hdd.out]; rfl)
      have HSC := Hd.mk (show f1 + sC (st.drop (i + 1)) = (x.drop kx).length by rw [← Hxc.out, Hdd.out]; rfl)
      have HLr := Hd.mk (show L.drop pz = ogr f0.toNat f1.toNat f2 (st.drop (i + 1)) (d.drop kd) (x.drop kx) a by rw [HL.out, Hdd.out, og_cons])
      have hmm := (may_iff _).1 Hmi.out
      simp only at hmm
      have HAn := Hd.mk (sA_nn _ (all_drop HM.out (i + 1)))
      have HCn := Hd.mk (sC_nn _ (all_drop HM.out (i + 1)))
      obtain ⟨n0, hn0⟩ := Int.eq_ofNat_of_zero_le hmm.1
      obtain ⟨m0, hm0⟩ := Int.eq_ofNat_of_zero_le hmm.2.2.1
      subst hn0
      subst hm0
      simp only [Int.toNat_natCast] at HLr
      have hn1 : n0 ≤ 16777216 := by omega
      have hm1 : m0 ≤ 16777216 := by omega
      have HF2 := Hd.mk hmm.2.2.2.2
      have HJB := Hd.mk (HBX.out _ _ HJz.out)
      have cb7 := blk_cell HJB.out 0
      simp at cb7
      clear hX hwz ho hb7 hmem hx0 hx1 hx2 Hmi hmm HL HJ Hda Hxc cb0
      gi_wp2
      gi_loopw [3, 4, 17] (fun y3 y4 y17 wr => ∃ (q pq ke : Nat) (b : Int), y3 = .int .i64 (wrap64 b) ∧ y4 = .int .i64 ke ∧ y17 = .int .i64 q ∧ q ≤ n0 ∧ ke ≤ d.length ∧ pq ≤ L.length ∧ Hd (L.drop pq = ogr (n0 - q) m0 f2 (st.drop (i + 1)) (d.drop ke) (x.drop kx) b) ∧
        Hd (((n0 - q : Nat) : Int) + sA (st.drop (i + 1)) = (d.drop ke).length) ∧ Hd (J X' pq wr)) (fun _ _ y _ => n0 - (intOf y).toNat)
      case atStart => exact ⟨0, pz, kd, a, rfl, rfl, rfl, by omega, hkd, hpz, ⟨by rw [HLr.out]; rfl⟩, ⟨HSA.out⟩, HJz⟩
      case round =>
        clear HLr HSA HJz HJB cb7
        obtain ⟨q, pq, ke, b, rfl, rfl, rfl, hq, hke, hpq, HL, HSA, HJ⟩ := hrel
        by_cases hqn : q < n0
        · have hlk : ke < d.length := by
            have h1 := HSA.out
            have h2 := HAn.out
            rw [List.length_drop] at h1
            omega
          obtain ⟨n2, hn2⟩ : ∃ n2, n0 - q = n2 + 1 := ⟨n0 - q - 1, by omega⟩
          have hL := HL.out
          rw [hn2, List.drop_eq_getElem_cons hlk, ogr_add] at hL
          have hlt2 : pq < L.length := by
            rcases Nat.lt_or_ge pq L.length with h | h
            · exact h
            · rw [List.drop_eq_nil_of_le h] at hL; cases hL
          rw [List.drop_eq_getElem_cons hlt2] at hL
          have hg : L.getD pq z94 = ⟨true, wrap64 b, d[ke]⟩ := by
            rw [List.getD_eq_getElem?_getD, List.getElem?_eq_getElem hlt2, Option.getD_some]
            exact (List.cons.inj hL).1
          have HL2 := Hd.mk (List.cons.inj hL).2
          have hr := (HR.out _ _ _ HJ.out).1
          obtain ⟨ad1, e1, hc1⟩ := Kd.at_int hr.r.di (ke : Int) (by omega) (by omega)
          subst e1
          have hrd : rd d (ke : Int) = d[ke] := by simp [rd, List.getD_eq_getElem?_getD, List.getElem?_eq_getElem hlk]
          rw [hrd, Int.toNat_natCast] at hc1
          obtain ⟨b0, hb0⟩ : ∃ z, d[ke] = z := ⟨_, rfl⟩
          rw [hb0] at hc1 hg
          have cb1 := blk_cell hr.b 1
          simp at cb1
          obtain ⟨fn, tmps, assign, body, hy, hRd⟩ := HY.out _ pq _ hlt2 HJ.out
          rw [hg] at hy
          dsimp only [enc91] at hy
          have HRd := Hd.mk hRd
          have hlp : decide ((ke : Int) < (d.length : Int)) = true := decide_eq_true (by omega)
          have hln : decide ((0 : Int) ≤ (ke : Int)) = true := decide_eq_true (by omega)
          clear hg hL hr HL hRd hrd hb0
          gi_wp2
          refine HRd.out.mono ?_
          rintro e W3 (⟨rfl, hJ3⟩ | ⟨rfl, hJx⟩ | ⟨ch, rfl, hJp⟩)
          · have HJ3 := Hd.mk hJ3
            clear hJ3 HRd hy hc1 cb1
            gi_wp2
            have hsl := HSA.out
            rw [List.length_drop] at hsl
            refine ⟨⟨q + 1, pq + 1, ke + 1, b + 1, by rw [w64_add], by go_num, by go_num, by omega, by omega, by omega, ⟨by rw [HL2.out, show n0 - (q + 1) = n2 by omega]⟩, ⟨by rw [List.length_drop]; omega⟩, HJ3⟩, by simp [intOf]; omega⟩
          · gi_wp2
            refine bodyPost_ret (results_none rfl _ _ _) rfl ?_
            exact .inl ⟨_, rfl, .inr hJx⟩
          · exact ⟨rfl, .inr ⟨ch, rfl, hJp⟩⟩
        · obtain rfl : q = n0 := by omega
          rw [Nat.sub_self] at HL HSA
          have HJB := Hd.mk (HBX.out _ _ HJ.out)
          have cb7 := blk_cell HJB.out 1
          simp at cb7
          gi_wp2
          gi_loopw [5, 36] (fun y5 y36 wr => ∃ (q pq ky : Nat), y5 = .int .i64 ky ∧ y36 = .int .i64 q ∧ q ≤ m0 ∧ ky ≤ x.length ∧ pq ≤ L.length ∧ Hd (L.drop pq = ogr 0 (m0 - q) f2 (st.drop (i + 1)) (d.drop ke) (x.drop ky) b) ∧
            Hd (((m0 - q : Nat) : Int) + sC (st.drop (i + 1)) = (x.drop ky).length) ∧ Hd (J X' pq wr)) (fun _ y _ => m0 - (intOf y).toNat)
          case atStart => exact ⟨0, pq, kx, rfl, rfl, by omega, hkx, hpq, ⟨by rw [HL.out]; rfl⟩, ⟨HSC.out⟩, HJ⟩
          case round =>
            clear HL HSC HJ cb7 HJB hpq
            obtain ⟨q, pq, ky, rfl, rfl, hq, hky, hpq, HL, HSC, HJ⟩ := hrel
            by_cases hqn : q < m0
            · have hlk : ky < x.length := by
                have h1 := HSC.out
                have h2 := HCn.out
                rw [List.length_drop] at h1
                omega
              obtain ⟨n2, hn2⟩ : ∃ n2, m0 - q = n2 + 1 := ⟨m0 - q - 1, by omega⟩
              have hL := HL.out
              rw [hn2, List.drop_eq_getElem_cons hlk, ogr_copy] at hL
              have hlt2 : pq < L.length := by
                rcases Nat.lt_or_ge pq L.length with h | h
                · exact h
                · rw [List.drop_eq_nil_of_le h] at hL; cases hL
              rw [List.drop_eq_getElem_cons hlt2] at hL
              have hg : L.getD pq z94 = ⟨false, 0, x[ky]⟩ := by
                rw [List.getD_eq_getElem?_getD, List.getElem?_eq_getElem hlt2, Option.getD_some]
                exact (List.cons.inj hL).1
              have HL2 := Hd.mk (List.cons.inj hL).2
              have hr := (HR.out _ _ _ HJ.out).1
              obtain ⟨ad1, e1, hc1⟩ := Kd.at_int hr.r.ex (ky : Int) (by omega) (by omega)
              subst e1
              have hrd : rd x (ky : Int) = x[ky] := by simp [rd, List.getD_eq_getElem?_getD, List.getElem?_eq_getElem hlk]
              rw [hrd, Int.toNat_natCast] at hc1
              obtain ⟨b0, hb0⟩ : ∃ z, x[ky] = z := ⟨_, rfl⟩
              rw [hb0] at hc1 hg
              have cb2 := blk_cell hr.b 2
              simp at cb2
              obtain ⟨fn, tmps, assign, body, hy, hRd⟩ := HY.out _ pq _ hlt2 HJ.out
              rw [hg] at hy
              dsimp only [enc91] at hy
              have HRd := Hd.mk hRd
              have hlp : decide ((ky : Int) < (x.length : Int)) = true := decide_eq_true (by omega)
              have hln : decide ((0 : Int) ≤ (ky : Int)) = true := decide_eq_true (by omega)
              clear hg hL hr HL hRd hrd hb0
              gi_wp2
              refine HRd.out.mono ?_
              rintro e W3 (⟨rfl, hJ3⟩ | ⟨rfl, hJx⟩ | ⟨ch, rfl, hJp⟩)
              · have HJ3 := Hd.mk hJ3
                clear hJ3 HRd hy hc1 cb2
                gi_wp2
                have hsl := HSC.out
                rw [List.length_drop] at hsl
                refine ⟨⟨q + 1, pq + 1, ky + 1, by go_num, by go_num, by omega, by omega, by omega, ⟨by rw [HL2.out, show m0 - (q + 1) = n2 by omega]⟩, ⟨by rw [List.length_drop]; omega⟩, HJ3⟩, by simp [intOf]; omega⟩
              · gi_wp2
                refine bodyPost_ret (results_none rfl _ _ _) rfl ?_
                exact .inl ⟨_, rfl, .inr hJx⟩
              · exact ⟨rfl, .inr ⟨ch, rfl, hJp⟩⟩
            · obtain rfl : q = m0 := by omega
              rw [Nat.sub_self] at HL HSC
              have HJB := Hd.mk (HBX.out _ _ HJ.out)
              have cb7 := blk_cell HJB.out 2
              simp at cb7
              have hfit : st.length ≤ 9223372036854775807 := HB.out.r.s.2.1
              gi_wp2
              rw [w64_add]
              exact ⟨⟨i + 1, pq, ke, ky, b + f2, X', rfl, rfl, rfl, by go_num, by omega, by omega, by omega, by omega, ⟨by rw [HL.out, ogr_end]⟩, ⟨by have := HSA.out; simpa using this⟩, ⟨by have := HSC.out; simpa using this⟩, HJ⟩, by simp [intOf]; omega⟩
    · obtain rfl : i = st.length := by omega
      have hLe := HL.out
      rw [List.drop_length] at hLe
      have hpe : pz = L.length := by
        have := List.drop_eq_nil_iff.1 (show L.drop pz = [] from hLe)
        omega
      subst hpe
      clear hLe hr
      gi_wp2
      go_end0
      exact .inl ⟨_, rfl, .inl ⟨X, HJ.out⟩⟩
end
end Go.Proofs.Ytinlfoblpgpikaa
namespace Go.Proofs.Ytinlfoblpgpikaa
open Go.RowKit Go.Shelf Go.Proofs.YtinlfoblpgpikaaW.PrintWords Go.Proofs.YtinlfoblpgpikaaW.PrintLast Go.Proofs.YtinlfoblpgpikaaW.PrintMore Go.Proofs.Ytinlfoblpgpikaa.Pr
section
set_option linter.unusedVariables false
set_option linter.unusedSimpArgs false
attribute [local go_sem] Oper.semAt_some
/-- An origin as the program has it: own, place, byte. -/
def enc89 (o : S94) : Value := .agg #[.bool (!o.f0), .int .i64 o.f1, .int .u8 o.f2]
/-- A part of a row, to its end. -/
structure Sfx (A : Option Addr) (l : List Int) (A' : Option Addr) (c' : Nat) (l' : List Int) : Prop where
  hc : l'.length ≤ c'
  at_ : ∀ W, Kd.C (Kd.int .u8) W A l.length l → Kd.C (Kd.int .u8) W A' l'.length l'
theorem Sfx.refl {A : Option Addr} {c : Nat} {l : List Int} (h : l.length ≤ c) : Sfx A l A c l := ⟨h, fun _ h => h⟩
theorem Sfx.tail {A : Option Addr} {l : List Int} {A' : Option Addr} {c' : Nat} {b : Int} {l' : List Int} (h : Sfx A l A' c' (b :: l')) : Sfx A l (if c' = 1 then A' else A'.map (·.add 1)) (c' - 1) l' :=
  ⟨by have := h.hc; simp at this; omega, fun W hW => by
    have := Kd.C_drop (h.at_ W hW) (m := 1) (by simp) h.hc
    simpa [Kd.int, Kd.scalar] using this⟩
theorem Sfx.head {A : Option Addr} {l : List Int} {A' : Option Addr} {c' : Nat} {b : Int} {l' : List Int} {W : World} (h : Sfx A l A' c' (b :: l')) (hW : Kd.C (Kd.int .u8) W A l.length l) : ∃ ad, A' = some ad ∧ W.cell? ad = some (.int .u8 b) := by
  obtain ⟨ad, e, hc⟩ := Kd.at_int (h.at_ W hW) 0 (by omega) (by simp)
  exact ⟨ad, e, by simpa [rd, Addr.add] using hc⟩
set_option maxHeartbeats 8000000 in
theorem org1_in (p : FuncId → Prop) (hF : p 68) (l Be n1 : Nat) (A0 : Option Addr) (c0 : Nat) (st : List S82) (A1 : Option Addr) (c1 : Nat) (d : List Int) (A2 : Option Addr) (c2 : Nat) (x : List Int)
    (J : List (Nat × Obj) → Nat → World → Prop) (Jx : World → Prop) (Jp : List PanicEntry → World → Prop) (hm : st.all may = true) (hda : sA st = d.length) (hxc : sC st = x.length)
    (hR : ∀ X i W, J X i W → EdB W Be A0 c0 st A1 c1 d A2 c2 x ∧ ∀ p ∈ X, W.heap[p.1]? = some p.2) (hG : ∀ X i W o, o.isCells = true → J X i W → J ((W.heap.size, o) :: X) i (W.alloc o)) (hst : ∀ X i W W', J X i W → Bk n1 W W' → J X i W')
    (hY : ∀ X i W, i < (og st d x 0).length → J X i W → YieldAt (FN p) 0 Try.prog l #[enc89 ((og st d x 0).getD i z94)] W (RoundGives (J X) Jx Jp i)) (W : World) (h0 : J [] 0 W) :
    CallsIn (FN p) 0 Try.prog 68 #[.func (.yield l) #[] #[], .pointer (some ⟨Be, 0, none⟩)] W (IterGives (fun i W => ∃ X, J X i W) Jx Jp (og st d x 0).length) := by
  obtain ⟨L, hL⟩ : ∃ L, og st d x 0 = L := ⟨_, rfl⟩
  have HS : Hd (L = og st d x 0) := ⟨hL.symm⟩
  rw [hL] at hY ⊢
  have HY := Hd.mk hY
  have HR := Hd.mk hR
  have HG := Hd.mk hG
  have HST := Hd.mk hst
  have HJ0 := Hd.mk h0
  have HM := Hd.mk hm
  have HDA := Hd.mk hda
  have HXC := Hd.mk hxc
  have hr := (HR.out _ _ _ h0).1
  have cb0 := blk_cell hr.b 0
  have cb1 := blk_cell hr.b 1
  have cb2 := blk_cell hr.b 2
  simp at cb0 cb1 cb2
  have HB := Hd.mk hr
  clear hY hR hst h0 hL hm hda hxc hG hr
  refine callsIn_of_wp Try.func68 rfl hF ?_ rfl
  simp only [Try.ntmps68, List.size_toArray, List.length_cons, List.length_nil, Nat.reduceAdd, Nat.reduceSub, Array.replicate_succ, Array.replicate_zero, List.push_toArray, List.append_toArray, List.nil_append, List.cons_append]
  gi_wp2
  gi_region
  have HJ1 := Hd.mk (HST.out _ _ _ _ HJ0.out (Bk.of_below (Below.drew' W)))
  gi_wp2
  gi_loopw [3, 4, 5, 15] (fun y3 y4 y5 y15 wr => ∃ (i pz : Nat) (a : Int) (A' : Option Addr) (c' : Nat) (d' : List Int) (A'' : Option Addr) (c'' : Nat) (x' : List Int) (X : List (Nat × Obj)), y3 = .int .i64 (wrap64 a) ∧ y4 = .slice A' d'.length c' ∧ y5 = .slice A'' x'.length c'' ∧ y15 = .int .i64 i ∧ i ≤ st.length ∧ Hd (L.drop pz = og (st.drop i) d' x' a) ∧ pz ≤ L.length ∧ Hd (Sfx A1 d A' c' d') ∧ Hd (Sfx A2 x A'' c'' x') ∧ Hd (sA (st.drop i) = d'.length) ∧ Hd (sC (st.drop i) = x'.length) ∧ Hd (J X pz wr)) (fun _ _ _ y _ => st.length - (intOf y).toNat)
  case atStart => exact ⟨0, 0, 0, A1, c1, d, A2, c2, x, [], (by rw [w64 0 (by omega)]), rfl, rfl, rfl, by omega, ⟨by rw [List.drop_zero, List.drop_zero, HS.out]⟩, by omega, ⟨Sfx.refl HB.out.r.hd⟩, ⟨Sfx.refl HB.out.r.hx⟩, ⟨HDA.out⟩, ⟨HXC.out⟩, HJ1⟩
  case round =>
    obtain ⟨i, pz, a, A', c', d', A'', c'', x', X, rfl, rfl, rfl, rfl, hi, HL, hpz, HSd, HSx, Hda, Hxc, HJ⟩ := hrel
    have hr := (HR.out _ _ _ HJ.out).1
    have cb0 := blk_cell hr.b 0
    simp at cb0
    by_cases hlt : i < st.length
    · obtain ⟨ad, e, hx0, hx1, hx2⟩ := at_T82 hr.r.s (i : Int) (by omega) (by omega)
      subst e
      have hd := drop_rd st i hlt
      have hmi : may (rd_T82 st i) = true := by
        have := all_drop HM.out i
        rw [hd, List.all_cons, Bool.and_eq_true] at this
        exact this.1
      obtain ⟨⟨f0, f1, f2⟩, hs⟩ : ∃ s, rd_T82 st i = s := ⟨_, rfl⟩
      rw [hs] at hx0 hx1 hx2 hd hmi
      simp only [Int.toNat_natCast] at hx0 hx1 hx2
      have Hmi := Hd.mk hmi
      have Hdd := Hd.mk hd
      clear hd hmi hr hs
      gi_wp2
      obtain ⟨o82, ho⟩ : ∃ o, (Obj.cells #[.int .i64 f0, .int .i64 f1, .int .i64 f2] 82) = o := ⟨_, rfl⟩
      have HJz := Hd.mk (HG.out X pz wr o82 (by rw [← ho]; rfl) HJ.out)
      rw [ho]
      obtain ⟨wz, hwz⟩ : ∃ w, wr.alloc o82 = w := ⟨_, rfl⟩
      rw [hwz] at HJz ⊢
      obtain ⟨X', hX⟩ : ∃ X', (wr.heap.size, o82) :: X = X' := ⟨_, rfl⟩
      rw [hX] at HJz
      have hmem : (wr.heap.size, o82) ∈ X' := by rw [← hX]; exact List.mem_cons_self
      obtain ⟨b7, hb7⟩ : ∃ b, wr.heap.size = b := ⟨_, rfl⟩
      rw [hb7] at hmem ⊢
      have HBX : Hd (∀ i W, J X' i W → W.heap[b7]? = some (.cells #[.int .i64 f0, .int .i64 f1, .int .i64 f2] 82 (0, 0))) := ⟨fun i W h => by have := (HR.out _ _ _ h).2 _ hmem; rw [← ho] at this; exact this⟩
      have HSA := Hd.mk (show f0 + sA (st.drop (i + 1)) = d'.length by rw [← Hda.out, Hdd.out]; rfl)
      have HSC := Hd.mk (show f1 + sC (st.drop (i + 1)) = x'.length by rw [← Hxc.out, Hdd.out]; rfl)
      have HLr := Hd.mk (show L.drop pz = ogr f0.toNat f1.toNat f2 (st.drop (i + 1)) d' x' a by rw [HL.out, Hdd.out, og_cons])
      have hmm := (may_iff _).1 Hmi.out
      simp only at hmm
      have HAn := Hd.mk (sA_nn _ (all_drop HM.out (i + 1)))
      have HCn := Hd.mk (sC_nn _ (all_drop HM.out (i + 1)))
      obtain ⟨n0, hn0⟩ := Int.eq_ofNat_of_zero_le hmm.1
      obtain ⟨m0, hm0⟩ := Int.eq_ofNat_of_zero_le hmm.2.2.1
      subst hn0
      subst hm0
      simp only [Int.toNat_natCast] at HLr
      have hn1 : n0 ≤ 16777216 := by omega
      have hm1 : m0 ≤ 16777216 := by omega
      clear hX hwz ho hb7 hmem hx0 hx1 hx2 Hmi hmm cb0 HL HJ Hda Hxc
      gi_loopw [3, 4, 21] (fun y3 y4 y21 wr => ∃ (q pq : Nat) (b : Int) (A1' : Option Addr) (c1' : Nat) (d1 : List Int), y3 = .int .i64 (wrap64 b) ∧ y4 = .slice A1' d1.length c1' ∧ y21 = .int .i64 q ∧ q ≤ n0 ∧ Hd (L.drop pq = ogr (n0 - q) m0 f2 (st.drop (i + 1)) d1 x' b) ∧ pq ≤ L.length ∧ Hd (Sfx A1 d A1' c1' d1) ∧ Hd (((n0 - q : Nat) : Int) + sA (st.drop (i + 1)) = d1.length) ∧ Hd (J X' pq wr)) (fun _ _ y _ => n0 - (intOf y).toNat)
      case atStart => exact ⟨0, pz, a, A', c', d', rfl, rfl, rfl, by omega, ⟨by rw [HLr.out]; rfl⟩, hpz, HSd, ⟨HSA.out⟩, HJz⟩
      case round =>
        clear HLr HSA HJz HSd
        obtain ⟨q, pq, b, A1', c1', d1, rfl, rfl, rfl, hq, HL, hpq, HSd, HSA, HJ⟩ := hrel
        by_cases hqn : q < n0
        · obtain ⟨b0, d2, rfl⟩ : ∃ b0 d2, d1 = b0 :: d2 := by
            cases d1 with
            | nil => have h1 := HSA.out; have h2 := HAn.out; simp at h1; omega
            | cons b0 d2 => exact ⟨b0, d2, rfl⟩
          obtain ⟨n2, hn2⟩ : ∃ n2, n0 - q = n2 + 1 := ⟨n0 - q - 1, by omega⟩
          have hL := HL.out
          rw [hn2, ogr_add] at hL
          have hlt2 : pq < L.length := by
            rcases Nat.lt_or_ge pq L.length with h | h
            · exact h
            · rw [List.drop_eq_nil_of_le h] at hL; cases hL
          rw [List.drop_eq_getElem_cons hlt2] at hL
          have hg : L.getD pq z94 = ⟨true, wrap64 b, b0⟩ := by
            rw [List.getD_eq_getElem?_getD, List.getElem?_eq_getElem hlt2, Option.getD_some]
            exact (List.cons.inj hL).1
          have HL2 := Hd.mk (List.cons.inj hL).2
          have hr := (HR.out _ _ _ HJ.out).1
          obtain ⟨ad1, e1, hc1⟩ := HSd.out.head hr.r.di
          subst e1
          obtain ⟨fn, tmps, assign, body, hy, hRd⟩ := HY.out _ pq _ hlt2 HJ.out
          rw [hg] at hy
          dsimp only [enc89] at hy
          rw [show (!true) = false from rfl] at hy
          have HRd := Hd.mk hRd
          clear hg hL hr HL hRd
          have hlp : (0 : Int) < ((b0 :: d2).length : Int) := by simp
          gi_wp2
          refine HRd.out.mono ?_
          rintro e W3 (⟨rfl, hJ3⟩ | ⟨rfl, hJx⟩ | ⟨ch, rfl, hJp⟩)
          · have HJ3 := Hd.mk (HST.out _ _ _ _ hJ3 (Bk.of_below (Below.drew' W3)))
            clear hJ3 HRd hy hc1
            gi_wp2
            gi_region
            gi_wp2
            have HSd2 : Hd (Sfx A1 d (if c1' = 1 then some ad1 else some ⟨ad1.block, ad1.off + 1, none⟩) (c1' - 1) d2) := ⟨by
              have := HSd.out.tail
              simpa [Addr.add] using this⟩
            have hsl := HSA.out
            simp only [List.length_cons] at hsl
            refine ⟨⟨q + 1, pq + 1, b + 1, _, _, d2, by rw [w64_add], rfl, by go_num, by omega, ⟨by rw [HL2.out, show n0 - (q + 1) = n2 by omega]⟩, by omega, HSd2, ⟨by omega⟩, HJ3⟩, by simp [intOf]; omega⟩
          · gi_wp2
            refine bodyPost_ret (results_none rfl _ _ _) rfl ?_
            exact .inl ⟨_, rfl, .inr hJx⟩
          · exact ⟨rfl, .inr ⟨ch, rfl, hJp⟩⟩
        · obtain rfl : q = n0 := by omega
          rw [Nat.sub_self] at HL HSA
          have HJB := Hd.mk (HBX.out _ _ HJ.out)
          have cb7 := blk_cell HJB.out 1
          simp at cb7
          gi_wp2
          gi_loopw [5, 38] (fun y5 y38 wr => ∃ (q pq : Nat) (A1'' : Option Addr) (c1'' : Nat) (x1 : List Int), y5 = .slice A1'' x1.length c1'' ∧ y38 = .int .i64 q ∧ q ≤ m0 ∧ Hd (L.drop pq = ogr 0 (m0 - q) f2 (st.drop (i + 1)) d1 x1 b) ∧ pq ≤ L.length ∧ Hd (Sfx A2 x A1'' c1'' x1) ∧ Hd (((m0 - q : Nat) : Int) + sC (st.drop (i + 1)) = x1.length) ∧ Hd (J X' pq wr)) (fun _ y _ => m0 - (intOf y).toNat)
          case atStart => exact ⟨0, pq, A'', c'', x', rfl, rfl, by omega, ⟨by rw [HL.out]; rfl⟩, hpq, HSx, ⟨HSC.out⟩, HJ⟩
          case round =>
            clear HL HSC HJ HSx cb7 HJB hpq
            obtain ⟨q, pq, A1'', c1'', x1, rfl, rfl, hq, HL, hpq, HSx, HSC, HJ⟩ := hrel
            by_cases hqn : q < m0
            · obtain ⟨b0, x2, rfl⟩ : ∃ b0 x2, x1 = b0 :: x2 := by
                cases x1 with
                | nil => have h1 := HSC.out; have h2 := HCn.out; simp at h1; omega
                | cons b0 d2 => exact ⟨b0, d2, rfl⟩
              obtain ⟨n2, hn2⟩ : ∃ n2, m0 - q = n2 + 1 := ⟨m0 - q - 1, by omega⟩
              have hL := HL.out
              rw [hn2, ogr_copy] at hL
              have hlt2 : pq < L.length := by
                rcases Nat.lt_or_ge pq L.length with h | h
                · exact h
                · rw [List.drop_eq_nil_of_le h] at hL; cases hL
              rw [List.drop_eq_getElem_cons hlt2] at hL
              have hg : L.getD pq z94 = ⟨false, 0, b0⟩ := by
                rw [List.getD_eq_getElem?_getD, List.getElem?_eq_getElem hlt2, Option.getD_some]
                exact (List.cons.inj hL).1
              have HL2 := Hd.mk (List.cons.inj hL).2
              have hr := (HR.out _ _ _ HJ.out).1
              obtain ⟨ad1, e1, hc1⟩ := HSx.out.head hr.r.ex
              subst e1
              obtain ⟨fn, tmps, assign, body, hy, hRd⟩ := HY.out _ pq _ hlt2 HJ.out
              rw [hg] at hy
              dsimp only [enc89] at hy
              rw [show (!false) = true from rfl] at hy
              have HRd := Hd.mk hRd
              clear hg hL hr HL hRd
              have hlp : (0 : Int) < ((b0 :: x2).length : Int) := by simp
              gi_wp2
              refine HRd.out.mono ?_
              rintro e W3 (⟨rfl, hJ3⟩ | ⟨rfl, hJx⟩ | ⟨ch, rfl, hJp⟩)
              · have HJ3 := Hd.mk hJ3
                clear hJ3 HRd hy hc1
                gi_wp2
                have HSx2 : Hd (Sfx A2 x (if c1'' = 1 then some ad1 else some ⟨ad1.block, ad1.off + 1, none⟩) (c1'' - 1) x2) := ⟨by
                  have := HSx.out.tail
                  simpa [Addr.add] using this⟩
                have hsl := HSC.out
                simp only [List.length_cons] at hsl
                refine ⟨⟨q + 1, pq + 1, _, _, x2, rfl, by go_num, by omega, ⟨by rw [HL2.out, show m0 - (q + 1) = n2 by omega]⟩, by omega, HSx2, ⟨by omega⟩, HJ3⟩, by simp [intOf]; omega⟩
              · gi_wp2
                refine bodyPost_ret (results_none rfl _ _ _) rfl ?_
                exact .inl ⟨_, rfl, .inr hJx⟩
              · exact ⟨rfl, .inr ⟨ch, rfl, hJp⟩⟩
            · obtain rfl : q = m0 := by omega
              rw [Nat.sub_self] at HL HSC
              have HJB := Hd.mk (HBX.out _ _ HJ.out)
              have cb7 := blk_cell HJB.out 2
              simp at cb7
              have hfit : st.length ≤ 9223372036854775807 := HB.out.r.s.2.1
              gi_wp2
              rw [w64_add]
              exact ⟨⟨i + 1, pq, b + f2, A1', c1', d1, A1'', c1'', x1, X', rfl, rfl, rfl, by go_num, by omega, ⟨by rw [HL.out, ogr_end]⟩, by omega, HSd, HSx, ⟨by have := HSA.out; simpa using this⟩, ⟨by have := HSC.out; simpa using this⟩, HJ⟩, by simp [intOf]; omega⟩
    · obtain rfl : i = st.length := by omega
      have hLe := HL.out
      rw [List.drop_length] at hLe
      have hpe : pz = L.length := by
        have := List.drop_eq_nil_iff.1 (show L.drop pz = [] from hLe)
        omega
      subst hpe
      clear hLe hr cb0
      gi_wp2
      go_end0
      exact .inl ⟨_, rfl, .inl ⟨X, HJ.out⟩⟩
set_option maxHeartbeats 1000000 in
theorem origins_calls (A0 : Option Addr) (c0 : Nat) (st : List S82) (A1 : Option Addr) (c1 : Nat) (d : List Int) (A2 : Option Addr) (c2 : Nat) (x : List Int) (w : World) (h : EdC w A0 c0 st A1 c1 d A2 c2 x) :
    Calls Try.prog 58 #[EdV A0 st.length c0 A1 d.length c1 A2 x.length c2] w fun e w' => ∃ Be, e = .returned (.func (.func 68) #[] #[.pointer (some ⟨Be, 0, none⟩)]) ∧ EdB w' Be A0 c0 st A1 c1 d A2 c2 x ∧ Below w.heap.size w w' ∧ w.heap.size ≤ Be := by
  have H := Hd.mk h
  clear h
  have hmf : ∀ (fn : Fn) (first cap : Array Value) (w : World), (Instr.makeFunc fn first cap).run Try.prog w = .ok (.func fn first cap) w := fun _ _ _ _ => rfl
  unfold EdV
  go_enter Try.func58, Try.ntmps58
  go_wp2
  go_ret
  have hb : Below w.heap.size w (w.alloc (.cells #[.slice A0 st.length c0, .slice A1 d.length c1, .slice A2 x.length c2] 29)) := (Below.refl _ _).alloc (Nat.le_refl _) _
  exact ⟨w.heap.size, rfl, ⟨blk_new w _, H.out.below hb⟩, hb, Nat.le_refl _⟩
end
end Go.Proofs.Ytinlfoblpgpikaa
