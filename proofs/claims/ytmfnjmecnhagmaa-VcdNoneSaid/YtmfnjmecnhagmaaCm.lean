/- vcd: the map of codes: its keys, what it holds. -/
import Derived.Test.YtmfnjmecnhagmaaTc
import Derived.Maps.Own
import Derived.Maps.OwnOps
import Derived.Maps.OwnSet
import Derived.Maps.Views
import Derived.DeepKeys4
namespace Go.Proofs.Ytmfnjmecnhagmaa
open Go.RowKit Go.ChangeShapes Go.WideShapes Go.Shelf Go.Maps Go.Proofs.YtmfnjmecnhagmaaW.PrintWords Go.Proofs.YtmfnjmecnhagmaaW.PrintLast Go.Proofs.YtmfnjmecnhagmaaW.PrintMore Go.Proofs.Ytmfnjmecnhagmaa.Pr
set_option linter.unusedVariables false
set_option linter.unusedSimpArgs false
theorem laidOut : laidOutB Try.prog = true := by kernel_rfl
theorem row25 : (25 : TypeId) < Try.prog.types.size := of_decide_eq_true (by kernel_rfl)
theorem wide25 : (match Try.prog.underlying 25 with | some (.array _ _) | some (.struct _) => true | _ => false) = true := by kernel_rfl
set_option maxRecDepth 100000 in
theorem law25 : Keyed Try.prog 25 := Keyed.of_law (deep_law_laid laidOut (m := 3) (by omega) row25 (by kernel_rfl) wide25)
theorem keyT25 : Try.prog.keyType 25 = true := by kernel_rfl
theorem cells25 : Try.prog.cellsOf 25 = 6 := by kernel_rfl
theorem cells24 : Try.prog.cellsOf 24 = 3 := by kernel_rfl
theorem cells3 : Try.prog.cellsOf 3 = 1 := by kernel_rfl
theorem cells22 : Try.prog.cellsOf 22 = 1 := by kernel_rfl
def wfI (n : Int) : Prop := (Lit.int .i64 n).wf = true
def wfH (h : Hf) : Prop := wfI h.1 ∧ wfI h.2.1 ∧ wfI h.2.2
def wfP (p : Hf × Hf) : Prop := wfH p.1 ∧ wfH p.2
def kv (p : Hf × Hf) : Value := .agg #[.int .i64 p.1.1, .int .i64 p.1.2.1, .int .i64 p.1.2.2, .int .i64 p.2.1, .int .i64 p.2.2.1, .int .i64 p.2.2.2]
def klit (p : Hf × Hf) : Lit := .string (keyBytes [.int .i64 p.1.1, .int .i64 p.1.2.1, .int .i64 p.1.2.2, .int .i64 p.2.1, .int .i64 p.2.2.1, .int .i64 p.2.2.2])
theorem kl_half (d : Nat) {a b c : Int} (wa : (Lit.int .i64 a).wf = true) (wb : (Lit.int .i64 b).wf = true) (wc : (Lit.int .i64 c).wf = true) : Try.prog.keyLits (d + 2) 24 [.int .i64 a, .int .i64 b, .int .i64 c] = some [.int .i64 a, .int .i64 b, .int .i64 c] := by
  unfold Program.keyLits
  simp only [Try.underlying24]
  rw [if_pos ⟨by rw [cells24]; rfl, by simp⟩]
  simp [Program.keyLits, Try.underlying3, Try.underlying22, cells3, cells22, wa, wb, wc]
theorem keyOf25 {p : Hf × Hf} (h : wfP p) : keyOf Try.prog 25 (kv p) = some (klit p) := by
  obtain ⟨⟨h1, h2, h3⟩, h4, h5, h6⟩ := h
  obtain ⟨m, hm⟩ : ∃ m, Try.prog.types.size + 1 = m + 3 := ⟨Try.prog.types.size - 2, by have h25 : (25 : Nat) < Try.prog.types.size := row25; omega⟩
  unfold keyOf
  simp only [Try.underlying25]
  rw [if_pos (by simp [keyT25, kv, Value.formed, Try.underlying25, cells25]), hm]
  unfold Program.keyLits
  simp only [Try.underlying25, kv, Value.cells]
  rw [if_pos (by rw [cells25]; rfl), show List.range 2 = [0, 1] from rfl, List.mapM_cons, List.mapM_cons, List.mapM_nil]
  simp [cells24, kl_half m h1 h2 h3, kl_half m h4 h5 h6, klit]
theorem klit_inj {p q : Hf × Hf} (hp : wfP p) (hq : wfP q) (h : klit p = klit q) : p = q := by
  have := law25.inj (keyOf25 hp) (by rw [h]; exact keyOf25 hq)
  obtain ⟨⟨a1, a2, a3⟩, a4, a5, a6⟩ := p
  obtain ⟨⟨b1, b2, b3⟩, b4, b5, b6⟩ := q
  simp only [kv, Value.agg.injEq, Array.mk.injEq, List.cons.injEq, Value.int.injEq, true_and, and_true] at this
  obtain ⟨rfl, rfl, rfl, rfl, rfl, rfl⟩ := this
  rfl
/-- The map in block b holds this. -/
def MapT (W : World) (b n : Nat) (f : Hf × Hf → Option Int) : Prop :=
  ∃ D : DataW Unit, W.ownsMap Try.prog 25 (plainElem Try.prog 3) b n D ∧ IsMap D ∧ ∀ p, wfP p → D.atKey (klit p) (.lit (.int .i64 0)) = .lit (.int .i64 ((f p).getD 0)) ∧ has D (klit p) = (f p).isSome
theorem zeroI (w : World) : (zeroValue 3).run Try.prog w = .ok (.int .i64 0) w := by kernel_rfl
theorem MapT.below {W W' : World} {b n : Nat} {f : Hf × Hf → Option Int} (h : MapT W b n f) (hb : Below W.heap.size W W') : MapT W' b n f := by
  obtain ⟨D, h1, h3, h4⟩ := h
  obtain ⟨es, clock, k1, k2⟩ := h1
  have hlt : b < W.heap.size := by
    rcases Nat.lt_or_ge b W.heap.size with h | h
    · exact h
    · rw [Array.getElem?_eq_none h] at k1
      cases k1
  exact ⟨D, ⟨es, clock, (hb.block b hlt).trans k1, k2⟩, h3, h4⟩
theorem MapT.lookup {W : World} {b n : Nat} {f : Hf × Hf → Option Int} (h : MapT W b n f) {p : Hf × Hf} (hp : wfP p) :
    (Instr.lookup 105 (.map (some b)) (kv p) false).run Try.prog W = .ok (.int .i64 ((f p).getD 0)) W ∧ (Instr.lookup 105 (.map (some b)) (kv p) true).run Try.prog W = .ok (.tuple #[.int .i64 ((f p).getD 0), .bool (f p).isSome]) W := by
  obtain ⟨D, h1, h3, h4⟩ := h
  obtain ⟨e1, e2⟩ := h4 p hp
  constructor
  · obtain ⟨c, k1, k2, _⟩ := h1.lookup_int law25 Try.underlying105 Try.underlying3 (zeroI W) (keyOf25 hp)
    rw [e1] at k2
    cases k2
    exact k1
  · obtain ⟨v, ps, k1, k2⟩ := h1.look_ok law25 Try.underlying105 (zeroI W) (plainElem_int Try.underlying3 (by decide)) (keyOf25 hp)
    obtain ⟨c, rfl, k3, _⟩ := plainElem_int_inv Try.underlying3 k2
    have k3 := congrArg Prod.fst k3
    simp only at k3
    rw [e1] at k3
    cases k3
    rw [e2] at k1
    exact k1
theorem MapT.start (w : World) : MapT (w.alloc (.map #[] 0)) w.heap.size 0 (fun _ => none) :=
  ⟨.map [], World.ownsMap_made _ _ _ _, isMap_empty, fun p _ => ⟨rfl, rfl⟩⟩
theorem MapT.update {W : World} {b n : Nat} {f : Hf × Hf → Option Int} (h : MapT W b n f) (hn : n ≤ 256) {p : Hf × Hf} (hp : wfP p) {i : Int} (hi : wfI i) :
    ∃ W', (Instr.mapUpdate 105 (.map (some b)) (kv p) (.int .i64 i)).run Try.prog W = .ok () W' ∧ MapT W' b (n + 1) (fun q => if q = p then some i else f q) ∧ W.grownBy W' (some b) := by
  obtain ⟨D, h1, h3, h4⟩ := h
  obtain ⟨W', k1, k2, k3⟩ := h1.update law25 Try.underlying105 (by unfold maxLen; omega) (keyOf25 hp) (plainElem_int Try.underlying3 hi)
  refine ⟨W', k1, ⟨_, k2, h3.put _ _, fun q hq => ?_⟩, k3⟩
  have hk : WideAt.IsKeyLit (klit p) := law25.key (keyOf25 hp)
  by_cases e : q = p
  · subst e
    rw [atKey_put_same h3 hk, has_put_same h3 hk]
    exact ⟨by simp, by simp⟩
  · have hne : klit q ≠ klit p := fun h => e (klit_inj hq hp h)
    rw [atKey_put_other hne, has_put_other hne]
    simp only [if_neg e]
    exact h4 q hq
theorem wpList_store_map {ops : Array Oper} {rest : List Oper} {o : Oper} {a : Act} {w : World} {Q : Exit → Act → World → Prop} (hg : o.guard = none) (m x v : Operand) (hop : o.op = Op.mapUpdate 105 m x v) (b n : Nat) (f : Hf × Hf → Option Int)
    (hm : a.eval m = .map (some b)) (h : MapT w b n f) (hn : n ≤ 256) (p : Hf × Hf) (hp : wfP p) (hx : a.eval x = kv p) (i : Int) (hi : wfI i) (hv : a.eval v = .int .i64 i)
    (hK : ∀ w', MapT w' b (n + 1) (fun q => if q = p then some i else f q) → w.grownBy w' (some b) → wpList Try.prog ops Q rest (a.put o.dst undef) w') : wpList Try.prog ops Q (o :: rest) a w := by
  refine wpList_plain hg fun K' hK' => ?_
  obtain ⟨w', hrun, r1, r2⟩ := h.update hn hp hi
  unfold Oper.wp
  simp [execOp, hop, hm, hx, hv, hrun, Result.andThen]
  exact hK' _ _ (hK w' r1 r2)
def tabAt (i : Nat) : Hf × Hf := tabL.getD i (hz, hz)
/-- What the first i codes tell of a pair. -/
def codesF (i : Nat) (p : Hf × Hf) : Option Int := ((List.range i).reverse.find? (fun j => decide (p = tabAt j))).map (fun j : Nat => (j : Int))
theorem codesF_zero : codesF 0 = fun _ => none := rfl
theorem codesF_succ (i : Nat) : codesF (i + 1) = fun q => if q = tabAt i then some (i : Int) else codesF i q := by
  funext q
  unfold codesF
  rw [List.range_succ, List.reverse_append, List.reverse_singleton, List.singleton_append, List.find?_cons]
  by_cases h : q = tabAt i
  · simp [h]
  · simp [h]
theorem wf_tab : ∀ i, i < 256 → wfP (tabAt i) := by
  have h : ∀ p ∈ tabL, (-1 ≤ p.1.1 ∧ p.1.1 ≤ 300) ∧ (-1 ≤ p.1.2.1 ∧ p.1.2.1 ≤ 300) ∧ (-1 ≤ p.1.2.2 ∧ p.1.2.2 ≤ 300) ∧ (-1 ≤ p.2.1 ∧ p.2.1 ≤ 300) ∧ (-1 ≤ p.2.2.1 ∧ p.2.2.1 ≤ 300) ∧ (-1 ≤ p.2.2.2 ∧ p.2.2.2 ≤ 300) := by decide +kernel
  intro i hi
  have hl := tabL_len
  have hm : tabAt i ∈ tabL := by
    unfold tabAt
    rw [List.getD_eq_getElem?_getD, List.getElem?_eq_getElem (by omega), Option.getD_some]
    exact List.getElem_mem _
  obtain ⟨a1, a2, a3, a4, a5, a6⟩ := h _ hm
  have w : ∀ n : Int, (-1 ≤ n ∧ n ≤ 300) → wfI n := fun n hn => WalkArith.wf_i64 (by omega)
  exact ⟨⟨w _ a1, w _ a2, w _ a3⟩, w _ a4, w _ a5, w _ a6⟩
theorem tcells_at : ∀ (P : List (Hf × Hf)) (i : Nat) (h : i < P.length), ((tcells P).drop (i * 6)).take 6 = pcells P[i]
  | p :: l, 0, _ => by simp [tcells, pcells, hcells]
  | p :: l, i + 1, h => by
    have := tcells_at l i (by simpa using h)
    have e : tcells (p :: l) = pcells p ++ tcells l := by simp [tcells]
    rw [e, show (i + 1) * 6 = (pcells p).length + i * 6 by simp [pcells, hcells]; omega, ← List.drop_drop, List.drop_left']
    · simpa using this
    · rfl
theorem index_tab {c : Array Value} (hc : c.toList = tcells tabL) {i : Nat} (hi : i < 256) (w : World) : (Instr.index 26 (.agg c) (.int .i64 (i : Int))).run Try.prog w = .ok (kv (tabAt i)) w := by
  have hl := tabL_len
  have he : c.extract (i * 6) (i * 6 + 6) = (pcells (tabAt i)).toArray := by
    apply Array.toList_inj.1
    rw [Array.toList_extract, hc, List.extract_eq_take_drop, show i * 6 + 6 - i * 6 = 6 by omega, tcells_at tabL i (by omega)]
    unfold tabAt
    rw [List.getD_eq_getElem?_getD, List.getElem?_eq_getElem (by omega), Option.getD_some]
  have hag : (isAgg 25).run Try.prog w = .ok true w := by
    unfold isAgg
    rw [Sem.run_bind, run_underlying Try.underlying25 w]
    rfl
  have hsz : (sizeOf 25).run Try.prog w = .ok 6 w := by
    have := info25
    cases hq : Try.prog.info? 25 with
    | none => rw [hq] at this; cases this
    | some j =>
      rw [hq] at this
      have hs : j.size = 6 := by simpa using this
      simp [sizeOf, typeInfo, hq, hs]
  unfold Instr.index
  have h1 : (0 : Int) ≤ (i : Int) ∧ (i : Int) < ((256 : Nat) : Int) := by omega
  simp [asIntOf, Sem.run_bind, run_underlying Try.underlying26, hsz, part, hag, Result.andThen, h1]
  first | done | (rw [if_pos (by omega)]; simp [hsz, part, hag, Result.andThen, he]; first | done | rfl)
end Go.Proofs.Ytmfnjmecnhagmaa
