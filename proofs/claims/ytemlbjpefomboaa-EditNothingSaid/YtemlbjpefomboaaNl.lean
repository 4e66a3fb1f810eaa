/- edit: take whole; normal's deferred function; the normal edit by contract, of any iterator. -/
import Derived.Test.YtemlbjpefomboaaTb
import Derived.Test.YtemlbjpefomboaaWo
import Derived.Test.YtemlbjpefomboaaRk
namespace Go.Proofs.Ytemlbjpefomboaa
open Go.RowKit Go.Shelf Go.Proofs.YtemlbjpefomboaaW.PrintWords Go.Proofs.YtemlbjpefomboaaW.PrintLast Go.Proofs.YtemlbjpefomboaaW.PrintMore Go.Proofs.Ytemlbjpefomboaa.Pr
set_option linter.unusedVariables false
set_option linter.unusedSimpArgs false
attribute [local go_sem] Oper.semAt_some
structure Vt (N : Nat) (t : TS) : Prop where
  n : t.dn.length ≤ N
  d : t.d.length ≤ N
  x : t.x.length ≤ N
  c0 : t.cu = none → t.dn = [] ∧ t.a = 0
  c1 : ∀ c, t.cu = some c → c.f2 = 0 ∧ 0 ≤ c.f0 ∧ c.f0 ≤ N ∧ 0 ≤ c.f1 ∧ c.f1 ≤ N
theorem vt0 : Vt 0 ts0 := ⟨by simp [ts0], by simp [ts0], by simp [ts0], fun _ => ⟨rfl, rfl⟩, fun c h => by simp [ts0] at h⟩
theorem vt_tk {N : Nat} {t t' : TS} {o : S94} (h : Vt N t) (ht : tk t o = some t') : Vt (N + 1) t' := by
  obtain ⟨h1, h2, h3, h4, h5⟩ := h
  obtain ⟨f0, p, b⟩ := o
  obtain ⟨dn, cu, d, x, a⟩ := t
  simp only at h1 h2 h3 h4 h5
  unfold tk at ht
  cases f0 with
  | true =>
    simp only [if_true] at ht
    cases cu with
    | none =>
      simp only at ht
      by_cases hp : p = a
      · rw [if_pos hp] at ht
        cases ht
        exact ⟨by simp only; omega, by simp; omega, by simp only; omega, fun h => (by cases h), fun c hc => by cases hc; simp; omega⟩
      · rw [if_neg hp] at ht
        by_cases hm : may ⟨0, 0, wrap64 (p - a)⟩ = true
        · rw [if_pos hm] at ht
          cases ht
          exact ⟨by simp; omega, by simp; omega, by simp only; omega, fun h => (by cases h), fun c hc => by cases hc; simp; omega⟩
        · rw [if_neg hm] at ht; cases ht
    | some s =>
      obtain ⟨g1, g2, g3, g4, g5⟩ := h5 s rfl
      simp only at ht
      by_cases hp : p = a ∧ s.f1 = 0
      · rw [if_pos hp] at ht
        cases ht
        exact ⟨by simp only; omega, by simp; omega, by simp only; omega, fun h => (by cases h), fun c hc => by cases hc; refine ⟨rfl, ?_, ?_, ?_, ?_⟩ <;> simp <;> omega⟩
      · rw [if_neg hp] at ht
        by_cases hm : may ⟨s.f0, s.f1, wrap64 (p - a)⟩ = true
        · rw [if_pos hm] at ht
          cases ht
          exact ⟨by simp; omega, by simp; omega, by simp only; omega, fun h => (by cases h), fun c hc => by cases hc; simp; omega⟩
        · rw [if_neg hm] at ht; cases ht
  | false =>
    rw [if_neg (by simp)] at ht
    cases cu with
    | none =>
      cases ht
      exact ⟨by simp only; omega, by simp only; omega, by simp; omega, fun h => (by cases h), fun c hc => by cases hc; simp; omega⟩
    | some s =>
      obtain ⟨g1, g2, g3, g4, g5⟩ := h5 s rfl
      cases ht
      exact ⟨by simp only; omega, by simp only; omega, by simp; omega, fun h => (by cases h), fun c hc => by cases hc; refine ⟨rfl, ?_, ?_, ?_, ?_⟩ <;> simp <;> omega⟩
theorem take_in (base : Nat) (W0 : World) (S0 : Nat → Prop) (Z : List (Nat × Obj)) (W : World) (Bm : Nat) (s d x : Value) (t : TS) (o : S94) (N : Nat) (hN : N ≤ 16777216) (hv : Vt N t)
    (h : Mq base W0 S0 Z W W Bm s d x t.st t.d t.x t.a) :
    CallsIn (FN EX) 0 Try.prog 70 #[.pointer (some ⟨Bm, 0, none⟩), enc89 o] W (TakeOk base W0 S0 Z W Bm (tk t o)) := by
  obtain ⟨h1, h2, h3, h4, h5⟩ := hv
  obtain ⟨f0, p, b⟩ := o
  obtain ⟨dn, cu, dl, xl, a⟩ := t
  simp only [TS.st] at h h1 h2 h3 h4 h5
  unfold tk enc89
  cases f0 with
  | true =>
    simp only [if_true, Bool.not_true]
    cases cu with
    | none =>
      obtain ⟨rfl, rfl⟩ := h4 rfl
      simp only [Option.toList, List.append_nil] at h
      by_cases hp : p = 0
      · simp only
        rw [if_pos hp]
        exact take_b0 base W0 S0 Z W Bm s d x dl xl 0 p b h (by omega) hp
      · simp only
        rw [if_neg hp]
        exact take_b4 base W0 S0 Z W Bm s d x dl xl 0 p b h (by omega) hp rfl 0 0 rfl rfl _ rfl
    | some c =>
      obtain ⟨c0, c1, c2⟩ := c
      obtain ⟨g1, g2, g3, g4, g5⟩ := h5 _ rfl
      simp only at g1 g2 g3 g4 g5
      subst g1
      simp only [Option.toList] at h
      by_cases hp : p = a
      · by_cases hc : c1 = 0
        · subst hc
          simp only
          rw [if_pos ⟨hp, trivial⟩]
          exact take_b1 base W0 S0 Z W Bm s d x dl xl a p b dn c0 h (by omega) (by omega) (by omega) hp
        · simp only
          rw [if_neg (fun h => hc h.2)]
          exact take_b3 base W0 S0 Z W Bm s d x dl xl a p b dn c0 c1 h (by omega) (by omega) hp (by omega) _ rfl
      · simp only
        rw [if_neg (fun h => hp h.1)]
        exact take_b2 base W0 S0 Z W Bm s d x dl xl a p b dn c0 c1 h (by omega) (by omega) hp _ rfl
  | false =>
    rw [if_neg (by simp)]
    simp only [Bool.not_false]
    cases cu with
    | none =>
      obtain ⟨rfl, rfl⟩ := h4 rfl
      simp only [Option.toList, List.append_nil] at h
      exact take_a0 base W0 S0 Z W Bm s d x dl xl 0 p b h (by omega)
    | some c =>
      obtain ⟨c0, c1, c2⟩ := c
      obtain ⟨g1, g2, g3, g4, g5⟩ := h5 _ rfl
      simp only at g1 g2 g3 g4 g5
      subst g1
      simp only [Option.toList] at h
      exact take_a1 base W0 S0 Z W Bm s d x dn _ dl xl a p b h (by omega) (by omega) (by simp only; omega)
/-! The deferred function. -/
def tooFarP : PanicEntry := { v := .iface 107 (.agg #[]), recovered := false }
set_option maxHeartbeats 2000000 in
theorem catch_idle (be bc : Nat) (w : World) :
    CallsDIn (FN EX) 0 Try.prog 69 #[.pointer (some ⟨be, 0, none⟩), .pointer (some ⟨bc, 0, none⟩)] .returning w fun e u' w' => e = .returned (.tuple #[]) ∧ u' = .returning ∧ w' = w := by
  refine callsDIn_of_wpSIn Try.func69 rfl ⟨_, Try.func69⟩ fun c₀ cs hu => ?_
  apply wpSIn_seq
  apply wpSIn_region
  simp [wpOpsSIn, go_sem, recoverD, hu, Try.ntmps69, Exit.thenS]
  refine wpSIn_of_wpIn rfl ?_
  simp only [List.size_toArray, List.length_cons, List.length_nil, Nat.reduceAdd, Nat.reduceSub, Array.replicate_succ, Array.replicate_zero, List.push_toArray, List.append_toArray, List.nil_append, List.cons_append, List.setIfInBounds_toArray, List.set_cons_zero, List.set_cons_succ]
  gi_wp2
  cases c₀
  simp_all [bodyPostS, results, Try.results69]
set_option maxRecDepth 100000 in
set_option maxHeartbeats 4000000 in
theorem catch_pan (be bc : Nat) (w : World) (he : w.heap[be]? = some (.cells #[.slice none 0 0, .slice none 0 0, .slice none 0 0] 28 (0, 0))) (hc : w.heap[bc]? = some (.cells #[.int .i64 0] 23 (0, 0))) (hne : be ≠ bc) :
    CallsDIn (FN EX) 0 Try.prog 69 #[.pointer (some ⟨be, 0, none⟩), .pointer (some ⟨bc, 0, none⟩)] (.panicking [tooFarP]) w fun e u' w' => e = .returned (.tuple #[]) ∧ u' = .panicking [{ v := tooFarP.v, recovered := true }] ∧
      w'.heap[be]? = some (.cells #[.slice none 0 0, .slice none 0 0, .slice none 0 0] 28 (0, 0)) ∧ w'.heap[bc]? = some (.cells #[.int .i64 160] 23 (0, 0)) ∧ Upd (fun k => k = be ∨ k = bc) w w' := by
  refine callsDIn_of_wpSIn Try.func69 rfl ⟨_, Try.func69⟩ fun c₀ cs hu => ?_
  apply wpSIn_seq
  apply wpSIn_region
  simp [wpOpsSIn, go_sem, recoverD, hu, tooFarP, Try.ntmps69, Exit.thenS]
  refine wpSIn_of_wpIn rfl ?_
  simp only [List.size_toArray, List.length_cons, List.length_nil, Nat.reduceAdd, Nat.reduceSub, Array.replicate_succ, Array.replicate_zero, List.push_toArray, List.append_toArray, List.nil_append, List.cons_append, List.setIfInBounds_toArray, List.set_cons_zero, List.set_cons_succ]
  have hta : ∀ w, (Instr.typeAssert (.iface 107 (.agg #[])) 20 107 true).run Try.prog w = .ok (.tuple #[.agg #[], .bool true]) w := fun _ => by kernel_rfl
  have he1 := blk_alloc he (.cells #[] 107)
  have hc1 := blk_alloc hc (.cells #[] 107)
  have e0 : (w.alloc (.cells #[] 107)).cell? ⟨be, 0, none⟩ = some (.slice none 0 0) := (blk_cell he1 0).trans rfl
  have e1 : (w.alloc (.cells #[] 107)).cell? ⟨be, 1, none⟩ = some (.slice none 0 0) := (blk_cell he1 1).trans rfl
  have e2 : (w.alloc (.cells #[] 107)).cell? ⟨be, 2, none⟩ = some (.slice none 0 0) := (blk_cell he1 2).trans rfl
  have f0 := blk_frozen he1 0
  have f1 := blk_frozen he1 1
  have f2 := blk_frozen he1 2
  have c0 : (w.alloc (.cells #[] 107)).cell? ⟨bc, 0, none⟩ = some (.int .i64 0) := (blk_cell hc1 0).trans rfl
  have g0 := blk_frozen hc1 0
  have hne' : bc ≠ be := Ne.symm hne
  have HE := Hd.mk he1
  have HC := Hd.mk hc1
  clear he hc he1 hc1
  gi_wp2
  have e1' := blk_set (blk_set (blk_set HE.out 0 (.slice none 0 0)) 1 (.slice none 0 0)) 2 (.slice none 0 0)
  have e2' := blk_far e1' (p := ⟨bc, 0, none⟩) hne (.int .i64 160)
  have c1' := blk_set (blk_far (blk_far (blk_far HC.out (p := ⟨be, 0, none⟩) hne' (.slice none 0 0)) (p := ⟨be, 1, none⟩) hne' (.slice none 0 0)) (p := ⟨be, 2, none⟩) hne' (.slice none 0 0)) 0 (.int .i64 160)
  refine ⟨rfl, _, rfl, _, results_none rfl _ _ _, rfl, rfl, by simpa using e2', by simpa using c1', ?_⟩
  exact (((((Upd.refl _ w).alloc _).setCell _ (.inl (.inl rfl)) _).setCell _ (.inl (.inl rfl)) _).setCell _ (.inl (.inl rfl)) _).setCell _ (.inl (.inr rfl)) _
/-! The normal edit. -/
theorem calls_of_in {p : FuncId → Prop} {n : Nat} {P : Program} {f : FuncId} {args : Array Value} {w : World} {R : Ending → World → Prop} (h : CallsIn (FN p) n P f args w R) : Calls P f args w R :=
  fun cs => let ⟨e, w', fr, r, s, x⟩ := h.2 cs (fun d hd => by cases hd); ⟨e, w', fr, r, s.comes, x⟩
theorem R80_of_own {W : World} {base : Nat} {ok : Nat → Prop} {v : Value} {l : List S80} (h : W.ownsRow base 80 3 v l.length (cells80 l)) (hok : ∀ k, v.ownBlock = some k → ok k) : Kd.R k80 80 W base ok v l := by
  refine ⟨hok, cells80 l, h, cells80_len l, fun j p hp => ?_⟩
  have hlt := (List.getElem?_eq_some_iff.1 hp).1
  have e : ((cells80 l).drop (j * 3)).take 3 = [.int .i64 p.f0, .int .i64 p.f1, .int .i64 p.f2] := by
    apply List.ext_getElem?
    intro i
    rw [List.getElem?_take]
    by_cases hi : i < 3
    · rw [if_pos hi, List.getElem?_drop]
      have hu := List.getElem?_eq_getElem (l := [Value.int .i64 p.f0, .int .i64 p.f1, .int .i64 p.f2]) (i := i) (by simpa using hi)
      rw [hu]
      exact cells80_at l j p hp i _ hu
    · rw [if_neg hi, List.getElem?_eq_none (by simp; omega)]
  show k80.M W base _ p (((cells80 l).drop (j * 3)).take 3)
  rw [e]
  exact k80_mkM _ _ _ _
/-- An iterator of origins, by contract: as long as all that there was at w stays. -/
def IterOf (w : World) (gf : Nat) (lb : Array Value) (L : List S94) : Prop :=
  ∀ (l n1 : Nat) (J : List (Nat × Obj) → Nat → World → Prop) (Jx : World → Prop) (Jp : List PanicEntry → World → Prop),
    (∀ X i W, J X i W → Below w.heap.size w W ∧ ∀ p ∈ X, W.heap[p.1]? = some p.2) → (∀ X i W o, o.isCells = true → J X i W → J ((W.heap.size, o) :: X) i (W.alloc o)) → (∀ X i W W', J X i W → Bk n1 W W' → J X i W') →
    (∀ W W', Jx W → Bk n1 W W' → Jx W') → (∀ c W W', Jp c W → Bk n1 W W' → Jp c W') →
    (∀ X i W, i < L.length → J X i W → YieldAt (FN EX) 0 Try.prog l #[enc89 (L.getD i z94)] W (fun e W' => RoundGives (J X) Jx Jp i e W' ∧ Ko n1 W W')) → ∀ W, n1 = W.heap.size → J [] 0 W →
    CallsIn (FN EX) 0 Try.prog gf (#[.func (.yield l) #[] #[]] ++ lb) W (IterGives (fun i W => ∃ X, J X i W) Jx Jp L.length)
theorem tks_take_succ (L : List S94) (i : Nat) (t : TS) (hi : i < L.length) (h : tks (L.take i) ts0 = some t) : tks (L.take (i + 1)) ts0 = tk t (L.getD i z94) := by
  have key : ∀ (l : List S94) (s : TS) (o : S94), tks (l ++ [o]) s = (tks l s).bind fun t => tk t o := by
    intro l
    induction l with
    | nil => intro s o; show (tk s o).bind (tks []) = tk s o; cases tk s o <;> rfl
    | cons a l ih =>
      intro s o
      simp only [List.cons_append, tks]
      cases tk s a with
      | none => rfl
      | some t => exact ih t o
  rw [List.take_succ_eq_append_getElem hi, key, h, Option.bind_some, List.getD_eq_getElem?_getD, List.getElem?_eq_getElem hi, Option.getD_some]
theorem tks_none (L : List S94) (i : Nat) (h : tks (L.take i) ts0 = none) : tks L ts0 = none := by
  have key : ∀ (l m : List S94) (s : TS), tks (l ++ m) s = (tks l s).bind (tks m) := by
    intro l
    induction l with
    | nil => intro m s; rfl
    | cons a l ih =>
      intro m s
      simp only [List.cons_append, tks]
      cases tk s a with
      | none => rfl
      | some t => exact ih m t
  have := key (L.take i) (L.drop i) ts0
  rw [List.take_append_drop, h] at this
  exact this
theorem vt_tks (L : List S94) : ∀ (i : Nat) (t : TS), i ≤ L.length → tks (L.take i) ts0 = some t → Vt i t
  | 0, t, _, h => by
    simp only [List.take_zero, tks] at h
    cases h
    exact vt0
  | i + 1, t, hi, h => by
    cases h0 : tks (L.take i) ts0 with
    | none =>
      have h1 := tks_none (L.take (i + 1)) i (by rw [List.take_take, Nat.min_eq_left (by omega)]; exact h0)
      rw [h1] at h; cases h
    | some s =>
      have h1 := tks_take_succ L i s (by omega) h0
      rw [h] at h1
      exact vt_tk (vt_tks L i s (by omega) h0) h1.symm
theorem Mq.bk {base : Nat} {W0 : World} {S0 : Nat → Prop} {Z : List (Nat × Obj)} {Wk W W' : World} {Bm : Nat} {s d x : Value} {sl : List S80} {dl xl : List Int} {a : Int} {n : Nat} (h : Mq base W0 S0 Z Wk W Bm s d x sl dl xl a) (hZ : ∀ q ∈ Z, q.2.isCells = true) (hn : W0.heap.size ≤ n) (k : Bk n W W') :
    Mq base W0 S0 Z W' W' Bm s d x sl dl xl a := by
  refine ⟨⟨k.block _ _ h.m.b (.inl rfl), h.m.hb, own_bk h.m.rs k, own_bk h.m.rd k, own_bk h.m.rx k, h.m.ne⟩, ?_, h.k, fun q hq => ⟨k.block _ _ (h.z q hq).1 (.inl (hZ q hq)), (h.z q hq).2⟩, KeepsOthers.refl _⟩
  refine ⟨k.os.trans h.u.os, k.tape.trans h.u.tape, k.output.trans h.u.output, Nat.le_trans h.u.size k.size, fun i hi hns => ?_⟩
  have h1 := h.u.block i hi hns
  have hlt : i < W.heap.size := Nat.lt_of_lt_of_le hi h.u.size
  rw [← h1, Array.getElem?_eq_getElem hlt]
  exact k.block i _ (Array.getElem?_eq_getElem hlt) (.inr (by omega))
def tooFarC : List PanicEntry := [tooFarP]
def Z0 (b : Nat) : List (Nat × Obj) := [(b + 1 + 1 + 1, .cells #[.pointer (some ⟨b + 1 + 1, 0, none⟩)] 109), (b, .cells #[.slice none 0 0, .slice none 0 0, .slice none 0 0] 28), (b + 1, .cells #[.int .i64 0] 23)]
theorem z0_cells (b : Nat) : ∀ q ∈ Z0 b, q.2.isCells = true := by
  intro q hq
  simp [Z0] at hq
  rcases hq with rfl | rfl | rfl <;> rfl
def NI (w : World) (L : List S94) (X : List (Nat × Obj)) (i : Nat) (W : World) : Prop :=
  ∃ t s d x, tks (L.take i) ts0 = some t ∧ Mq w.heap.size w (fun k => w.heap.size ≤ k) (X ++ Z0 w.heap.size) W W (w.heap.size + 1 + 1) s d x t.st t.d t.x t.a ∧ ∀ q ∈ X, q.2.isCells = true
def NP (w : World) (L : List S94) (ch : List PanicEntry) (W : World) : Prop :=
  ch = tooFarC ∧ tks L ts0 = none ∧ ∃ s d x sl dl xl a, Mq w.heap.size w (fun k => w.heap.size ≤ k) (Z0 w.heap.size) W W (w.heap.size + 1 + 1) s d x sl dl xl a
theorem NI.cellsX {w : World} {X : List (Nat × Obj)} (h : ∀ q ∈ X, q.2.isCells = true) : ∀ q ∈ X ++ Z0 w.heap.size, q.2.isCells = true := by
  intro q hq
  rcases List.mem_append.1 hq with hq | hq
  · exact h q hq
  · exact z0_cells _ q hq
theorem NI.bk {w : World} {L : List S94} {X : List (Nat × Obj)} {i n : Nat} {W W' : World} (h : NI w L X i W) (hn : w.heap.size ≤ n) (k : Bk n W W') : NI w L X i W' := by
  obtain ⟨t, s, d, x, h1, h2, h3⟩ := h
  exact ⟨t, s, d, x, h1, h2.bk (NI.cellsX h3) hn k, h3⟩
theorem NI.grow {w : World} {L : List S94} {X : List (Nat × Obj)} {i : Nat} {W : World} (h : NI w L X i W) (o : Obj) (ho : o.isCells = true) : NI w L ((W.heap.size, o) :: X) i (W.alloc o) := by
  obtain ⟨t, s, d, x, h1, h2, h3⟩ := h
  refine ⟨t, s, d, x, h1, (h2.add o).reset, fun q hq => ?_⟩
  rcases List.mem_cons.1 hq with rfl | hq
  · exact ho
  · exact h3 q hq
theorem Mq.be {base : Nat} {W0 : World} {Z : List (Nat × Obj)} {Wk W : World} {Bm : Nat} {s d x : Value} {sl : List S80} {dl xl : List Int} {a : Int} (h : Mq base W0 (fun k => W0.heap.size ≤ k) Z Wk W Bm s d x sl dl xl a) : Below W0.heap.size W0 W :=
  h.u.below (Nat.le_refl _) (fun k hk hs => by omega)
theorem NP.bk {w : World} {L : List S94} {ch : List PanicEntry} {n : Nat} {W W' : World} (h : NP w L ch W) (hn : w.heap.size ≤ n) (k : Bk n W W') : NP w L ch W' := by
  obtain ⟨h1, h0, s, d, x, sl, dl, xl, a, h2⟩ := h
  exact ⟨h1, h0, s, d, x, sl, dl, xl, a, h2.bk (z0_cells _) hn k⟩
theorem leaveN {tmps : Array Value} {W : World} {R : Ending → World → Prop} {b : Nat} {v0 v1 v2 : Value} {c : Int} (h2 : tmps.getD 2 undef = .pointer (some ⟨b, 0, none⟩)) (h3 : tmps.getD 3 undef = .pointer (some ⟨b + 1, 0, none⟩))
    (g0 : W.cell? ⟨b, 0, none⟩ = some v0) (g1 : W.cell? ⟨b, 1, none⟩ = some v1) (g2 : W.cell? ⟨b, 2, none⟩ = some v2) (g3 : W.cell? ⟨b + 1, 0, none⟩ = some (.int .i64 c))
    (h : R (.returned (.tuple #[.agg #[v0, v1, v2], .int .i64 c])) W) : LeavesInM (FN EX) 0 Try.prog Try.f63 tmps R [] .returning W := by
  refine ⟨.tuple #[.agg #[v0, v1, v2], .int .i64 c], ?_, h⟩
  have h2' : tmps[2]?.getD undef = .pointer (some ⟨b, 0, none⟩) := by simpa using h2
  have h3' : tmps[3]?.getD undef = .pointer (some ⟨b + 1, 0, none⟩) := by simpa using h3
  simp [results, Try.results63, go_sem, h2', h3', g0, g1, g2, g3]
theorem Mq.fin {w : World} {Z : List (Nat × Obj)} {Wk W W' : World} {Bm : Nat} {s d x : Value} {sl : List S80} {dl xl : List Int} {a : Int} (h : Mq w.heap.size w (fun k => w.heap.size ≤ k) Z Wk W Bm s d x sl dl xl a)
    {S : Nat → Prop} (hu : Upd S W W') (hz : ∀ k, S k → ¬ MS Bm s d x k) (hS : ∀ k, S k → w.heap.size ≤ k) :
    Kd.R k80 80 W' w.heap.size (fun _ => True) s sl ∧ Kd.R (Kd.int .u8) 5 W' w.heap.size (fun k_ => some k_ ≠ (x : Value).ownBlock) d dl ∧ Kd.R (Kd.int .u8) 5 W' w.heap.size (fun k_ => some k_ ≠ (d : Value).ownBlock) x xl ∧ Below w.heap.size w W' := by
  have mv : ∀ {e size n : Nat} {v : Value} {xs : List Value}, W.ownsRow w.heap.size e size v n xs → (∀ k, v.ownBlock = some k → MS Bm s d x k) → W'.ownsRow w.heap.size e size v n xs := by
    intro e size n v xs ho hm
    exact own_move ho (fun k hk => hu.block k (own_lt ho k hk) (fun hs => hz k hs (hm k hk)))
  refine ⟨R80_of_own (mv h.m.rs (fun k hk => .inr (.inl hk))) (fun _ _ => trivial), Kd.R_of_own (mv h.m.rd (fun k hk => .inr (.inr (.inl hk)))) (fun k hk e => h.m.ne k hk e.symm), Kd.R_of_own (mv h.m.rx (fun k hk => .inr (.inr (.inr hk)))) (fun k hk e => h.m.ne k e.symm hk), ?_⟩
  exact (h.u.trans (S' := S) hu (fun j hj hs => hS j hs)).below (Nat.le_refl _) (fun k hk hs => by omega)
theorem Upd.putObj {S : Nat → Prop} {a W : World} (h : Upd S a W) {D : Nat} (hD : S D) (o : Obj) : Upd S a (W.putObj D o) := by
  refine ⟨h.os, h.tape, h.output, by have := h.size; simpa using this, fun k hk hn => ?_⟩
  have hne : k ≠ D := fun e => hn (by rw [e]; exact hD)
  exact (World.putObj_heap_other hne).trans (h.block k hk hn)
theorem Mq.notD {base : Nat} {W0 : World} {S0 : Nat → Prop} {Z : List (Nat × Obj)} {Wk W : World} {Bm : Nat} {s d x : Value} {sl : List S80} {dl xl : List Int} {a : Int} (h : Mq base W0 S0 Z Wk W Bm s d x sl dl xl a) {D : Nat} {o : Obj} (hd : W.heap[D]? = some o) (ho : o.isCells = false) : ¬ MS Bm s d x D := by
  intro hk
  have hc : o.isCells = true := by
    rcases hk with rfl | hk | hk | hk
    · have := h.m.b
      rw [this] at hd
      cases hd
      rfl
    · exact own_cells h.m.rs hk hd
    · exact own_cells h.m.rd hk hd
    · exact own_cells h.m.rx hk hd
  rw [hc] at ho
  cases ho
theorem R80_nil (W : World) (b : Nat) : Kd.R k80 80 W b (fun _ => True) (.slice none 0 0) [] := Kd.R_nil _ _ _ _ _
set_option maxRecDepth 100000 in
set_option maxHeartbeats 8000000 in
theorem normal_in (gf : Nat) (lb : Array Value) (L : List S94) (w : World) (hL : L.length ≤ 16777216) (hgf : EX gf) (eg : ∀ args w, (callFunc gf args).run Try.prog w = .ok (.enter gf args) w) (hseq : IterOf w gf lb L) :
    CallsIn (FN EX) 0 Try.prog 63 #[.func (.func gf) #[] lb] w (NormR w (normOf L)) := by
  have HL := Hd.mk hL
  have HSEQ := Hd.mk hseq
  have HGF := Hd.mk hgf
  have HEG := Hd.mk eg
  clear hL hseq hgf eg
  refine callsIn_of_wp_marks (n := 0) Try.func63 rfl ⟨_, Try.func63⟩ ?_ rfl
  simp only [Try.ntmps63, List.size_toArray, List.length_cons, List.length_nil, Nat.reduceAdd, Nat.reduceSub, Array.replicate_succ, Array.replicate_zero, List.push_toArray, List.append_toArray, List.nil_append, List.cons_append]
  have hmf : ∀ (fn : Fn) (first cap : Array Value) (w : World), (Instr.makeFunc fn first cap).run Try.prog w = .ok (.func fn first cap) w := fun _ _ _ _ => rfl
  gi_wp2
  obtain ⟨W1, hW1⟩ : ∃ w_, ((((w.alloc (.cells #[.slice none 0 0, .slice none 0 0, .slice none 0 0] 28)).alloc (.cells #[.int .i64 0] 23)).alloc (.cells #[.slice none 0 0, .slice none 0 0, .slice none 0 0, .int .i64 0] 111)).alloc
      (.cells #[.pointer (some ⟨w.heap.size + 1 + 1, 0, none⟩)] 109)) = w_ := ⟨_, rfl⟩
  have hs1 : W1.heap.size = w.heap.size + 1 + 1 + 1 + 1 := by rw [← hW1]; simp
  have hb1 : Below w.heap.size w W1 := by
    rw [← hW1]
    exact ((((Below.refl _ w).alloc (Nat.le_refl _) _).alloc (by simp) _).alloc (by simp; omega) _).alloc (by simp; omega) _
  have z1 : W1.heap[w.heap.size]? = some (.cells #[.slice none 0 0, .slice none 0 0, .slice none 0 0] 28) := by
    rw [← hW1]
    exact blk_alloc (blk_alloc (blk_alloc (blk_new w _) _) _) _
  have z2 : W1.heap[w.heap.size + 1]? = some (.cells #[.int .i64 0] 23) := by
    rw [← hW1]
    have := blk_new (w.alloc (.cells #[.slice none 0 0, .slice none 0 0, .slice none 0 0] 28)) (.cells #[.int .i64 0] 23)
    rw [World.size_alloc] at this
    exact blk_alloc (blk_alloc this _) _
  have z3 : W1.heap[w.heap.size + 1 + 1]? = some (.cells #[.slice none 0 0, .slice none 0 0, .slice none 0 0, .int .i64 0] 111) := by
    rw [← hW1]
    have := blk_new ((w.alloc (.cells #[.slice none 0 0, .slice none 0 0, .slice none 0 0] 28)).alloc (.cells #[.int .i64 0] 23)) (.cells #[.slice none 0 0, .slice none 0 0, .slice none 0 0, .int .i64 0] 111)
    rw [World.size_alloc, World.size_alloc] at this
    exact blk_alloc this _
  have z4 : W1.heap[w.heap.size + 1 + 1 + 1]? = some (.cells #[.pointer (some ⟨w.heap.size + 1 + 1, 0, none⟩)] 109) := by
    rw [← hW1]
    have := blk_new (((w.alloc (.cells #[.slice none 0 0, .slice none 0 0, .slice none 0 0] 28)).alloc (.cells #[.int .i64 0] 23)).alloc (.cells #[.slice none 0 0, .slice none 0 0, .slice none 0 0, .int .i64 0] 111)) (.cells #[.pointer (some ⟨w.heap.size + 1 + 1, 0, none⟩)] 109)
    rw [World.size_alloc, World.size_alloc, World.size_alloc] at this
    exact this
  have hms : ∀ k, MS (w.heap.size + 1 + 1) (.slice none 0 0) (.slice none 0 0) (.slice none 0 0) k → k = w.heap.size + 1 + 1 := by
    intro k hk
    rcases hk with hk | hk | hk | hk
    · exact hk
    · simp [Value.ownBlock] at hk
    · simp [Value.ownBlock] at hk
    · simp [Value.ownBlock] at hk
  have hni : NI w L [] 0 W1 := by
    refine ⟨ts0, .slice none 0 0, .slice none 0 0, .slice none 0 0, rfl, ⟨⟨z3, by omega, own_nil _ _ _ _, own_nil _ _ _ _, own_nil _ _ _ _, fun g hg => by simp [Value.ownBlock] at hg⟩, Upd.of_below hb1, fun k hk => by rw [hms k hk]; left; omega, fun q hq => ?_, KeepsOthers.refl _⟩, fun q hq => by cases hq⟩
    simp [Z0] at hq
    rcases hq with rfl | rfl | rfl
    · exact ⟨z4, fun h => by have := hms _ h; simp at this⟩
    · exact ⟨z1, fun h => by have := hms _ h; simp at this; omega⟩
    · exact ⟨z2, fun h => by have := hms _ h; simp at this⟩
  have HNI := Hd.mk hni
  have HW1 := Hd.mk (show w.heap.size ≤ W1.heap.size by omega)
  rw [hW1]
  clear hW1 hs1 hb1 z1 z2 z3 z4 hms hni hmf
  refine wp_rangeK (F := FN EX) rfl rfl (gf := gf) (lb := lb) rfl HGF.out HEG.out (fun i => #[enc89 (L.getD i z94)]) (fun _ => rfl) L.length (NI w L) (fun _ _ => False) (NP w L) (.inr fun f hf => hf)
    HNI.out (fun X i W W' h k => h.bk HW1.out k) (fun X i W o ho h => h.grow o ho) (fun _ _ _ h _ => h) (fun c W W' h k => h.bk HW1.out k) ?seq ?round ?done (fun _ _ _ _ h _ => h.elim) ?pan
  case seq =>
    intro l W2 J Jx Jp hb2 hl hl2 hJI hGr hst hx hp hY h0
    exact HSEQ.out l W2.heap.size J Jx Jp (fun X i W hJ => by
      obtain ⟨t, s, d, x, _, h2, _⟩ := hJI X i W hJ
      exact ⟨h2.be, fun q hq => (h2.z q (List.mem_append_left _ hq)).1⟩) hGr hst hx hp hY W2 rfl h0
  case round =>
    rintro X l o i W hi ⟨t, s, d, x, ht, hM, hX⟩ hl ho hc
    obtain ⟨⟨fr, at_, by_⟩, hg⟩ : ∃ r, L.getD i z94 = r := ⟨_, rfl⟩
    simp only [hg]
    dsimp only [enc89]
    have HG := Hd.mk hg
    have HM := Hd.mk hM
    have HT := Hd.mk ht
    have HX := Hd.mk hX
    clear hg hM ho ht hX hl hc
    gi_wp2
    refine ⟨Ko.of (KeepsOthers.alloc _ _), fun W2 hb2 => ?_⟩
    have hM2 := (HM.out.add (.cells #[.bool (!fr), .int .i64 at_, .int .u8 by_] 89)).bk (fun q hq => by
      rcases List.mem_cons.1 hq with rfl | hq
      · rfl
      · exact NI.cellsX HX.out q hq) HW1.out hb2
    have hz := hM2.box
    have hbp : W2.cell? ⟨w.heap.size + 1 + 1 + 1, 0, none⟩ = some (.pointer (some ⟨w.heap.size + 1 + 1, 0, none⟩)) := (blk_cell (hM2.z (w.heap.size + 1 + 1 + 1, .cells #[.pointer (some ⟨w.heap.size + 1 + 1, 0, none⟩)] 109) (List.mem_cons_of_mem _ (List.mem_append_right _ List.mem_cons_self))).1 0).trans rfl
    obtain ⟨q0, q1, q2⟩ := hz
    have hM3 := hM2.less (Z' := X ++ Z0 w.heap.size) (fun q hq => List.mem_cons_of_mem _ hq)
    have hcall := take_in w.heap.size w (fun k => w.heap.size ≤ k) (X ++ Z0 w.heap.size) W2 (w.heap.size + 1 + 1) s d x t ⟨fr, at_, by_⟩ i (by have := HL.out; omega) (vt_tks L i t (by omega) HT.out) hM3
    dsimp only [enc89] at hcall
    have HCALL := Hd.mk hcall
    have h70 : EX 70 := ⟨_, Try.func70⟩
    clear hM2 hM3 hcall hb2
    gi_wp2_with fail
    have hc' : CallsIn ((FN EX).inRound l) 0 Try.prog 70 _ W2 _ := HCALL.out
    refine hc'.mono ?_
    intro e w' hT
    have htk := tks_take_succ L i t hi HT.out
    rw [HG.out] at htk
    obtain ⟨r, hr⟩ : ∃ r, tk t ⟨fr, at_, by_⟩ = r := ⟨_, rfl⟩
    rw [hr] at hT htk
    clear hr hc' HCALL q0 q1 q2 hbp h70 HM HT HG
    cases r with
    | some t' =>
      obtain ⟨rfl, s', d', x', hM'⟩ := hT
      have HK := Hd.mk hM'.ko
      have HI : Hd (NI w L X (i + 1) w') := ⟨t', s', d', x', htk, hM'.reset, HX.out⟩
      clear hM' htk
      gi_wp2
      exact ⟨Ko.of HK.out, HI.out⟩
    | none =>
      obtain ⟨⟨ch, rfl, rfl⟩, s', d', x', sl', dl', xl', a', hM'⟩ := hT
      refine ⟨rfl, Ko.of hM'.ko, rfl, tks_none L (i + 1) htk, s', d', x', sl', dl', xl', a', (hM'.less (fun q hq => List.mem_append_right _ hq)).reset⟩
  case pan =>
    rintro D ch W hD ⟨rfl, hno, s, d, x, sl, dl, xl, a, hM⟩ hd
    have hD' : w.heap.size ≤ D := Nat.le_trans HW1.out hD
    have hbk : Bk w.heap.size W (W.putObj D (.deferred none)) := Bk.putObj hD' hd rfl
    have hM2 := hM.bk (z0_cells _) (Nat.le_refl _) hbk
    have he := (hM2.z (w.heap.size, .cells #[.slice none 0 0, .slice none 0 0, .slice none 0 0] 28) (by simp [Z0])).1
    have hc := (hM2.z (w.heap.size + 1, .cells #[.int .i64 0] 23) (by simp [Z0])).1
    refine ⟨by simp, .inl ⟨_, _, rfl, run_takeDeferred hd, ?_⟩⟩
    refine ⟨by simp, .inr ⟨(fun h => by cases h), _, _, 69, #[.pointer (some ⟨w.heap.size, 0, none⟩), .pointer (some ⟨w.heap.size + 1, 0, none⟩)], rfl, by simp [go_sem], (fun g hg => by simp [Target.leads] at hg; subst hg; exact ⟨_, Try.func69⟩), ?_⟩⟩
    refine (catch_pan w.heap.size (w.heap.size + 1) _ he hc (by omega)).mono ?_
    rintro e u' w2 ⟨rfl, rfl, e1, c1, hu⟩
    have g0 := (blk_cell e1 0).trans rfl
    have g1 := (blk_cell e1 1).trans rfl
    have g2 := (blk_cell e1 2).trans rfl
    have g3 := (blk_cell c1 0).trans rfl
    have hb2 : Below w.heap.size w w2 := (hM2.u.trans (S' := fun k => k = w.heap.size ∨ k = w.heap.size + 1) hu (fun j hj hs => by omega)).below (Nat.le_refl _) (fun k hk hs => by omega)
    refine leaveN (b := w.heap.size) (v0 := .slice none 0 0) (v1 := .slice none 0 0) (v2 := .slice none 0 0) (c := 160) rfl rfl g0 g1 g2 g3 ?_
    have hn : normOf L = ([], [], [], 160) := by unfold normOf; rw [hno]; rfl
    rw [hn]
    exact ⟨_, _, _, rfl, R80_nil _ _, Kd.R_nil _ _ _ _ _, Kd.R_nil _ _ _ _ _, hb2⟩
  case done =>
    rintro X D W hD ⟨t, s, d, x, ht, hM, hX⟩ hd
    rw [List.take_length] at ht
    obtain ⟨As, cs, rfl⟩ := own_slice hM.m.rs
    obtain ⟨Ad, cd, rfl⟩ := own_slice hM.m.rd
    obtain ⟨Ax, cx, rfl⟩ := own_slice hM.m.rx
    have he := (hM.z (w.heap.size, .cells #[.slice none 0 0, .slice none 0 0, .slice none 0 0] 28) (List.mem_append_right _ (by simp [Z0])))
    have hc := (hM.z (w.heap.size + 1, .cells #[.int .i64 0] 23) (List.mem_append_right _ (by simp [Z0])))
    have hp := (hM.z (w.heap.size + 1 + 1 + 1, .cells #[.pointer (some ⟨w.heap.size + 1 + 1, 0, none⟩)] 109) (List.mem_append_right _ (by simp [Z0]))).1
    have p0 : W.cell? ⟨w.heap.size + 1 + 1 + 1, 0, none⟩ = some (.pointer (some ⟨w.heap.size + 1 + 1, 0, none⟩)) := (blk_cell hp 0).trans rfl
    obtain ⟨m0, m1, m2, m3⟩ := hM.cells
    have e0 : W.cell? ⟨w.heap.size, 0, none⟩ = some (.slice none 0 0) := (blk_cell he.1 0).trans rfl
    have e1 : W.cell? ⟨w.heap.size, 1, none⟩ = some (.slice none 0 0) := (blk_cell he.1 1).trans rfl
    have e2 : W.cell? ⟨w.heap.size, 2, none⟩ = some (.slice none 0 0) := (blk_cell he.1 2).trans rfl
    have f0 := blk_frozen he.1 0
    have f1 := blk_frozen he.1 1
    have f2 := blk_frozen he.1 2
    have c0 : W.cell? ⟨w.heap.size + 1, 0, none⟩ = some (.int .i64 0) := (blk_cell hc.1 0).trans rfl
    have g0 := blk_frozen hc.1 0
    have HM := Hd.mk hM
    have HE := Hd.mk he
    have HC := Hd.mk hc
    have HT := Hd.mk ht
    have HD := Hd.mk hd
    have HDD := Hd.mk hD
    clear hM he hc ht hd hX hp hD
    gi_wp2
    obtain ⟨W4, hW4⟩ : ∃ w_, (((W.setCell ⟨w.heap.size, 0, none⟩ (.slice As t.st.length cs)).setCell ⟨w.heap.size, 1, none⟩ (.slice Ad t.d.length cd)).setCell ⟨w.heap.size, 2, none⟩ (.slice Ax t.x.length cx)).setCell ⟨w.heap.size + 1, 0, none⟩ (.int .i64 0) = w_ := ⟨_, rfl⟩
    have hne : w.heap.size ≠ w.heap.size + 1 := by omega
    have k1 := blk_set (blk_set (blk_set HE.out.1 0 (.slice As t.st.length cs)) 1 (.slice Ad t.d.length cd)) 2 (.slice Ax t.x.length cx)
    have k2 := blk_far k1 (p := ⟨w.heap.size + 1, 0, none⟩) hne (.int .i64 0)
    have k3 := blk_set (blk_far (blk_far (blk_far HC.out.1 (p := ⟨w.heap.size, 0, none⟩) (Ne.symm hne) (.slice As t.st.length cs)) (p := ⟨w.heap.size, 1, none⟩) (Ne.symm hne) (.slice Ad t.d.length cd)) (p := ⟨w.heap.size, 2, none⟩) (Ne.symm hne) (.slice Ax t.x.length cx)) 0 (.int .i64 0)
    have hu : Upd (fun k => k = w.heap.size ∨ k = w.heap.size + 1 ∨ k = D) W W4 := by
      rw [← hW4]
      exact ((((Upd.refl _ W).setCell _ (.inl (.inl rfl)) _).setCell _ (.inl (.inl rfl)) _).setCell _ (.inl (.inl rfl)) _).setCell _ (.inl (.inr (.inl rfl))) _
    rw [hW4] at k2 k3 ⊢
    simp at k2 k3
    have hnD := HM.out.notD HD.out rfl
    have hD0 : D ≠ w.heap.size := by
      rintro rfl
      have := HE.out.1
      rw [HD.out] at this
      cases this
    have hD1 : D ≠ w.heap.size + 1 := by
      rintro rfl
      have := HC.out.1
      rw [HD.out] at this
      cases this
    have hd4 : W4.heap[D]? = some (.deferred (some [])) := by
      rw [← hW4]
      exact (Below.heap_setCell _ _ _ _ hD1).trans ((Below.heap_setCell _ _ _ _ hD0).trans ((Below.heap_setCell _ _ _ _ hD0).trans ((Below.heap_setCell _ _ _ _ hD0).trans HD.out)))
    have hu5 := hu.putObj (D := D) (.inr (.inr rfl)) (.deferred none)
    have q2 : (W4.putObj D (.deferred none)).heap[w.heap.size]? = some (.cells #[.slice As t.st.length cs, .slice Ad t.d.length cd, .slice Ax t.x.length cx] 28 (0, 0)) := (World.putObj_heap_other (Ne.symm hD0)).trans k2
    have q3 : (W4.putObj D (.deferred none)).heap[w.heap.size + 1]? = some (.cells #[.int .i64 0] 23 (0, 0)) := (World.putObj_heap_other (Ne.symm hD1)).trans k3
    obtain ⟨r1, r2, r3, r4⟩ := HM.out.fin hu5 (fun k hk => by
      rcases hk with rfl | rfl | rfl
      · exact HE.out.2
      · exact HC.out.2
      · exact hnD) (fun k hk => by
      have h1 := HDD.out
      have h2 := HW1.out
      rcases hk with rfl | rfl | rfl <;> omega)
    refine ⟨by simp, .inl ⟨_, _, rfl, run_takeDeferred hd4, ?_⟩⟩
    refine ⟨by simp, .inr ⟨(fun h => by cases h), _, _, 69, #[.pointer (some ⟨w.heap.size, 0, none⟩), .pointer (some ⟨w.heap.size + 1, 0, none⟩)], rfl, by simp [go_sem], (fun g hg => by simp [Target.leads] at hg; subst hg; exact ⟨_, Try.func69⟩), ?_⟩⟩
    refine (catch_idle w.heap.size (w.heap.size + 1) _).mono ?_
    rintro e u' w2 ⟨rfl, rfl, rfl⟩
    refine leaveN (b := w.heap.size) (v0 := .slice As t.st.length cs) (v1 := .slice Ad t.d.length cd) (v2 := .slice Ax t.x.length cx) (c := 0) rfl rfl ((blk_cell q2 0).trans rfl) ((blk_cell q2 1).trans rfl) ((blk_cell q2 2).trans rfl) ((blk_cell q3 0).trans rfl) ?_
    have hn : normOf L = (t.st, t.d, t.x, 0) := by unfold normOf; rw [HT.out]; rfl
    rw [hn]
    exact ⟨_, _, _, rfl, r1, r2, r3, r4⟩
end Go.Proofs.Ytemlbjpefomboaa
