/- A range over a function whose rounds may panic: my own laws, over the kit's. ; A range over a function whose iterator keeps blocks of its own beside the rounds' (X): what a round leaves as it was. ; A region of plain operations: what is shown of it outside of a fence holds within one, in a round, too. -/
import Derived.RangeFuncNested
import Derived.RangeFuncLeaves
import Derived.RangeFuncCalls
import Derived.WalkKit
import Derived.Test.YtmfnjmecnhagmaaAp
import Derived.OrdersIn
import Derived.Test.YtmfnjmecnhagmaaW0
namespace Go.Proofs.Ytmfnjmecnhagmaa
open Go.RowKit
set_option linter.unusedVariables false
/-- How a round may end: as the kit has it, or by a panic that the body lets go. -/
def roundPostP (P : Program) (l : Nat) (R : Ending → World → Prop) : Exit → Act → World → Prop
  | .panic chain, a, w => a.defers = [] ∧ R (.panicked chain) w
  | e, a, w => roundPost P l R e a w
theorem round_p {F : Fence} {n : Nat} {P : Program} {l : Nat} {f : FuncId} {fn : Func} {tmps : Array Value} {assign body : Code} {w : World} {R : Ending → World → Prop} (hF : F.fn f) (hf : P.funcs[f]? = some fn)
    (h : assign.wpIn (F.inRound l) n P (Exit.then (fun a₁ w₁ => ∃ w₂, (Instr.beginRound l).run P w₁ = .ok () w₂ ∧ body.wpIn (F.inRound l) n P (roundPostP P l R) a₁ w₂) (fun _ _ _ => False)) { tmps := tmps, defers := [] } w) :
    RoundIn F n P l f tmps assign body w R := by
  refine ⟨hF, fun c cs hr => ?_⟩
  let b : Frame := { (default : Frame) with fn := f, kind := .normal, roundOf := some l }
  have hb0 : Frame.round l f tmps assign body .normal = b.atR { tmps := tmps, defers := [] } [.code assign, .beginRound, .code body] := by
    simp [Frame.round, Frame.atR, b]
  have room : (F.inRound l).room ((c :: cs).length + 1 + n) := hr
  have inF : (F.inRound l).fn b.fn := hF
  obtain ⟨e, a1, w1, hq, arr⟩ := h b [.beginRound, .code body] (c :: cs) rfl inF room
  rw [← hb0] at arr
  cases e with
  | normal =>
    obtain ⟨w2, hbegin, hbody⟩ := hq
    have one : StepsIn (Machine.fenced P (F.inRound l)) P (lone (b.atR a1 [.beginRound, .code body]) (c :: cs) w1) (lone (b.atR a1 [.code body]) (c :: cs) w2) :=
      .one (fenced_calm (fr := b.atR a1 [.beginRound, .code body]) inF room rfl) (stepR_beginRound rfl hbegin)
    have start := StepsIn.trans arr one
    obtain ⟨e2, a2, w3, hq2, arr2⟩ := hbody b [] (c :: cs) rfl inF room
    cases e2 with
    | normal =>
      obtain ⟨v, w4, hend, hR⟩ := hq2
      exact ⟨.returned v, w4, hR, (start.trans arr2).trans (.one (fenced_calm (fr := b.atR a2 []) inF room rfl) (stepR_round_end rfl rfl hend))⟩
    | ret =>
      obtain ⟨v, w4, hend, hR⟩ := hq2
      obtain ⟨k1, hs⟩ := arr2.2 rfl
      exact ⟨.returned v, w4, hR, (start.trans hs).trans (.one (fenced_calm (fr := b.atR a2 (.code .ret :: k1)) inF room rfl) (stepR_round_ret rfl rfl hend))⟩
    | exit id =>
      obtain ⟨v, w4, hend, hR⟩ := hq2
      obtain ⟨k1, hk, hs⟩ := arr2.2 rfl rfl
      exact ⟨.returned v, w4, hR, (start.trans hs).trans (.one (fenced_calm (fr := b.atR a2 (.code (.exit id) :: k1)) inF room rfl) (stepR_round_exit rfl rfl hk hend))⟩
    | goto t =>
      obtain ⟨v, w4, hend, hR⟩ := hq2
      obtain ⟨k1, hk, hs⟩ := arr2.2 rfl rfl
      exact ⟨.returned v, w4, hR, (start.trans hs).trans (.one (fenced_calm (fr := b.atR a2 (.code (.goto t) :: k1)) inF room rfl) (stepR_round_goto rfl rfl hk hend))⟩
    | panic chain =>
      obtain ⟨hd, hR⟩ := hq2
      obtain ⟨todo, hs⟩ := arr2
      have lv : ({ b.atR a2 todo with mode := .panicking chain } : Frame).leaving P w3 (.panicked chain) := ⟨rfl, hd, fn, hf⟩
      exact ⟨.panicked chain, w3, hR, (start.trans hs).trans (.one (fenced_leaving (n := n) inF room lv) (step_leave_panicked lv))⟩
    | outgrown => exact hq2.elim
  | exit id => exact hq.elim
  | goto t => exact hq.elim
  | ret => exact hq.elim
  | panic chain => exact hq.elim
  | outgrown => exact hq.elim

/-! ### The statement -/
/-- Book-keeping: cells lie as they lay, and so does whatever lies below n. -/
structure Bk (n : Nat) (W W' : World) : Prop where
  os : W'.os = W.os
  tape : W'.tape = W.tape
  output : W'.output = W.output
  size : W.heap.size ≤ W'.heap.size
  block : ∀ k o, W.heap[k]? = some o → (o.isCells = true ∨ k < n) → W'.heap[k]? = some o
theorem Bk.refl (n : Nat) (W : World) : Bk n W W := ⟨rfl, rfl, rfl, Nat.le_refl _, fun _ _ h _ => h⟩
theorem Bk.trans {n : Nat} {A B C : World} (h : Bk n A B) (k : Bk n B C) : Bk n A C :=
  ⟨k.os.trans h.os, k.tape.trans h.tape, k.output.trans h.output, Nat.le_trans h.size k.size, fun i o hi hc => k.block i o (h.block i o hi hc) hc⟩
theorem Bk.more {m n : Nat} {A B : World} (h : Bk n A B) (hm : m ≤ n) : Bk m A B := ⟨h.os, h.tape, h.output, h.size, fun i o hi hc => h.block i o hi (hc.imp id fun h => by omega)⟩
theorem Bk.of_below {n : Nat} {A B : World} (h : Below A.heap.size A B) : Bk n A B :=
  ⟨h.os, h.tape, h.output, h.size, fun i o hi _ => (h.block i (Array.getElem?_eq_some_iff.1 hi).1).trans hi⟩
theorem Bk.putObj {n : Nat} {W : World} {l : Nat} {o o' : Obj} (hl : n ≤ l) (h : W.heap[l]? = some o) (hc : o.isCells = false) : Bk n W (W.putObj l o') := by
  refine ⟨rfl, rfl, rfl, by simp, fun k x hk hx => ?_⟩
  by_cases e : k = l
  · subst e
    rw [h] at hk
    cases hk
    rcases hx with hx | hx
    · rw [hc] at hx; cases hx
    · omega
  · exact (World.putObj_heap_other e).trans hk
theorem Bk.below {n : Nat} {w W W' : World} (h : Below n w W) (hn : n ≤ W.heap.size) (b : Bk n W W') : Below n w W' := by
  refine ⟨b.os.trans h.os, b.tape.trans h.tape, b.output.trans h.output, Nat.le_trans h.size b.size, fun k hk => ?_⟩
  rw [← h.block k hk]
  have hlt : k < W.heap.size := by omega
  rw [Array.getElem?_eq_getElem hlt]
  exact b.block k _ (Array.getElem?_eq_getElem hlt) (.inr hk)
/-- How a body may be left. -/
def bodyEnd (I : Nat → World → Prop) (Ix : Code → World → Prop) (Ip : List PanicEntry → World → Prop) (i : Nat) (W : World) : Exit → Act → World → Prop
  | .normal, _, W' => KeepsOthers W W' ∧ I (i + 1) W'
  | .ret, _, W' => KeepsOthers W W' ∧ Ix .ret W'
  | .exit id, _, W' => KeepsOthers W W' ∧ Ix (.exit id) W'
  | .goto t, _, W' => KeepsOthers W W' ∧ Ix (.goto t) W'
  | .panic ch, a, W' => a.defers = [] ∧ KeepsOthers W W' ∧ Ip ch W'
  | .outgrown, _, _ => False
/-- What an iterator's contract says of a call of yield. -/
def RoundGives (J : Nat → World → Prop) (Jx : World → Prop) (Jp : List PanicEntry → World → Prop) (i : Nat) (e : Ending) (W' : World) : Prop :=
  (e = .returned (.bool true) ∧ J (i + 1) W') ∨ (e = .returned (.bool false) ∧ Jx W') ∨ ∃ ch, e = .panicked ch ∧ Jp ch W'
/-- What an iterator's contract says at its end. -/
def IterGives (J : Nat → World → Prop) (Jx : World → Prop) (Jp : List PanicEntry → World → Prop) (N : Nat) (e : Ending) (W' : World) : Prop :=
  (∃ v, e = .returned v ∧ (J N W' ∨ Jx W')) ∨ ∃ ch, e = .panicked ch ∧ Jp ch W'
theorem noJump {P : Program} {l : Nat} {R : Ending → World → Prop} {e : Exit} {a : Act} {w : World} (h : roundPost P l R e a w) (hp : ∀ ch, e ≠ .panic ch) : roundPostP P l R e a w := by
  cases e with
  | panic ch => exact absurd rfl (hp ch)
  | normal => exact h
  | ret => exact h
  | exit id => exact h
  | goto t => exact h
  | outgrown => exact h
theorem wp_range {F : Fence} {P : Program} {g : Operand} {ps : Array Tmp} {assign body : Code} {Q : Exit → Act → World → Prop} {a : Act} {w : World} (hro : F.round = none) (hd : F.depth = none)
    {gf : Nat} {lb : Array Value} (hg : a.eval g = .func (.func gf) #[] lb) (hgf : F.fn gf) (eg : ∀ args w, (callFunc gf args).run P w = .ok (.enter gf args) w)
    (encs : Nat → Array Value) (hps : ∀ i, (encs i).size = ps.size) (N : Nat) (I : Nat → World → Prop) (Ix : Code → World → Prop) (Ip : List PanicEntry → World → Prop)
    (hex : (∀ ch W, ¬ Ip ch W) ∨ ∀ f, F.fn f → ∃ fn, P.funcs[f]? = some fn)
    (hI0 : I 0 w) (hI : ∀ i W W', I i W → Bk w.heap.size W W' → I i W') (hIx : ∀ c W W', Ix c W → Bk w.heap.size W W' → Ix c W') (hIp : ∀ c W W', Ip c W → Bk w.heap.size W W' → Ip c W')
    (hseq : ∀ (l : Nat) (W1 : World) (J : Nat → World → Prop) (Jx : World → Prop) (Jp : List PanicEntry → World → Prop), Below w.heap.size w W1 → l < W1.heap.size → w.heap.size ≤ l → (∀ i W, J i W → I i W) →
      (∀ i W W', J i W → Bk W1.heap.size W W' → J i W') → (∀ W W', Jx W → Bk W1.heap.size W W' → Jx W') → (∀ c W W', Jp c W → Bk W1.heap.size W W' → Jp c W') →
      (∀ i W, i < N → J i W → YieldAt F 0 P l (encs i) W (RoundGives J Jx Jp i)) → J 0 W1 → CallsIn F 0 P gf (#[.func (.yield l) #[] #[]] ++ lb) W1 (IterGives J Jx Jp N))
    (hround : ∀ (l : Nat) (o : Obj) (i : Nat) (W : World), i < N → I i W → w.heap.size ≤ l → W.heap[l]? = some o → o.isCells = false → assign.wpIn (F.inRound l) 0 P
      (Exit.then (fun a1 W1 => KeepsOthers W W1 ∧ ∀ W2, Bk w.heap.size W1 W2 → body.wpIn (F.inRound l) 0 P (bodyEnd I Ix Ip i W2) a1 W2) (fun _ _ _ => False))
      { tmps := (ps.zip (encs i)).foldl (fun t (p, v) => t.setIfInBounds p v) a.tmps, defers := [] } W)
    (hdone : ∀ (D : Nat) (W : World), w.heap.size ≤ D → I N W → W.heap[D]? = some (.deferred (some [])) → Q .normal { a with defers := { target := .collected D, args := #[] } :: a.defers } W)
    (hstop : ∀ (D : Nat) (c : Code) (W : World), w.heap.size ≤ D → Ix c W → W.heap[D]? = some (.deferred (some [])) → c.wpIn F 0 P Q { a with defers := { target := .collected D, args := #[] } :: a.defers } W)
    (hpan : ∀ (D : Nat) (ch : List PanicEntry) (W : World), w.heap.size ≤ D → Ip ch W → W.heap[D]? = some (.deferred (some [])) → Q (.panic ch) { a with defers := { target := .collected D, args := #[] } :: a.defers } W) :
    (Code.rangeFunc g ps assign body).wpIn F 0 P Q a w := by
  refine wpIn_rangeFunc ?_
  intro fn hfn
  rw [hro]
  obtain ⟨rec, hrec⟩ : ∃ rec : LoopState → Option Code → Loop, rec = fun st pe => { state := st, pending := pe, fn, tmps := a.tmps, params := ps, assign, body, defers := w.heap.size } := ⟨_, rfl⟩
  obtain ⟨W1, hW1⟩ : ∃ W1, (w.alloc (.deferred (some []))).alloc (.loop (rec .ready none)) = W1 := ⟨_, rfl⟩
  have hsz : W1.heap.size = w.heap.size + 2 := by rw [← hW1]; simp
  have hL : W1.heap[w.heap.size + 1]? = some (.loop (rec .ready none)) := by
    rw [← hW1]
    have := World.alloc_heap_new (w.alloc (.deferred (some []))) (.loop (rec .ready none))
    rwa [World.size_alloc] at this
  have hD : W1.heap[w.heap.size]? = some (.deferred (some [])) := by
    rw [← hW1]
    exact (Below.heap_alloc _ _ _ (by simp)).trans (World.alloc_heap_new w _)
  have hb : Below w.heap.size w W1 := by rw [← hW1]; exact ((Below.refl _ w).alloc (Nat.le_refl _) _).alloc (by simp) _
  refine ⟨w.heap.size + 1, [{ target := .collected w.heap.size, args := #[] }], W1, { target := .fn (.func gf) lb, args := #[.func (.yield (w.heap.size + 1)) #[] #[]] }, W1, gf, #[.func (.yield (w.heap.size + 1)) #[] #[]] ++ lb, W1, ?_, ?_, ?_, ?_, ?_, ?_⟩
  · rw [← hW1, hrec]
    exact run_enterLoop_outer _ _ _ _ _
  · simp only [resolve, hg]
    simp [go_sem]
  · intro f hf
    simp [Target.leads] at hf
    subst hf
    exact hgf
  · simp [invoke, go_sem, eg]
  · rw [hd]
    intro h
    cases h
  -- the iterator's contract, the record and the block for deferred calls beside the caller's own words
  · let J : Nat → World → Prop := fun i W => I i W ∧ W.heap[w.heap.size + 1]? = some (.loop (rec .ready none)) ∧ W.heap[w.heap.size]? = some (.deferred (some []))
    let Jx : World → Prop := fun W => ∃ c, Ix c W ∧ W.heap[w.heap.size + 1]? = some (.loop (rec .done (some c))) ∧ W.heap[w.heap.size]? = some (.deferred (some []))
    let Jp : List PanicEntry → World → Prop := fun ch W => Ip ch W ∧ W.heap[w.heap.size]? = some (.deferred (some []))
    have turn : ∀ {W W' : World}, Bk W1.heap.size W W' → Bk w.heap.size W W' := fun h => h.more (by omega)
    refine (hseq (w.heap.size + 1) W1 J Jx Jp hb (by omega) (by omega) (fun i W h => h.1)
      (fun i W W' h k => ⟨hI i W W' h.1 (turn k), k.block _ _ h.2.1 (.inr (by omega)), k.block _ _ h.2.2 (.inr (by omega))⟩)
      (fun W W' h k => by obtain ⟨c, h1, h2, h3⟩ := h; exact ⟨c, hIx c W W' h1 (turn k), k.block _ _ h2 (.inr (by omega)), k.block _ _ h3 (.inr (by omega))⟩)
      (fun c W W' h k => ⟨hIp c W W' h.1 (turn k), k.block _ _ h.2 (.inr (by omega))⟩) ?_ ⟨hI 0 w W1 hI0 (.of_below hb), hL, hD⟩).mono ?_
    · -- a round
      rintro i W hi ⟨h1, h2, h3⟩
      have hlt := (Array.getElem?_eq_some_iff.1 h2).1
      have hy := run_yield (P := P) (args := encs i) h2 (by rw [hrec]; exact hps i)
      rw [hrec] at hy
      refine ⟨fn, _, assign, body, hy, ?_⟩
      have hR := hround (w.heap.size + 1) _ i W hi h1 (by omega) h2 rfl
      have core : ∀ (T : Exit → Act → World → Prop), (∀ e a' W4 W2, W2.heap[w.heap.size + 1]? = some (.loop { rec .ready none with state := .busy }) → W2.heap[w.heap.size]? = some (.deferred (some [])) → bodyEnd I Ix Ip i W2 e a' W4 → T e a' W4) →
          assign.wpIn (F.inRound (w.heap.size + 1)) 0 P (Exit.then (fun a₁ w₁ => ∃ w₂, (Instr.beginRound (w.heap.size + 1)).run P w₁ = .ok () w₂ ∧ body.wpIn (F.inRound (w.heap.size + 1)) 0 P T a₁ w₂) (fun _ _ _ => False)) { tmps := (ps.zip (encs i)).foldl (fun t (p, v) => t.setIfInBounds p v) a.tmps, defers := [] } W := by
        intro T hT
        refine wpIn_mono hR fun e a1 W3 hq => ?_
        cases e with
        | normal =>
          obtain ⟨hk, hb3⟩ := hq
          have h2' := hk.same _ _ h2 rfl
          have h3' := hk.same _ _ h3 rfl
          refine ⟨_, run_beginRound h2' (by rw [hrec]), wpIn_mono (hb3 _ (Bk.putObj (by omega) h2' rfl)) fun e a' W4 hq4 => hT e a' W4 _ ?_ ?_ hq4⟩
          · exact World.putObj_heap_same (Array.getElem?_eq_some_iff.1 h2').1
          · exact (World.putObj_heap_other (by omega)).trans h3'
        | ret => exact hq.elim
        | exit id => exact hq.elim
        | goto t => exact hq.elim
        | panic ch => exact hq.elim
        | outgrown => exact hq.elim
      have fin : ∀ (jump : Option Code) (W2 W4 : World), W2.heap[w.heap.size + 1]? = some (.loop { rec .ready none with state := .busy }) → W2.heap[w.heap.size]? = some (.deferred (some [])) → KeepsOthers W2 W4 →
          (Instr.endRound (w.heap.size + 1) jump).run P W4 = .ok (.bool jump.isNone) (W4.putObj (w.heap.size + 1) (.loop (rec (if jump.isNone then .ready else .done) jump))) ∧
          Bk w.heap.size W4 (W4.putObj (w.heap.size + 1) (.loop (rec (if jump.isNone then .ready else .done) jump))) ∧
          (W4.putObj (w.heap.size + 1) (.loop (rec (if jump.isNone then .ready else .done) jump))).heap[w.heap.size + 1]? = some (.loop (rec (if jump.isNone then .ready else .done) jump)) ∧
          (W4.putObj (w.heap.size + 1) (.loop (rec (if jump.isNone then .ready else .done) jump))).heap[w.heap.size]? = some (.deferred (some [])) := by
        intro jump W2 W4 k2 k3 hk
        have k2' := hk.same _ _ k2 rfl
        have k3' := hk.same _ _ k3 rfl
        have hr := run_endRound (P := P) jump k2'
        refine ⟨?_, Bk.putObj (by omega) k2' rfl, World.putObj_heap_same (Array.getElem?_eq_some_iff.1 k2').1, (World.putObj_heap_other (by omega)).trans k3'⟩
        rw [hrec] at hr ⊢
        exact hr
      have ends : ∀ e a' W4 W2, W2.heap[w.heap.size + 1]? = some (.loop { rec .ready none with state := .busy }) → W2.heap[w.heap.size]? = some (.deferred (some [])) → bodyEnd I Ix Ip i W2 e a' W4 → (∀ ch, e ≠ .panic ch) →
          roundPost P (w.heap.size + 1) (RoundGives J Jx Jp i) e a' W4 := by
        intro e a' W4 W2 k2 k3 hq hnp
        cases e with
        | normal =>
          obtain ⟨hk, hi4⟩ := hq
          obtain ⟨r1, r2, r3, r4⟩ := fin none W2 W4 k2 k3 hk
          exact ⟨_, _, r1, .inl ⟨rfl, hI _ _ _ hi4 r2, r3, r4⟩⟩
        | ret =>
          obtain ⟨hk, hi4⟩ := hq
          obtain ⟨r1, r2, r3, r4⟩ := fin (some .ret) W2 W4 k2 k3 hk
          exact ⟨_, _, r1, .inr (.inl ⟨rfl, _, hIx _ _ _ hi4 r2, r3, r4⟩)⟩
        | exit id =>
          obtain ⟨hk, hi4⟩ := hq
          obtain ⟨r1, r2, r3, r4⟩ := fin (some (.exit id)) W2 W4 k2 k3 hk
          exact ⟨_, _, r1, .inr (.inl ⟨rfl, _, hIx _ _ _ hi4 r2, r3, r4⟩)⟩
        | goto t =>
          obtain ⟨hk, hi4⟩ := hq
          obtain ⟨r1, r2, r3, r4⟩ := fin (some (.goto t)) W2 W4 k2 k3 hk
          exact ⟨_, _, r1, .inr (.inl ⟨rfl, _, hIx _ _ _ hi4 r2, r3, r4⟩)⟩
        | panic ch => exact absurd rfl (hnp ch)
        | outgrown => exact hq.elim
      rcases hex with hex | hex
      · refine roundIn_of_wpIn hfn (core _ fun e a' W4 W2 k2 k3 hq => ends e a' W4 W2 k2 k3 hq ?_)
        rintro ch rfl
        exact hex _ _ hq.2.2
      · obtain ⟨f, hf⟩ := hex fn hfn
        refine round_p hfn hf (core _ fun e a' W4 W2 k2 k3 hq => ?_)
        cases e with
        | panic ch =>
          obtain ⟨q1, q2, q3⟩ := hq
          exact ⟨q1, .inr (.inr ⟨ch, rfl, q3, q2.same _ _ k3 rfl⟩)⟩
        | normal => exact ends _ a' W4 W2 k2 k3 hq (by simp)
        | ret => exact ends _ a' W4 W2 k2 k3 hq (by simp)
        | exit id => exact ends _ a' W4 W2 k2 k3 hq (by simp)
        | goto t => exact ends _ a' W4 W2 k2 k3 hq (by simp)
        | outgrown => exact hq.elim
    · -- behind the iterator
      rintro e W2 (⟨v, rfl, (⟨h1, h2, h3⟩ | ⟨c, h1, h2, h3⟩)⟩ | ⟨ch, rfl, h1, h3⟩)
      · have hr := run_endLoop (P := P) h2 (by rw [hrec]; simp)
        obtain ⟨o', ho'⟩ : ∃ o', (Instr.endLoop (w.heap.size + 1)).run P W2 = .ok none (W2.putObj (w.heap.size + 1) o') := ⟨_, by rw [hrec] at hr; exact hr⟩
        exact ⟨none, _, ho', hdone _ _ (Nat.le_refl _) (hI _ _ _ h1 (Bk.putObj (by omega) h2 rfl)) ((World.putObj_heap_other (by omega)).trans h3)⟩
      · have hr := run_endLoop (P := P) h2 (by rw [hrec]; simp)
        obtain ⟨o', ho'⟩ : ∃ o', (Instr.endLoop (w.heap.size + 1)).run P W2 = .ok (some c) (W2.putObj (w.heap.size + 1) o') := ⟨_, by rw [hrec] at hr; exact hr⟩
        exact ⟨some c, _, ho', hstop _ c _ (Nat.le_refl _) (hIx _ _ _ h1 (Bk.putObj (by omega) h2 rfl)) ((World.putObj_heap_other (by omega)).trans h3)⟩
      · exact hpan _ ch _ (Nat.le_refl _) h1 h3
/-- The same, where a body may go on or break out to the block that holds the statement: both come out at one place. -/
theorem wp_range_brk {F : Fence} {P : Program} {g : Operand} {ps : Array Tmp} {assign body : Code} {Q : Exit → Act → World → Prop} {a : Act} {w : World} (hro : F.round = none) (hd : F.depth = none)
    {gf : Nat} {lb : Array Value} (hg : a.eval g = .func (.func gf) #[] lb) (hgf : F.fn gf) (eg : ∀ args w, (callFunc gf args).run P w = .ok (.enter gf args) w)
    (encs : Nat → Array Value) (hps : ∀ i, (encs i).size = ps.size) (N : Nat) (id : Nat) (I : Nat → World → Prop) (Ib : World → Prop) (hQ : ∀ a w, Q .normal a w → Q (.exit id) a w)
    (hI0 : I 0 w) (hI : ∀ i W W', I i W → Bk w.heap.size W W' → I i W') (hIb : ∀ W W', Ib W → Bk w.heap.size W W' → Ib W')
    (hseq : ∀ (l : Nat) (W1 : World) (J : Nat → World → Prop) (Jx : World → Prop) (Jp : List PanicEntry → World → Prop), Below w.heap.size w W1 → l < W1.heap.size → w.heap.size ≤ l → (∀ i W, J i W → I i W) →
      (∀ i W W', J i W → Bk W1.heap.size W W' → J i W') → (∀ W W', Jx W → Bk W1.heap.size W W' → Jx W') → (∀ c W W', Jp c W → Bk W1.heap.size W W' → Jp c W') →
      (∀ i W, i < N → J i W → YieldAt F 0 P l (encs i) W (RoundGives J Jx Jp i)) → J 0 W1 → CallsIn F 0 P gf (#[.func (.yield l) #[] #[]] ++ lb) W1 (IterGives J Jx Jp N))
    (hround : ∀ (l : Nat) (o : Obj) (i : Nat) (W : World), i < N → I i W → w.heap.size ≤ l → W.heap[l]? = some o → o.isCells = false → assign.wpIn (F.inRound l) 0 P
      (Exit.then (fun a1 W1 => KeepsOthers W W1 ∧ ∀ W2, Bk w.heap.size W1 W2 → body.wpIn (F.inRound l) 0 P (bodyEnd I (fun c W => c = .exit id ∧ Ib W) (fun _ _ => False) i W2) a1 W2) (fun _ _ _ => False))
      { tmps := (ps.zip (encs i)).foldl (fun t (p, v) => t.setIfInBounds p v) a.tmps, defers := [] } W)
    (hout : ∀ (D : Nat) (W : World), w.heap.size ≤ D → I N W ∨ Ib W → W.heap[D]? = some (.deferred (some [])) → Q .normal { a with defers := { target := .collected D, args := #[] } :: a.defers } W) :
    (Code.rangeFunc g ps assign body).wpIn F 0 P Q a w :=
  wp_range hro hd hg hgf eg encs hps N I (fun c W => c = .exit id ∧ Ib W) (fun _ _ => False) (.inl fun _ _ h => h) hI0 hI (fun c W W' h k => ⟨h.1, hIb W W' h.2 k⟩) (fun _ _ _ h _ => h.elim) hseq hround
    (fun D W hD h hd => hout D W hD (.inl h) hd) (fun D c W hD h hd => by
      obtain ⟨rfl, h⟩ := h
      exact wpIn_exit (hQ _ _ (hout D W hD (.inr h) hd))) (fun _ _ _ _ h _ => h.elim)
end Go.Proofs.Ytmfnjmecnhagmaa
namespace Go.Proofs.Ytmfnjmecnhagmaa
open Go.RowKit Go.Proofs.YtmfnjmecnhagmaaW.PrintWords
set_option linter.unusedVariables false
theorem wp_rangeX {F : Fence} {P : Program} {g : Operand} {ps : Array Tmp} {assign body : Code} {Q : Exit → Act → World → Prop} {a : Act} {w : World} (hro : F.round = none) (hd : F.depth = none)
    {gf : Nat} {lb : Array Value} (hg : a.eval g = .func (.func gf) #[] lb) (hgf : F.fn gf) (eg : ∀ args w, (callFunc gf args).run P w = .ok (.enter gf args) w)
    (encs : Nat → Array Value) (hps : ∀ i, (encs i).size = ps.size) (N : Nat) (I : List (Nat × Obj) → Nat → World → Prop) (Ix : Code → World → Prop) (Ip : List PanicEntry → World → Prop)
    (hex : (∀ ch W, ¬ Ip ch W) ∨ ∀ f, F.fn f → ∃ fn, P.funcs[f]? = some fn)
    (hI0 : I [] 0 w) (hI : ∀ X i W W', I X i W → Bk w.heap.size W W' → I X i W') (hG : ∀ X i W o, o.isCells = true → I X i W → I ((W.heap.size, o) :: X) i (W.alloc o)) (hIx : ∀ c W W', Ix c W → Bk w.heap.size W W' → Ix c W') (hIp : ∀ c W W', Ip c W → Bk w.heap.size W W' → Ip c W')
    (hseq : ∀ (l : Nat) (W1 : World) (J : List (Nat × Obj) → Nat → World → Prop) (Jx : World → Prop) (Jp : List PanicEntry → World → Prop), Below w.heap.size w W1 → l < W1.heap.size → w.heap.size ≤ l → (∀ X i W, J X i W → I X i W) → (∀ X i W o, o.isCells = true → J X i W → J ((W.heap.size, o) :: X) i (W.alloc o)) →
      (∀ X i W W', J X i W → Bk W1.heap.size W W' → J X i W') → (∀ W W', Jx W → Bk W1.heap.size W W' → Jx W') → (∀ c W W', Jp c W → Bk W1.heap.size W W' → Jp c W') →
      (∀ X i W, i < N → J X i W → YieldAt F 0 P l (encs i) W (RoundGives (J X) Jx Jp i)) → J [] 0 W1 → CallsIn F 0 P gf (#[.func (.yield l) #[] #[]] ++ lb) W1 (IterGives (fun i W => ∃ X, J X i W) Jx Jp N))
    (hround : ∀ (X : List (Nat × Obj)) (l : Nat) (o : Obj) (i : Nat) (W : World), i < N → I X i W → w.heap.size ≤ l → W.heap[l]? = some o → o.isCells = false → assign.wpIn (F.inRound l) 0 P
      (Exit.then (fun a1 W1 => KeepsOthers W W1 ∧ ∀ W2, Bk w.heap.size W1 W2 → body.wpIn (F.inRound l) 0 P (bodyEnd (I X) Ix Ip i W2) a1 W2) (fun _ _ _ => False))
      { tmps := (ps.zip (encs i)).foldl (fun t (p, v) => t.setIfInBounds p v) a.tmps, defers := [] } W)
    (hdone : ∀ (X : List (Nat × Obj)) (D : Nat) (W : World), w.heap.size ≤ D → I X N W → W.heap[D]? = some (.deferred (some [])) → Q .normal { a with defers := { target := .collected D, args := #[] } :: a.defers } W)
    (hstop : ∀ (D : Nat) (c : Code) (W : World), w.heap.size ≤ D → Ix c W → W.heap[D]? = some (.deferred (some [])) → c.wpIn F 0 P Q { a with defers := { target := .collected D, args := #[] } :: a.defers } W)
    (hpan : ∀ (D : Nat) (ch : List PanicEntry) (W : World), w.heap.size ≤ D → Ip ch W → W.heap[D]? = some (.deferred (some [])) → Q (.panic ch) { a with defers := { target := .collected D, args := #[] } :: a.defers } W) :
    (Code.rangeFunc g ps assign body).wpIn F 0 P Q a w := by
  refine wpIn_rangeFunc ?_
  intro fn hfn
  rw [hro]
  obtain ⟨rec, hrec⟩ : ∃ rec : LoopState → Option Code → Loop, rec = fun st pe => { state := st, pending := pe, fn, tmps := a.tmps, params := ps, assign, body, defers := w.heap.size } := ⟨_, rfl⟩
  obtain ⟨W1, hW1⟩ : ∃ W1, (w.alloc (.deferred (some []))).alloc (.loop (rec .ready none)) = W1 := ⟨_, rfl⟩
  have hsz : W1.heap.size = w.heap.size + 2 := by rw [← hW1]; simp
  have hL : W1.heap[w.heap.size + 1]? = some (.loop (rec .ready none)) := by
    rw [← hW1]
    have := World.alloc_heap_new (w.alloc (.deferred (some []))) (.loop (rec .ready none))
    rwa [World.size_alloc] at this
  have hD : W1.heap[w.heap.size]? = some (.deferred (some [])) := by
    rw [← hW1]
    exact (Below.heap_alloc _ _ _ (by simp)).trans (World.alloc_heap_new w _)
  have hb : Below w.heap.size w W1 := by rw [← hW1]; exact ((Below.refl _ w).alloc (Nat.le_refl _) _).alloc (by simp) _
  refine ⟨w.heap.size + 1, [{ target := .collected w.heap.size, args := #[] }], W1, { target := .fn (.func gf) lb, args := #[.func (.yield (w.heap.size + 1)) #[] #[]] }, W1, gf, #[.func (.yield (w.heap.size + 1)) #[] #[]] ++ lb, W1, ?_, ?_, ?_, ?_, ?_, ?_⟩
  · rw [← hW1, hrec]
    exact run_enterLoop_outer _ _ _ _ _
  · simp only [resolve, hg]
    simp [go_sem]
  · intro f hf
    simp [Target.leads] at hf
    subst hf
    exact hgf
  · simp [invoke, go_sem, eg]
  · rw [hd]
    intro h
    cases h
  -- the iterator's contract, the record and the block for deferred calls beside the caller's own words
  · let J : List (Nat × Obj) → Nat → World → Prop := fun X i W => I X i W ∧ W.heap[w.heap.size + 1]? = some (.loop (rec .ready none)) ∧ W.heap[w.heap.size]? = some (.deferred (some []))
    let Jx : World → Prop := fun W => ∃ c, Ix c W ∧ W.heap[w.heap.size + 1]? = some (.loop (rec .done (some c))) ∧ W.heap[w.heap.size]? = some (.deferred (some []))
    let Jp : List PanicEntry → World → Prop := fun ch W => Ip ch W ∧ W.heap[w.heap.size]? = some (.deferred (some []))
    have turn : ∀ {W W' : World}, Bk W1.heap.size W W' → Bk w.heap.size W W' := fun h => h.more (by omega)
    refine (hseq (w.heap.size + 1) W1 J Jx Jp hb (by omega) (by omega) (fun X i W h => h.1) (fun X i W o ho h => ⟨hG X i W o ho h.1, blk_alloc h.2.1 o, blk_alloc h.2.2 o⟩)
      (fun X i W W' h k => ⟨hI X i W W' h.1 (turn k), k.block _ _ h.2.1 (.inr (by omega)), k.block _ _ h.2.2 (.inr (by omega))⟩)
      (fun W W' h k => by obtain ⟨c, h1, h2, h3⟩ := h; exact ⟨c, hIx c W W' h1 (turn k), k.block _ _ h2 (.inr (by omega)), k.block _ _ h3 (.inr (by omega))⟩)
      (fun c W W' h k => ⟨hIp c W W' h.1 (turn k), k.block _ _ h.2 (.inr (by omega))⟩) ?_ ⟨hI [] 0 w W1 hI0 (.of_below hb), hL, hD⟩).mono ?_
    · -- a round
      rintro X i W hi ⟨h1, h2, h3⟩
      have hlt := (Array.getElem?_eq_some_iff.1 h2).1
      have hy := run_yield (P := P) (args := encs i) h2 (by rw [hrec]; exact hps i)
      rw [hrec] at hy
      refine ⟨fn, _, assign, body, hy, ?_⟩
      have hR := hround X (w.heap.size + 1) _ i W hi h1 (by omega) h2 rfl
      have core : ∀ (T : Exit → Act → World → Prop), (∀ e a' W4 W2, W2.heap[w.heap.size + 1]? = some (.loop { rec .ready none with state := .busy }) → W2.heap[w.heap.size]? = some (.deferred (some [])) → bodyEnd (I X) Ix Ip i W2 e a' W4 → T e a' W4) →
          assign.wpIn (F.inRound (w.heap.size + 1)) 0 P (Exit.then (fun a₁ w₁ => ∃ w₂, (Instr.beginRound (w.heap.size + 1)).run P w₁ = .ok () w₂ ∧ body.wpIn (F.inRound (w.heap.size + 1)) 0 P T a₁ w₂) (fun _ _ _ => False)) { tmps := (ps.zip (encs i)).foldl (fun t (p, v) => t.setIfInBounds p v) a.tmps, defers := [] } W := by
        intro T hT
        refine wpIn_mono hR fun e a1 W3 hq => ?_
        cases e with
        | normal =>
          obtain ⟨hk, hb3⟩ := hq
          have h2' := hk.same _ _ h2 rfl
          have h3' := hk.same _ _ h3 rfl
          refine ⟨_, run_beginRound h2' (by rw [hrec]), wpIn_mono (hb3 _ (Bk.putObj (by omega) h2' rfl)) fun e a' W4 hq4 => hT e a' W4 _ ?_ ?_ hq4⟩
          · exact World.putObj_heap_same (Array.getElem?_eq_some_iff.1 h2').1
          · exact (World.putObj_heap_other (by omega)).trans h3'
        | ret => exact hq.elim
        | exit id => exact hq.elim
        | goto t => exact hq.elim
        | panic ch => exact hq.elim
        | outgrown => exact hq.elim
      have fin : ∀ (jump : Option Code) (W2 W4 : World), W2.heap[w.heap.size + 1]? = some (.loop { rec .ready none with state := .busy }) → W2.heap[w.heap.size]? = some (.deferred (some [])) → KeepsOthers W2 W4 →
          (Instr.endRound (w.heap.size + 1) jump).run P W4 = .ok (.bool jump.isNone) (W4.putObj (w.heap.size + 1) (.loop (rec (if jump.isNone then .ready else .done) jump))) ∧
          Bk w.heap.size W4 (W4.putObj (w.heap.size + 1) (.loop (rec (if jump.isNone then .ready else .done) jump))) ∧
          (W4.putObj (w.heap.size + 1) (.loop (rec (if jump.isNone then .ready else .done) jump))).heap[w.heap.size + 1]? = some (.loop (rec (if jump.isNone then .ready else .done) jump)) ∧
          (W4.putObj (w.heap.size + 1) (.loop (rec (if jump.isNone then .ready else .done) jump))).heap[w.heap.size]? = some (.deferred (some [])) := by
        intro jump W2 W4 k2 k3 hk
        have k2' := hk.same _ _ k2 rfl
        have k3' := hk.same _ _ k3 rfl
        have hr := run_endRound (P := P) jump k2'
        refine ⟨?_, Bk.putObj (by omega) k2' rfl, World.putObj_heap_same (Array.getElem?_eq_some_iff.1 k2').1, (World.putObj_heap_other (by omega)).trans k3'⟩
        rw [hrec] at hr ⊢
        exact hr
      have ends : ∀ e a' W4 W2, W2.heap[w.heap.size + 1]? = some (.loop { rec .ready none with state := .busy }) → W2.heap[w.heap.size]? = some (.deferred (some [])) → bodyEnd (I X) Ix Ip i W2 e a' W4 → (∀ ch, e ≠ .panic ch) →
          roundPost P (w.heap.size + 1) (RoundGives (J X) Jx Jp i) e a' W4 := by
        intro e a' W4 W2 k2 k3 hq hnp
        cases e with
        | normal =>
          obtain ⟨hk, hi4⟩ := hq
          obtain ⟨r1, r2, r3, r4⟩ := fin none W2 W4 k2 k3 hk
          exact ⟨_, _, r1, .inl ⟨rfl, hI _ _ _ _ hi4 r2, r3, r4⟩⟩
        | ret =>
          obtain ⟨hk, hi4⟩ := hq
          obtain ⟨r1, r2, r3, r4⟩ := fin (some .ret) W2 W4 k2 k3 hk
          exact ⟨_, _, r1, .inr (.inl ⟨rfl, _, hIx _ _ _ hi4 r2, r3, r4⟩)⟩
        | exit id =>
          obtain ⟨hk, hi4⟩ := hq
          obtain ⟨r1, r2, r3, r4⟩ := fin (some (.exit id)) W2 W4 k2 k3 hk
          exact ⟨_, _, r1, .inr (.inl ⟨rfl, _, hIx _ _ _ hi4 r2, r3, r4⟩)⟩
        | goto t =>
          obtain ⟨hk, hi4⟩ := hq
          obtain ⟨r1, r2, r3, r4⟩ := fin (some (.goto t)) W2 W4 k2 k3 hk
          exact ⟨_, _, r1, .inr (.inl ⟨rfl, _, hIx _ _ _ hi4 r2, r3, r4⟩)⟩
        | panic ch => exact absurd rfl (hnp ch)
        | outgrown => exact hq.elim
      rcases hex with hex | hex
      · refine roundIn_of_wpIn hfn (core _ fun e a' W4 W2 k2 k3 hq => ends e a' W4 W2 k2 k3 hq ?_)
        rintro ch rfl
        exact hex _ _ hq.2.2
      · obtain ⟨f, hf⟩ := hex fn hfn
        refine round_p hfn hf (core _ fun e a' W4 W2 k2 k3 hq => ?_)
        cases e with
        | panic ch =>
          obtain ⟨q1, q2, q3⟩ := hq
          exact ⟨q1, .inr (.inr ⟨ch, rfl, q3, q2.same _ _ k3 rfl⟩)⟩
        | normal => exact ends _ a' W4 W2 k2 k3 hq (by simp)
        | ret => exact ends _ a' W4 W2 k2 k3 hq (by simp)
        | exit id => exact ends _ a' W4 W2 k2 k3 hq (by simp)
        | goto t => exact ends _ a' W4 W2 k2 k3 hq (by simp)
        | outgrown => exact hq.elim
    · -- behind the iterator
      rintro e W2 (⟨v, rfl, (⟨X, h1, h2, h3⟩ | ⟨c, h1, h2, h3⟩)⟩ | ⟨ch, rfl, h1, h3⟩)
      · have hr := run_endLoop (P := P) h2 (by rw [hrec]; simp)
        obtain ⟨o', ho'⟩ : ∃ o', (Instr.endLoop (w.heap.size + 1)).run P W2 = .ok none (W2.putObj (w.heap.size + 1) o') := ⟨_, by rw [hrec] at hr; exact hr⟩
        exact ⟨none, _, ho', hdone X _ _ (Nat.le_refl _) (hI _ _ _ _ h1 (Bk.putObj (by omega) h2 rfl)) ((World.putObj_heap_other (by omega)).trans h3)⟩
      · have hr := run_endLoop (P := P) h2 (by rw [hrec]; simp)
        obtain ⟨o', ho'⟩ : ∃ o', (Instr.endLoop (w.heap.size + 1)).run P W2 = .ok (some c) (W2.putObj (w.heap.size + 1) o') := ⟨_, by rw [hrec] at hr; exact hr⟩
        exact ⟨some c, _, ho', hstop _ c _ (Nat.le_refl _) (hIx _ _ _ h1 (Bk.putObj (by omega) h2 rfl)) ((World.putObj_heap_other (by omega)).trans h3)⟩
      · exact hpan _ ch _ (Nat.le_refl _) h1 h3
end Go.Proofs.Ytmfnjmecnhagmaa
namespace Go.Proofs.Ytmfnjmecnhagmaa
open Go.RowKit Go.Proofs.YtmfnjmecnhagmaaW.PrintWords Go.Proofs.YtmfnjmecnhagmaaW.PrintLast
set_option linter.unusedVariables false
def calmOp : Op → Bool
  | .move _ | .assign _ | .load .. | .store .. | .fieldAddr .. | .indexAddr .. | .binOp .. | .unOp .. | .buildSlice .. | .build .. | .slice .. | .extract .. | .alloc .. | .box .. | .nilCheck .. | .pick .. | .makeInterface .. => true
  | .call c => match c.callee with | .builtin .append => true | .builtin .len => true | _ => false
  | _ => false
/-- It yields a value, or nothing, or stops. -/
def NV (m : Sem Next) : Prop := ∀ P w, (∃ v w', Sem.run P m w = .ok (.value v) w') ∨ (∃ w', Sem.run P m w = .ok .skip w') ∨ ∃ h w', Sem.run P m w = .halt h w'
theorem NV.val (v : Value) : NV (pure (.value v)) := fun _ _ => .inl ⟨_, _, rfl⟩
theorem NV.bind {α : Type} (m : Sem α) {f : α → Sem Next} (hf : ∀ a, NV (f a)) : NV (m >>= f) := by
  intro P w
  rw [Sem.run_bind]
  cases Sem.run P m w with
  | ok a w' => exact hf a P w'
  | halt h w' => exact .inr (.inr ⟨h, w', rfl⟩)
theorem NV.of_form {x : Sem Next} (h : ∃ m : Sem Value, x = (do pure (.value (← m)))) : NV x := by
  obtain ⟨m, rfl⟩ := h
  exact NV.bind _ fun v => NV.val _
theorem NV.goPanic (v : Value) : NV (goPanic v) := fun _ _ => .inr (.inr ⟨_, _, rfl⟩)
theorem NV.runtime (e : RuntimeError) : NV (runtimePanic e) := by
  unfold runtimePanic
  refine NV.bind _ fun p => ?_
  cases e <;> first | exact NV.goPanic _ | exact NV.bind _ fun _ => NV.bind _ fun _ => NV.goPanic _
theorem calm_form (ρ : Operand → Value) (o : Oper) (h : calmOp o.op = true) : NV (execOp ρ o) := by
  obtain ⟨dst, op, ty, pos, after, guard⟩ := o
  cases op <;> simp only [calmOp] at h <;> try (exact absurd h (by decide))
  case pick c a b => exact NV.bind _ fun b => NV.val _
  case nilCheck x =>
    unfold execOp
    simp only
    split
    · exact NV.runtime _
    · exact NV.runtime _
    · exact NV.runtime _
    · split
      · exact NV.runtime _
      · refine NV.bind _ fun p => NV.bind _ fun q => ?_
        split
        all_goals first | exact NV.val _ | exact NV.bind _ fun _ => NV.val _
      · exact NV.val _
    · exact NV.val _
  all_goals first
    | exact NV.val _
    | exact NV.bind _ fun v => NV.val _
    | exact NV.bind _ fun _ => fun _ _ => .inr (.inl ⟨_, rfl⟩)
    | skip
  rename_i c
  obtain ⟨callee, args, ats⟩ := c
  cases callee with
  | builtin b =>
    cases b <;> first
      | (simp at h; done)
      | exact NV.of_form ⟨_, rfl⟩
  | _ => simp at h
theorem calm_about (P : Program) (w : World) (ρ : Operand → Value) (o : Oper) (h : calmOp o.op = true) : o.about P w ρ = none := by
  obtain ⟨dst, op, ty, pos, after, guard⟩ := o
  cases op <;> simp only [calmOp] at h <;> first | rfl | skip
  all_goals try (exact absurd h (by decide))
  rename_i c
  obtain ⟨callee, args, ats⟩ := c
  cases callee with
  | builtin b => rfl
  | _ => simp at h
theorem calm_wpIn {F : Fence} {n : Nat} {P : Program} {o : Oper} {a : Act} {w : World} {K : Act → World → Prop} {Q : Exit → Act → World → Prop} (h : calmOp o.op = true) (hw : o.wp P a w K Q) : o.wpIn F n P a w K Q := by
  refine ⟨fun f hf => (by rw [calm_about P w a.eval o h] at hf; cases hf), ?_⟩
  rw [Oper.semAt_eq _ _ _ (by intro c hc; rw [hc] at h; cases h)]
  unfold Oper.wp at hw
  rcases calm_form a.eval o h P w with ⟨v, w', e⟩ | ⟨w', e⟩ | ⟨v, w', e⟩
  · rw [e] at hw ⊢
    exact hw
  · rw [e] at hw ⊢
    exact hw
  · rw [e] at hw ⊢
    cases v <;> exact hw
theorem anyIn_of_any {F : Fence} {n : Nat} {P : Program} {md : Region.Mode} {ops : Array Oper} {Q : Exit → Act → World → Prop} (hc : ops.all (fun o => calmOp o.op) = true) (hnl : ¬ LetsOut Q) :
    ∀ (fuel : Nat) (listed : Array Bool) (a : Act) (w : World), wpAny P md ops Q fuel listed a w → wpAnyIn F n P md ops Q fuel listed a w
  | 0, _, _, _, h => h
  | fuel + 1, listed, a, w, h => ⟨h.1, fun i hi => by
    have hw := h.2 i hi
    unfold wpOp at hw
    unfold wpOpIn
    cases ho : ops[i]? with
    | none => rw [ho] at hw; exact anyIn_of_any hc hnl fuel _ a w hw
    | some o =>
      rw [ho] at hw
      simp only at hw ⊢
      have hco : calmOp o.op = true := by
        obtain ⟨hlt, e⟩ := Array.getElem?_eq_some_iff.1 ho
        have := Array.all_eq_true.1 hc i hlt
        rw [e] at this
        exact this
      by_cases hwd : Region.wanted o (yielded ops a.tmps) = true
      · rw [if_pos hwd] at hw ⊢
        rcases hw with hw | hw
        · exact calm_wpIn hco (Oper.wp_mono (fun a w h => anyIn_of_any hc hnl fuel _ a w h) hw)
        · exact absurd hw.2 hnl
      · rw [if_neg hwd] at hw ⊢
        exact ⟨fun f hf => (by rw [calm_about P w a.eval o hco] at hf; cases hf), anyIn_of_any hc hnl fuel _ _ w hw⟩⟩
theorem startIn_ {F : Fence} {m : Nat} {P : Program} {ops : Array Oper} {Q : Exit → Act → World → Prop} {S : World → Prop} {ds : List Nat} {id n : Nat} {a : Act} {w : World} (hc : ops.all (fun o => calmOp o.op) = true) (hnl : ¬ LetsOut Q) (l : Array Bool) (hm : P.follows .mixedOrders = true) (hn : ops.size = n) (hl : Array.replicate n false = l) (hS : S w.drew)
    (h : S w.drew → wpAnyLast P .any ops Q S ds n l a w.drew) : (Code.region id ops true).wpIn F m P Q a w := by
  subst hn
  subst hl
  exact wpIn_region_any hm (anyIn_of_any hc hnl _ _ _ _ (wpAny_of_last _ _ _ _ (h hS)))
end Go.Proofs.Ytmfnjmecnhagmaa
