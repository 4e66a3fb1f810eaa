/- edit: a range over a function whose rounds call a yield of an enclosing range: what lies at n and above, and is no cells, stays. -/
import Derived.Test.YtemlbjpefomboaaRr
namespace Go.Proofs.Ytemlbjpefomboaa
open Go.RowKit Go.Proofs.YtemlbjpefomboaaW.PrintWords Go.Proofs.YtemlbjpefomboaaW.PrintLast
set_option linter.unusedVariables false
/-- What is no cells, and lies at n or above, lies as it lay. -/
structure Ko (n : Nat) (W W' : World) : Prop where
  same : ∀ k o, n ≤ k → W.heap[k]? = some o → o.isCells = false → W'.heap[k]? = some o
theorem Ko.refl (n : Nat) (W : World) : Ko n W W := ⟨fun _ _ _ h _ => h⟩
theorem Ko.trans {n : Nat} {A B C : World} (h : Ko n A B) (k : Ko n B C) : Ko n A C := ⟨fun i o hi ho hc => k.same i o hi (h.same i o hi ho hc) hc⟩
theorem Ko.more {m n : Nat} {A B : World} (h : Ko m A B) (hm : m ≤ n) : Ko n A B := ⟨fun i o hi ho hc => h.same i o (by omega) ho hc⟩
theorem Ko.of {n : Nat} {A B : World} (h : KeepsOthers A B) : Ko n A B := ⟨fun i o _ ho hc => h.same i o ho hc⟩
theorem Ko.putObj {n l : Nat} (hl : l < n) (W : World) (o : Obj) : Ko n W (W.putObj l o) := ⟨fun k x hk hx _ => (World.putObj_heap_other (by omega)).trans hx⟩
/-- How a body may be left. -/
def bodyEndK (n : Nat) (I : Nat → World → Prop) (Ix : Code → World → Prop) (Ip : List PanicEntry → World → Prop) (i : Nat) (W : World) : Exit → Act → World → Prop
  | .normal, _, W' => Ko n W W' ∧ I (i + 1) W'
  | .ret, _, W' => Ko n W W' ∧ Ix .ret W'
  | .exit id, _, W' => Ko n W W' ∧ Ix (.exit id) W'
  | .goto t, _, W' => Ko n W W' ∧ Ix (.goto t) W'
  | .panic ch, a, W' => a.defers = [] ∧ Ko n W W' ∧ Ip ch W'
  | .outgrown, _, _ => False
theorem wp_rangeK {F : Fence} {P : Program} {g : Operand} {ps : Array Tmp} {assign body : Code} {Q : Exit → Act → World → Prop} {a : Act} {w : World} (hro : F.round = none) (hd : F.depth = none)
    {gf : Nat} {lb : Array Value} (hg : a.eval g = .func (.func gf) #[] lb) (hgf : F.fn gf) (eg : ∀ args w, (callFunc gf args).run P w = .ok (.enter gf args) w)
    (encs : Nat → Array Value) (hps : ∀ i, (encs i).size = ps.size) (N : Nat) (I : List (Nat × Obj) → Nat → World → Prop) (Ix : Code → World → Prop) (Ip : List PanicEntry → World → Prop)
    (hex : (∀ ch W, ¬ Ip ch W) ∨ ∀ f, F.fn f → ∃ fn, P.funcs[f]? = some fn)
    (hI0 : I [] 0 w) (hI : ∀ X i W W', I X i W → Bk w.heap.size W W' → I X i W') (hG : ∀ X i W o, o.isCells = true → I X i W → I ((W.heap.size, o) :: X) i (W.alloc o)) (hIx : ∀ c W W', Ix c W → Bk w.heap.size W W' → Ix c W') (hIp : ∀ c W W', Ip c W → Bk w.heap.size W W' → Ip c W')
    (hseq : ∀ (l : Nat) (W1 : World) (J : List (Nat × Obj) → Nat → World → Prop) (Jx : World → Prop) (Jp : List PanicEntry → World → Prop), Below w.heap.size w W1 → l < W1.heap.size → w.heap.size ≤ l → (∀ X i W, J X i W → I X i W) → (∀ X i W o, o.isCells = true → J X i W → J ((W.heap.size, o) :: X) i (W.alloc o)) →
      (∀ X i W W', J X i W → Bk W1.heap.size W W' → J X i W') → (∀ W W', Jx W → Bk W1.heap.size W W' → Jx W') → (∀ c W W', Jp c W → Bk W1.heap.size W W' → Jp c W') →
      (∀ X i W, i < N → J X i W → YieldAt F 0 P l (encs i) W (fun e W' => RoundGives (J X) Jx Jp i e W' ∧ Ko W1.heap.size W W')) → J [] 0 W1 → CallsIn F 0 P gf (#[.func (.yield l) #[] #[]] ++ lb) W1 (IterGives (fun i W => ∃ X, J X i W) Jx Jp N))
    (hround : ∀ (X : List (Nat × Obj)) (l : Nat) (o : Obj) (i : Nat) (W : World), i < N → I X i W → w.heap.size ≤ l → W.heap[l]? = some o → o.isCells = false → assign.wpIn (F.inRound l) 0 P
      (Exit.then (fun a1 W1 => Ko w.heap.size W W1 ∧ ∀ W2, Bk w.heap.size W1 W2 → body.wpIn (F.inRound l) 0 P (bodyEndK w.heap.size (I X) Ix Ip i W2) a1 W2) (fun _ _ _ => False))
      { tmps := (ps.zip (encs i)).foldl (fun t (p, v) => t.setIfInBounds p v) a.tmps, defers := [] } W)
    (hdone : ∀ (X : List (Nat × Obj)) (D : Nat) (W : World), w.heap.size ≤ D → I X N W → W.heap[D]? = some (.deferred (some [])) → Q .normal { a with defers := { target := .collected D, args := #[] } :: a.defers } W)
    (hstop : ∀ (D : Nat) (c : Code) (W : World), w.heap.size ≤ D → Ix c W → W.heap[D]? = some (.deferred (some [])) → c.wpIn F 0 P Q { a with defers := { target := .collected D, args := #[] } :: a.defers } W)
    (hpan : ∀ (D : Nat) (ch : List PanicEntry) (W : World), w.heap.size ≤ D → Ip ch W → W.heap[D]? = some (.deferred (some [])) → Q (.panic ch) { a with defers := { target := .collected D, args := #[] } :: a.defers } W) :
    (Code.rangeFunc g ps assign body).wpIn F 0 P Q a w := by
  refine wpIn_rangeFunc ?_
  intro fn hfn
  rw [hro]
  obtain ⟨rec, hrec⟩ : ∃ rec : LoopState → Option Code → Loop, rec = fun st pe => { state := st, pending := pe, fn, tmps := a.tmps, params := ps, assign, body, defers := w.heap.size } := ⟨_, rfl⟩
  obtain ⟨W1, hW1⟩ : ∃ W1, (w.alloc (.deferred (some []))).alloc (.loop (rec .ready none)) = W1 := ⟨_, rfl⟩
  have hsz : W1.heap.size = w.heap.size + 2 := by rw [← hW1]; simp
  have hL : W1.heap[w.heap.size + 1]? = some (.loop (rec .ready none)) := by
    rw [← hW1]
    have := World.alloc_heap_new (w.alloc (.deferred (some []))) (.loop (rec .ready none))
    rwa [World.size_alloc] at this
  have hD : W1.heap[w.heap.size]? = some (.deferred (some [])) := by
    rw [← hW1]
    exact (Below.heap_alloc _ _ _ (by simp)).trans (World.alloc_heap_new w _)
  have hb : Below w.heap.size w W1 := by rw [← hW1]; exact ((Below.refl _ w).alloc (Nat.le_refl _) _).alloc (by simp) _
  refine ⟨w.heap.size + 1, [{ target := .collected w.heap.size, args := #[] }], W1, { target := .fn (.func gf) lb, args := #[.func (.yield (w.heap.size + 1)) #[] #[]] }, W1, gf, #[.func (.yield (w.heap.size + 1)) #[] #[]] ++ lb, W1, ?_, ?_, ?_, ?_, ?_, ?_⟩
  · rw [← hW1, hrec]
    exact run_enterLoop_outer _ _ _ _ _
  · simp only [resolve, hg]
    simp [go_sem]
  · intro f hf
    simp [Target.leads] at hf
    subst hf
    exact hgf
  · simp [invoke, go_sem, eg]
  · rw [hd]
    intro h
    cases h
  -- the iterator's contract, the record and the block for deferred calls beside the caller's own words
  · let J : List (Nat × Obj) → Nat → World → Prop := fun X i W => I X i W ∧ W.heap[w.heap.size + 1]? = some (.loop (rec .ready none)) ∧ W.heap[w.heap.size]? = some (.deferred (some []))
    let Jx : World → Prop := fun W => ∃ c, Ix c W ∧ W.heap[w.heap.size + 1]? = some (.loop (rec .done (some c))) ∧ W.heap[w.heap.size]? = some (.deferred (some []))
    let Jp : List PanicEntry → World → Prop := fun ch W => Ip ch W ∧ W.heap[w.heap.size]? = some (.deferred (some []))
    have turn : ∀ {W W' : World}, Bk W1.heap.size W W' → Bk w.heap.size W W' := fun h => h.more (by omega)
    refine (hseq (w.heap.size + 1) W1 J Jx Jp hb (by omega) (by omega) (fun X i W h => h.1) (fun X i W o ho h => ⟨hG X i W o ho h.1, blk_alloc h.2.1 o, blk_alloc h.2.2 o⟩)
      (fun X i W W' h k => ⟨hI X i W W' h.1 (turn k), k.block _ _ h.2.1 (.inr (by omega)), k.block _ _ h.2.2 (.inr (by omega))⟩)
      (fun W W' h k => by obtain ⟨c, h1, h2, h3⟩ := h; exact ⟨c, hIx c W W' h1 (turn k), k.block _ _ h2 (.inr (by omega)), k.block _ _ h3 (.inr (by omega))⟩)
      (fun c W W' h k => ⟨hIp c W W' h.1 (turn k), k.block _ _ h.2 (.inr (by omega))⟩) ?_ ⟨hI [] 0 w W1 hI0 (.of_below hb), hL, hD⟩).mono ?_
    · -- a round
      rintro X i W hi ⟨h1, h2, h3⟩
      have hlt := (Array.getElem?_eq_some_iff.1 h2).1
      have hy := run_yield (P := P) (args := encs i) h2 (by rw [hrec]; exact hps i)
      rw [hrec] at hy
      refine ⟨fn, _, assign, body, hy, ?_⟩
      have hR := hround X (w.heap.size + 1) _ i W hi h1 (by omega) h2 rfl
      have core : ∀ (T : Exit → Act → World → Prop), (∀ e a' W4 W2, W2.heap[w.heap.size + 1]? = some (.loop { rec .ready none with state := .busy }) → W2.heap[w.heap.size]? = some (.deferred (some [])) → Ko W1.heap.size W W2 → bodyEndK w.heap.size (I X) Ix Ip i W2 e a' W4 → T e a' W4) →
          assign.wpIn (F.inRound (w.heap.size + 1)) 0 P (Exit.then (fun a₁ w₁ => ∃ w₂, (Instr.beginRound (w.heap.size + 1)).run P w₁ = .ok () w₂ ∧ body.wpIn (F.inRound (w.heap.size + 1)) 0 P T a₁ w₂) (fun _ _ _ => False)) { tmps := (ps.zip (encs i)).foldl (fun t (p, v) => t.setIfInBounds p v) a.tmps, defers := [] } W := by
        intro T hT
        refine wpIn_mono hR fun e a1 W3 hq => ?_
        cases e with
        | normal =>
          obtain ⟨hk, hb3⟩ := hq
          have h2' := hk.same _ _ (by omega) h2 rfl
          have h3' := hk.same _ _ (by omega) h3 rfl
          refine ⟨_, run_beginRound h2' (by rw [hrec]), wpIn_mono (hb3 _ (Bk.putObj (by omega) h2' rfl)) fun e a' W4 hq4 => hT e a' W4 _ ?_ ?_ ?_ hq4⟩
          · exact World.putObj_heap_same (Array.getElem?_eq_some_iff.1 h2').1
          · exact (World.putObj_heap_other (by omega)).trans h3'
          · exact (hk.more (by omega)).trans (Ko.putObj (by omega) _ _)
        | ret => exact hq.elim
        | exit id => exact hq.elim
        | goto t => exact hq.elim
        | panic ch => exact hq.elim
        | outgrown => exact hq.elim
      have fin : ∀ (jump : Option Code) (W2 W4 : World), W2.heap[w.heap.size + 1]? = some (.loop { rec .ready none with state := .busy }) → W2.heap[w.heap.size]? = some (.deferred (some [])) → Ko w.heap.size W2 W4 →
          (Instr.endRound (w.heap.size + 1) jump).run P W4 = .ok (.bool jump.isNone) (W4.putObj (w.heap.size + 1) (.loop (rec (if jump.isNone then .ready else .done) jump))) ∧
          Bk w.heap.size W4 (W4.putObj (w.heap.size + 1) (.loop (rec (if jump.isNone then .ready else .done) jump))) ∧
          (W4.putObj (w.heap.size + 1) (.loop (rec (if jump.isNone then .ready else .done) jump))).heap[w.heap.size + 1]? = some (.loop (rec (if jump.isNone then .ready else .done) jump)) ∧
          (W4.putObj (w.heap.size + 1) (.loop (rec (if jump.isNone then .ready else .done) jump))).heap[w.heap.size]? = some (.deferred (some [])) := by
        intro jump W2 W4 k2 k3 hk
        have k2' := hk.same _ _ (by omega) k2 rfl
        have k3' := hk.same _ _ (by omega) k3 rfl
        have hr := run_endRound (P := P) jump k2'
        refine ⟨?_, Bk.putObj (by omega) k2' rfl, World.putObj_heap_same (Array.getElem?_eq_some_iff.1 k2').1, (World.putObj_heap_other (by omega)).trans k3'⟩
        rw [hrec] at hr ⊢
        exact hr
      have ends : ∀ e a' W4 W2, W2.heap[w.heap.size + 1]? = some (.loop { rec .ready none with state := .busy }) → W2.heap[w.heap.size]? = some (.deferred (some [])) → Ko W1.heap.size W W2 → bodyEndK w.heap.size (I X) Ix Ip i W2 e a' W4 → (∀ ch, e ≠ .panic ch) →
          roundPost P (w.heap.size + 1) (fun e W' => RoundGives (J X) Jx Jp i e W' ∧ Ko W1.heap.size W W') e a' W4 := by
        intro e a' W4 W2 k2 k3 k4 hq hnp
        cases e with
        | normal =>
          obtain ⟨hk, hi4⟩ := hq
          obtain ⟨r1, r2, r3, r4⟩ := fin none W2 W4 k2 k3 hk
          exact ⟨_, _, r1, .inl ⟨rfl, hI _ _ _ _ hi4 r2, r3, r4⟩, (k4.trans (hk.more (by omega))).trans (Ko.putObj (by omega) _ _)⟩
        | ret =>
          obtain ⟨hk, hi4⟩ := hq
          obtain ⟨r1, r2, r3, r4⟩ := fin (some .ret) W2 W4 k2 k3 hk
          exact ⟨_, _, r1, .inr (.inl ⟨rfl, _, hIx _ _ _ hi4 r2, r3, r4⟩), (k4.trans (hk.more (by omega))).trans (Ko.putObj (by omega) _ _)⟩
        | exit id =>
          obtain ⟨hk, hi4⟩ := hq
          obtain ⟨r1, r2, r3, r4⟩ := fin (some (.exit id)) W2 W4 k2 k3 hk
          exact ⟨_, _, r1, .inr (.inl ⟨rfl, _, hIx _ _ _ hi4 r2, r3, r4⟩), (k4.trans (hk.more (by omega))).trans (Ko.putObj (by omega) _ _)⟩
        | goto t =>
          obtain ⟨hk, hi4⟩ := hq
          obtain ⟨r1, r2, r3, r4⟩ := fin (some (.goto t)) W2 W4 k2 k3 hk
          exact ⟨_, _, r1, .inr (.inl ⟨rfl, _, hIx _ _ _ hi4 r2, r3, r4⟩), (k4.trans (hk.more (by omega))).trans (Ko.putObj (by omega) _ _)⟩
        | panic ch => exact absurd rfl (hnp ch)
        | outgrown => exact hq.elim
      rcases hex with hex | hex
      · refine roundIn_of_wpIn hfn (core _ fun e a' W4 W2 k2 k3 k4 hq => ends e a' W4 W2 k2 k3 k4 hq ?_)
        rintro ch rfl
        exact hex _ _ hq.2.2
      · obtain ⟨f, hf⟩ := hex fn hfn
        refine round_p hfn hf (core _ fun e a' W4 W2 k2 k3 k4 hq => ?_)
        cases e with
        | panic ch =>
          obtain ⟨q1, q2, q3⟩ := hq
          exact ⟨q1, .inr (.inr ⟨ch, rfl, q3, q2.same _ _ (by omega) k3 rfl⟩), k4.trans (q2.more (by omega))⟩
        | normal => exact ends _ a' W4 W2 k2 k3 k4 hq (by simp)
        | ret => exact ends _ a' W4 W2 k2 k3 k4 hq (by simp)
        | exit id => exact ends _ a' W4 W2 k2 k3 k4 hq (by simp)
        | goto t => exact ends _ a' W4 W2 k2 k3 k4 hq (by simp)
        | outgrown => exact hq.elim
    · -- behind the iterator
      rintro e W2 (⟨v, rfl, (⟨X, h1, h2, h3⟩ | ⟨c, h1, h2, h3⟩)⟩ | ⟨ch, rfl, h1, h3⟩)
      · have hr := run_endLoop (P := P) h2 (by rw [hrec]; simp)
        obtain ⟨o', ho'⟩ : ∃ o', (Instr.endLoop (w.heap.size + 1)).run P W2 = .ok none (W2.putObj (w.heap.size + 1) o') := ⟨_, by rw [hrec] at hr; exact hr⟩
        exact ⟨none, _, ho', hdone X _ _ (Nat.le_refl _) (hI _ _ _ _ h1 (Bk.putObj (by omega) h2 rfl)) ((World.putObj_heap_other (by omega)).trans h3)⟩
      · have hr := run_endLoop (P := P) h2 (by rw [hrec]; simp)
        obtain ⟨o', ho'⟩ : ∃ o', (Instr.endLoop (w.heap.size + 1)).run P W2 = .ok (some c) (W2.putObj (w.heap.size + 1) o') := ⟨_, by rw [hrec] at hr; exact hr⟩
        exact ⟨some c, _, ho', hstop _ c _ (Nat.le_refl _) (hIx _ _ _ h1 (Bk.putObj (by omega) h2 rfl)) ((World.putObj_heap_other (by omega)).trans h3)⟩
      · exact hpan _ ch _ (Nat.le_refl _) h1 h3
end Go.Proofs.Ytemlbjpefomboaa
