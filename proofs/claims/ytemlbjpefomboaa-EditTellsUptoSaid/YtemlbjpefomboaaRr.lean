/- A region of plain operations: what is shown of it outside of a fence holds within one, in a round, too. -/
import Derived.Test.YtemlbjpefomboaaRg
import Derived.OrdersIn
import Derived.Test.YtemlbjpefomboaaWLast
import Derived.Test.YtemlbjpefomboaaWTab
namespace Go.Proofs.Ytemlbjpefomboaa
open Go.RowKit Go.Proofs.YtemlbjpefomboaaW.PrintWords Go.Proofs.YtemlbjpefomboaaW.PrintLast
set_option linter.unusedVariables false
def calmOp : Op → Bool
  | .move _ | .assign _ | .load .. | .store .. | .fieldAddr .. | .indexAddr .. | .binOp .. | .unOp .. | .buildSlice .. | .build .. | .slice .. | .extract .. | .alloc .. | .box .. => true
  | .call c => match c.callee with | .builtin .append => true | .builtin .len => true | _ => false
  | _ => false
theorem calm_form (ρ : Operand → Value) (o : Oper) (h : calmOp o.op = true) : (∃ m : Sem Value, execOp ρ o = (do pure (.value (← m)))) ∨ ∃ m : Sem Unit, execOp ρ o = (do m; pure .skip) := by
  obtain ⟨dst, op, ty, pos, after, guard⟩ := o
  cases op <;> simp only [calmOp] at h <;> try (exact absurd h (by decide))
  all_goals first
    | exact .inl ⟨_, rfl⟩
    | exact .inr ⟨_, rfl⟩
    | exact .inl ⟨pure _, rfl⟩
    | skip
  rename_i c
  obtain ⟨callee, args, ats⟩ := c
  cases callee with
  | builtin b =>
    cases b <;> first | (simp at h; done) | exact .inl ⟨_, rfl⟩
  | _ => simp at h
theorem calm_about (P : Program) (w : World) (ρ : Operand → Value) (o : Oper) (h : calmOp o.op = true) : o.about P w ρ = none := by
  obtain ⟨dst, op, ty, pos, after, guard⟩ := o
  cases op <;> simp only [calmOp] at h <;> first | rfl | skip
  all_goals try (exact absurd h (by decide))
  rename_i c
  obtain ⟨callee, args, ats⟩ := c
  cases callee with
  | builtin b => rfl
  | _ => simp at h
theorem calm_wpIn {F : Fence} {n : Nat} {P : Program} {o : Oper} {a : Act} {w : World} {K : Act → World → Prop} {Q : Exit → Act → World → Prop} (h : calmOp o.op = true) (hw : o.wp P a w K Q) : o.wpIn F n P a w K Q := by
  refine ⟨fun f hf => (by rw [calm_about P w a.eval o h] at hf; cases hf), ?_⟩
  rw [Oper.semAt_eq _ _ _ (by intro c hc; rw [hc] at h; cases h)]
  unfold Oper.wp at hw
  rcases calm_form a.eval o h with ⟨m, e⟩ | ⟨m, e⟩
  · rw [e] at hw ⊢
    simp only [Sem.run_bind, Sem.run_pure] at hw ⊢
    cases hm : Sem.run P m w with
    | ok v w' => rw [hm] at hw; exact hw
    | halt v w' =>
      rw [hm] at hw
      cases v <;> exact hw
  · rw [e] at hw ⊢
    simp only [Sem.run_bind, Sem.run_pure] at hw ⊢
    cases hm : Sem.run P m w with
    | ok v w' => rw [hm] at hw; exact hw
    | halt v w' =>
      rw [hm] at hw
      cases v <;> exact hw
theorem anyIn_of_any {F : Fence} {n : Nat} {P : Program} {md : Region.Mode} {ops : Array Oper} {Q : Exit → Act → World → Prop} (hc : ops.all (fun o => calmOp o.op) = true) (hnl : ¬ LetsOut Q) :
    ∀ (fuel : Nat) (listed : Array Bool) (a : Act) (w : World), wpAny P md ops Q fuel listed a w → wpAnyIn F n P md ops Q fuel listed a w
  | 0, _, _, _, h => h
  | fuel + 1, listed, a, w, h => ⟨h.1, fun i hi => by
    have hw := h.2 i hi
    unfold wpOp at hw
    unfold wpOpIn
    cases ho : ops[i]? with
    | none => rw [ho] at hw; exact anyIn_of_any hc hnl fuel _ a w hw
    | some o =>
      rw [ho] at hw
      simp only at hw ⊢
      have hco : calmOp o.op = true := by
        obtain ⟨hlt, e⟩ := Array.getElem?_eq_some_iff.1 ho
        have := Array.all_eq_true.1 hc i hlt
        rw [e] at this
        exact this
      by_cases hwd : Region.wanted o (yielded ops a.tmps) = true
      · rw [if_pos hwd] at hw ⊢
        rcases hw with hw | hw
        · exact calm_wpIn hco (Oper.wp_mono (fun a w h => anyIn_of_any hc hnl fuel _ a w h) hw)
        · exact absurd hw.2 hnl
      · rw [if_neg hwd] at hw ⊢
        exact ⟨fun f hf => (by rw [calm_about P w a.eval o hco] at hf; cases hf), anyIn_of_any hc hnl fuel _ _ w hw⟩⟩
theorem startIn_ {F : Fence} {m : Nat} {P : Program} {ops : Array Oper} {Q : Exit → Act → World → Prop} {S : World → Prop} {ds : List Nat} {id n : Nat} {a : Act} {w : World} (hc : ops.all (fun o => calmOp o.op) = true) (hnl : ¬ LetsOut Q) (l : Array Bool) (hm : P.follows .mixedOrders = true) (hn : ops.size = n) (hl : Array.replicate n false = l) (hS : S w.drew)
    (h : S w.drew → wpAnyLast P .any ops Q S ds n l a w.drew) : (Code.region id ops true).wpIn F m P Q a w := by
  subst hn
  subst hl
  exact wpIn_region_any hm (anyIn_of_any hc hnl _ _ _ _ (wpAny_of_last _ _ _ _ (h hS)))
end Go.Proofs.Ytemlbjpefomboaa
