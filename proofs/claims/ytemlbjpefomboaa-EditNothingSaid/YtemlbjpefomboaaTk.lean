/- edit: may a step be, within a fence of functions that exist; the maker's take. -/
import Derived.Test.YtemlbjpefomboaaOr
import Derived.Test.YtemlbjpefomboaaNm
import Derived.Test.YtemlbjpefomboaaRw
import Derived.RecoverIn
namespace Go.Proofs.Ytemlbjpefomboaa
open Go.RowKit Go.Shelf Go.Proofs.YtemlbjpefomboaaW.PrintWords Go.Proofs.YtemlbjpefomboaaW.PrintLast Go.Proofs.YtemlbjpefomboaaW.PrintMore Go.Proofs.Ytemlbjpefomboaa.Pr
set_option linter.unusedVariables false
set_option linter.unusedSimpArgs false
attribute [local go_sem] Oper.semAt_some
/-- A function that exists. -/
def EX (f : FuncId) : Prop := ∃ fn, Try.prog.funcs[f]? = some fn
set_option maxHeartbeats 2000000 in
theorem within_in (a lo hi : Int) (W : World) : CallsIn (FN EX) 0 Try.prog 56 #[.int .i64 a, .int .i64 lo, .int .i64 hi] W fun e w' => e = .returned (.bool (decide (lo ≤ a ∧ a ≤ hi))) ∧ w' = W := by
  by_cases h : lo ≤ a
  · have h0 : decide (lo ≤ a) = true := decide_eq_true h
    have h1 : decide (lo ≤ a ∧ a ≤ hi) = decide (a ≤ hi) := by simp [h]
    have H1 := Hd.mk h1
    clear h1 h
    refine callsIn_of_wp Try.func56 rfl ⟨_, Try.func56⟩ ?_ rfl
    simp only [Try.ntmps56, List.size_toArray, List.length_cons, List.length_nil, Nat.reduceAdd, Nat.reduceSub, Array.replicate_succ, Array.replicate_zero, List.push_toArray, List.append_toArray, List.nil_append, List.cons_append]
    gi_wp2
    go_ret
    exact ⟨by rw [H1.out]; rfl, rfl⟩
  · have h0 : decide (lo ≤ a) = false := decide_eq_false h
    have h1 : decide (lo ≤ a ∧ a ≤ hi) = false := by simp [h]
    have H1 := Hd.mk h1
    clear h1 h
    refine callsIn_of_wp Try.func56 rfl ⟨_, Try.func56⟩ ?_ rfl
    simp only [Try.ntmps56, List.size_toArray, List.length_cons, List.length_nil, Nat.reduceAdd, Nat.reduceSub, Array.replicate_succ, Array.replicate_zero, List.push_toArray, List.append_toArray, List.nil_append, List.cons_append]
    gi_wp2
    go_ret
    exact ⟨by rw [H1.out]; rfl, rfl⟩
set_option maxRecDepth 100000 in
set_option maxHeartbeats 4000000 in
theorem stepMay_in (f0 f1 f2 : Int) (W : World) : CallsIn (FN EX) 0 Try.prog 59 #[.agg #[.int .i64 f0, .int .i64 f1, .int .i64 f2]] W fun e w' => e = .returned (.bool (may ⟨f0, f1, f2⟩)) ∧ Below W.heap.size W w' := by
  have h56 : EX 56 := ⟨_, Try.func56⟩
  have hm : may ⟨f0, f1, f2⟩ = (decide (0 ≤ f0 ∧ f0 ≤ 16777216) && (decide (0 ≤ f1 ∧ f1 ≤ 16777216) && decide (-16777216 ≤ f2 ∧ f2 ≤ 16777216))) := by
    rw [Bool.eq_iff_iff, may_iff]
    simp
    omega
  obtain ⟨b0, hb0⟩ : ∃ b, decide (0 ≤ f0 ∧ f0 ≤ 16777216) = b := ⟨_, rfl⟩
  obtain ⟨b1, hb1⟩ : ∃ b, decide (0 ≤ f1 ∧ f1 ≤ 16777216) = b := ⟨_, rfl⟩
  obtain ⟨b2, hb2⟩ : ∃ b, decide (-16777216 ≤ f2 ∧ f2 ≤ 16777216) = b := ⟨_, rfl⟩
  rw [hb0, hb1, hb2] at hm
  have c0 := fun W => within_in f0 0 16777216 W
  have c1 := fun W => within_in f1 0 16777216 W
  have c2 := fun W => within_in f2 (-16777216) 16777216 W
  rw [hb0] at c0
  rw [hb1] at c1
  rw [hb2] at c2
  have HM := Hd.mk hm
  have C0 := Hd.mk c0
  have C1 := Hd.mk c1
  have C2 := Hd.mk c2
  clear hm c0 c1 c2 hb0 hb1 hb2
  refine callsIn_of_wp Try.func59 rfl ⟨_, Try.func59⟩ ?_ rfl
  simp only [Try.ntmps59, List.size_toArray, List.length_cons, List.length_nil, Nat.reduceAdd, Nat.reduceSub, Array.replicate_succ, Array.replicate_zero, List.push_toArray, List.append_toArray, List.nil_append, List.cons_append]
  have hba : Below W.heap.size W (W.alloc (.cells #[.int .i64 f0, .int .i64 f1, .int .i64 f2] 80)) := (Below.refl _ _).alloc (Nat.le_refl _) _
  have HBA := Hd.mk hba
  clear hba
  cases b0 <;> cases b1 <;> cases b2
  all_goals
    gi_wp2_with fail
    refine (C0.out _).mono ?_
    rintro e w' ⟨rfl, rfl⟩
    gi_wp2_with fail
    first
    | (go_ret; exact ⟨by rw [HM.out]; rfl, HBA.out⟩)
    | skip
  all_goals
    refine (C1.out _).mono ?_
    rintro e w' ⟨rfl, rfl⟩
    gi_wp2_with fail
    first
    | (go_ret; exact ⟨by rw [HM.out]; rfl, HBA.out⟩)
    | skip
  all_goals
    refine (C2.out _).mono ?_
    rintro e w' ⟨rfl, rfl⟩
    gi_wp2_with fail
    go_ret
    exact ⟨by rw [HM.out]; rfl, HBA.out⟩
end Go.Proofs.Ytemlbjpefomboaa
