/- edit: Apply and awake by contract in the print's form. -/
import Derived.Test.YtemlbjpefomboaaRc
import Derived.Test.YtemlbjpefomboaaFi
namespace Go.Proofs.Ytemlbjpefomboaa.Pr
open Go.RowKit Go.Shelf Go.Proofs.Ytemlbjpefomboaa Go.Proofs.YtemlbjpefomboaaW.PrintWords Go.Proofs.YtemlbjpefomboaaW.PrintLast Go.Proofs.YtemlbjpefomboaaW.PrintMore
set_option linter.unusedVariables false
set_option linter.unusedSimpArgs false
def edit_Apply.f (l0 : List Int) (l1_0 : List (S80)) (l1_1 : List Int) (l1_2 : List Int) : Option (List Int × Int) := if l1_0.length ≤ 1048576 then some (applied l0 l1_0 l1_1 l1_2, appliedE l0 l1_0 l1_1 l1_2) else none
theorem edit_Apply.calls (A0 : Option Addr) (c0 : Nat) (l0 : List Int) (A1_0 : Option Addr) (c1_0 : Nat) (l1_0 : List (S80)) (A1_1 : Option Addr) (c1_1 : Nat) (l1_1 : List Int) (A1_2 : Option Addr) (c1_2 : Nat) (l1_2 : List Int) (r1 : List Int) (r2 : Int) (w : World) (hr0 : Kd.C (Kd.int .u8) w A0 l0.length l0) (hc0 : l0.length ≤ c0) (hr1_0 : Kd.C k80 w A1_0 l1_0.length l1_0) (hc1_0 : l1_0.length ≤ c1_0) (hr1_1 : Kd.C (Kd.int .u8) w A1_1 l1_1.length l1_1) (hc1_1 : l1_1.length ≤ c1_1) (hr1_2 : Kd.C (Kd.int .u8) w A1_2 l1_2.length l1_2) (hc1_2 : l1_2.length ≤ c1_2) (h : edit_Apply.f l0 l1_0 l1_1 l1_2 = some (r1, r2)) :
    Calls Try.prog 24 #[.slice A0 l0.length c0, .agg #[.slice A1_0 l1_0.length c1_0, .slice A1_1 l1_1.length c1_1, .slice A1_2 l1_2.length c1_2]] w fun e w' => ∃ v0_ : Value, e = .returned (.tuple #[v0_, .int .i64 r2]) ∧ Kd.R (Kd.int .u8) 5 w' w.heap.size (fun _ => True) v0_ r1 ∧ Below w.heap.size w w' := by
  unfold edit_Apply.f at h
  by_cases hf : l1_0.length ≤ 1048576
  · rw [if_pos hf] at h
    obtain ⟨rfl, rfl⟩ := Prod.mk.inj (Option.some.inj h)
    refine (apply_c A0 c0 l0 A1_0 c1_0 l1_0 A1_1 c1_1 l1_1 A1_2 c1_2 l1_2 w hr0 hc0 ⟨hr1_0, hr1_1, hr1_2, hc1_0, hc1_1, hc1_2⟩ (inn_applied hf)).mono ?_
    rintro e w' ⟨v, rfl, ho, hb⟩
    exact ⟨v, rfl, Kd.R_of_own ho (fun _ _ => trivial), hb⟩
  · rw [if_neg hf] at h
    cases h
def sapperlaw16_awake.f : Option (Bool) := some true
theorem sapperlaw16_awake.calls (r : Bool) (w : World) (h : sapperlaw16_awake.f = some r) :
    Calls Try.prog 22 #[] w fun e w' => e = .returned (.bool r) ∧ Below w.heap.size w w' := by
  obtain rfl := Option.some.inj h
  exact awake_c w
end Go.Proofs.Ytemlbjpefomboaa.Pr
