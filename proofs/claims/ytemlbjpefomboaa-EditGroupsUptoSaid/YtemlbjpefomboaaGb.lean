/- edit: Apply, Compose and awake by contract in the print's form. -/
import Derived.Test.YtemlbjpefomboaaCc
import Derived.Test.YtemlbjpefomboaaNq
import Derived.Test.YtemlbjpefomboaaFi
namespace Go.Proofs.Ytemlbjpefomboaa.Pr
open Go.RowKit Go.Shelf Go.Proofs.Ytemlbjpefomboaa Go.Proofs.YtemlbjpefomboaaW.PrintWords Go.Proofs.YtemlbjpefomboaaW.PrintLast Go.Proofs.YtemlbjpefomboaaW.PrintMore
set_option linter.unusedVariables false
set_option linter.unusedSimpArgs false
def edit_Apply.f (l0 : List Int) (l1_0 : List (S80)) (l1_1 : List Int) (l1_2 : List Int) : Option (List Int × Int) := if l1_0.length ≤ 34359738368 then some (applied l0 l1_0 l1_1 l1_2, appliedE l0 l1_0 l1_1 l1_2) else none
theorem edit_Apply.calls (A0 : Option Addr) (c0 : Nat) (l0 : List Int) (A1_0 : Option Addr) (c1_0 : Nat) (l1_0 : List (S80)) (A1_1 : Option Addr) (c1_1 : Nat) (l1_1 : List Int) (A1_2 : Option Addr) (c1_2 : Nat) (l1_2 : List Int) (r1 : List Int) (r2 : Int) (w : World) (hr0 : Kd.C (Kd.int .u8) w A0 l0.length l0) (hc0 : l0.length ≤ c0) (hr1_0 : Kd.C k80 w A1_0 l1_0.length l1_0) (hc1_0 : l1_0.length ≤ c1_0) (hr1_1 : Kd.C (Kd.int .u8) w A1_1 l1_1.length l1_1) (hc1_1 : l1_1.length ≤ c1_1) (hr1_2 : Kd.C (Kd.int .u8) w A1_2 l1_2.length l1_2) (hc1_2 : l1_2.length ≤ c1_2) (h : edit_Apply.f l0 l1_0 l1_1 l1_2 = some (r1, r2)) :
    Calls Try.prog 24 #[.slice A0 l0.length c0, .agg #[.slice A1_0 l1_0.length c1_0, .slice A1_1 l1_1.length c1_1, .slice A1_2 l1_2.length c1_2]] w fun e w' => ∃ v0_ : Value, e = .returned (.tuple #[v0_, .int .i64 r2]) ∧ Kd.R (Kd.int .u8) 5 w' w.heap.size (fun _ => True) v0_ r1 ∧ Below w.heap.size w w' := by
  unfold edit_Apply.f at h
  by_cases hf : l1_0.length ≤ 34359738368
  · rw [if_pos hf] at h
    obtain ⟨rfl, rfl⟩ := Prod.mk.inj (Option.some.inj h)
    refine (apply_c A0 c0 l0 A1_0 c1_0 l1_0 A1_1 c1_1 l1_1 A1_2 c1_2 l1_2 w hr0 hc0 ⟨hr1_0, hr1_1, hr1_2, hc1_0, hc1_1, hc1_2⟩ (inn_applied2 hf)).mono ?_
    rintro e w' ⟨v, rfl, ho, hb⟩
    exact ⟨v, rfl, Kd.R_of_own ho (fun _ _ => trivial), hb⟩
  · rw [if_neg hf] at h
    cases h
def sapperlaw16_awake.f : Option (Bool) := some true
theorem sapperlaw16_awake.calls (r : Bool) (w : World) (h : sapperlaw16_awake.f = some r) :
    Calls Try.prog 22 #[] w fun e w' => e = .returned (.bool r) ∧ Below w.heap.size w w' := by
  obtain rfl := Option.some.inj h
  exact awake_c w
def edit_Compose.f (l0_0 : List (S80)) (l0_1 : List Int) (l0_2 : List Int) (l1_0 : List (S80)) (l1_1 : List Int) (l1_2 : List Int) : Option ((List (S80)) × List Int × List Int × Int) := if l1_0.length ≤ 34359738368 then some (composeE l0_0 l0_1 l0_2 l1_0 l1_1 l1_2) else none
theorem edit_Compose.calls (A0_0 : Option Addr) (c0_0 : Nat) (l0_0 : List (S80)) (A0_1 : Option Addr) (c0_1 : Nat) (l0_1 : List Int) (A0_2 : Option Addr) (c0_2 : Nat) (l0_2 : List Int) (A1_0 : Option Addr) (c1_0 : Nat) (l1_0 : List (S80)) (A1_1 : Option Addr) (c1_1 : Nat) (l1_1 : List Int) (A1_2 : Option Addr) (c1_2 : Nat) (l1_2 : List Int) (r1 : List (S80)) (r2 : List Int) (r3 : List Int) (r4 : Int) (w : World) (hr0_0 : Kd.C k80 w A0_0 l0_0.length l0_0) (hc0_0 : l0_0.length ≤ c0_0) (hr0_1 : Kd.C (Kd.int .u8) w A0_1 l0_1.length l0_1) (hc0_1 : l0_1.length ≤ c0_1) (hr0_2 : Kd.C (Kd.int .u8) w A0_2 l0_2.length l0_2) (hc0_2 : l0_2.length ≤ c0_2) (hr1_0 : Kd.C k80 w A1_0 l1_0.length l1_0) (hc1_0 : l1_0.length ≤ c1_0) (hr1_1 : Kd.C (Kd.int .u8) w A1_1 l1_1.length l1_1) (hc1_1 : l1_1.length ≤ c1_1) (hr1_2 : Kd.C (Kd.int .u8) w A1_2 l1_2.length l1_2) (hc1_2 : l1_2.length ≤ c1_2) (h : edit_Compose.f l0_0 l0_1 l0_2 l1_0 l1_1 l1_2 = some (r1, r2, r3, r4)) :
    Calls Try.prog 45 #[.agg #[.slice A0_0 l0_0.length c0_0, .slice A0_1 l0_1.length c0_1, .slice A0_2 l0_2.length c0_2], .agg #[.slice A1_0 l1_0.length c1_0, .slice A1_1 l1_1.length c1_1, .slice A1_2 l1_2.length c1_2]] w fun e w' => ∃ v0_ v1_ v2_ : Value, e = .returned (.tuple #[.agg #[v0_, v1_, v2_], .int .i64 r4]) ∧ Kd.R k80 80 w' w.heap.size (fun _ => True) v0_ r1 ∧ Kd.R (Kd.int .u8) 5 w' w.heap.size (fun k_ => some k_ ≠ (v2_ : Value).ownBlock) v1_ r2 ∧ Kd.R (Kd.int .u8) 5 w' w.heap.size (fun k_ => some k_ ≠ (v1_ : Value).ownBlock) v2_ r3 ∧ Below w.heap.size w w' := by
  unfold edit_Compose.f at h
  by_cases hf : l1_0.length ≤ 34359738368
  · rw [if_pos hf] at h
    have hc := compose_c (hE := ⟨hr0_0, hr0_1, hr0_2, hc0_0, hc0_1, hc0_2⟩) (hG := ⟨hr1_0, hr1_1, hr1_2, hc1_0, hc1_1, hc1_2⟩) hf
    rw [Option.some.inj h] at hc
    exact hc
  · rw [if_neg hf] at h
    cases h
end Go.Proofs.Ytemlbjpefomboaa.Pr
