/- cutter: the document's Check, told plainly; it is the program's. -/
import Derived.Test.YtinlfoblpgpikaaBs
import Derived.ScopeJumps
import Derived.WalkMore
import Derived.Test.YtinlfoblpgpikaaF1
import Derived.Test.YtinlfoblpgpikaaF2
namespace Go.Proofs.Ytinlfoblpgpikaa
open Go.RowKit Go.Shelf Go.Proofs.YtinlfoblpgpikaaW.PrintWords Go.Proofs.YtinlfoblpgpikaaW.PrintLast Go.Proofs.YtinlfoblpgpikaaW.PrintMore Go.Proofs.Ytinlfoblpgpikaa.Pr
set_option linter.unusedVariables false
set_option linter.unusedSimpArgs false
def f81 (s : S81) : S82 := ⟨s.f0, s.f1, s.f2⟩
theorem drop_rd81 (L : List S81) (i : Nat) (h : i < L.length) : L.drop i = rd_T81 L i :: L.drop (i + 1) := by
  rw [List.drop_eq_getElem_cons h]
  congr 1
  simp [rd_T81, List.getD_eq_getElem?_getD, List.getElem?_eq_getElem h]
theorem faceSteps_l0 (L : List S81) (hl : L.length < 5864062014805) : ∀ (j i : Nat) (acc : List S82), i + j = L.length → acc.length = i → sapperlaw17_faceSteps.l0 (j + 1) acc L (L.length : Int) i = some (acc ++ (L.drop i).map f81)
  | 0, i, acc, hi, ha => by
    obtain rfl : i = L.length := by omega
    rw [sapperlaw17_faceSteps.l0, if_neg (by omega), List.drop_length]
    simp
  | j + 1, i, acc, hi, ha => by
    have hil : i < L.length := by omega
    rw [sapperlaw17_faceSteps.l0, if_pos (by omega), if_pos (by omega), if_pos (by omega), if_pos (by omega), w64 _ (by omega), show ((i : Int) + 1) = ((i + 1 : Nat) : Int) by omega, faceSteps_l0 L hl j (i + 1) _ (by omega) (by simp [ha]), drop_rd81 L i hil]
    simp [f81]
theorem in_f (a lo hi : Int) : sapperref17_in.f a lo hi = some (decide (lo ≤ a ∧ a ≤ hi)) := by
  unfold sapperref17_in.f
  by_cases h : lo ≤ a
  · rw [if_pos h]
    by_cases h2 : a ≤ hi
    · rw [decide_eq_true h2, decide_eq_true (And.intro h h2)]
    · rw [decide_eq_false h2, decide_eq_false (fun h3 => h2 h3.2)]
  · rw [if_neg h, decide_eq_false (fun h3 => h h3.1)]
/-- The sums, where they may be. -/
def sm : List S81 → Int → Int → Option (Int × Int)
  | [], a, c => some (a, c)
  | s :: l, a, c => if (0 ≤ s.f0 ∧ s.f0 ≤ 16777216) ∧ (0 ≤ s.f1 ∧ s.f1 ≤ 16777216) ∧ a + s.f0 ≤ 16777216 ∧ c + s.f1 ≤ 16777216 then sm l (a + s.f0) (c + s.f1) else none
def sme (r : Option (Int × Int)) : Int × Int × Bool := match r with | some (a, c) => (a, c, true) | none => (0, 0, false)
theorem sums_l0 (L : List S81) (hl : L.length ≤ 9223372036854775807) : ∀ (j i : Nat) (a c : Int), i + j = L.length → 0 ≤ a → a ≤ 16777216 → 0 ≤ c → c ≤ 16777216 → sapperref17_Sums.l0 (2 * j + 1) a c L (L.length : Int) i = some (sme (sm (L.drop i) a c))
  | 0, i, a, c, hi, h1, h2, h3, h4 => by
    obtain rfl : i = L.length := by omega
    rw [sapperref17_Sums.l0, if_neg (by omega), List.drop_length]
    rfl
  | j + 1, i, a, c, hi, h1, h2, h3, h4 => by
    have hil : i < L.length := by omega
    obtain ⟨s, hg⟩ : ∃ s, rd_T81 L (i : Int) = s := ⟨_, rfl⟩
    rw [show 2 * (j + 1) + 1 = 2 * j + 1 + 1 + 1 by omega, sapperref17_Sums.l0, if_pos (by omega), if_pos (by omega), if_pos (by omega), drop_rd81 L i hil, hg, in_f, Option.bind_some]
    by_cases c1 : 0 ≤ s.f0 ∧ s.f0 ≤ 16777216
    · rw [decide_eq_true c1, if_pos rfl, in_f, Option.bind_some]
      by_cases c2 : 0 ≤ s.f1 ∧ s.f1 ≤ 16777216
      · rw [decide_eq_true c2, sapperref17_Sums.j1, Bool.not_true, if_neg (by simp), w64 (a + s.f0) (by omega), w64 (c + s.f1) (by omega), w64 ((i : Int) + 1) (by omega)]
        by_cases c3 : a + s.f0 ≤ 16777216
        · rw [if_neg (by omega)]
          by_cases c4 : c + s.f1 ≤ 16777216
          · rw [if_neg (by omega), show ((i : Int) + 1) = ((i + 1 : Nat) : Int) by omega, sums_l0 L hl j (i + 1) _ _ (by omega) (by omega) c3 (by omega) c4, sm, if_pos ⟨c1, c2, c3, c4⟩]
          · rw [if_pos (by omega), sm, if_neg (fun h => c4 h.2.2.2)]
            rfl
        · rw [if_pos (by omega), sm, if_neg (fun h => c3 h.2.2.1)]
          rfl
      · rw [decide_eq_false c2, sapperref17_Sums.j1, Bool.not_false, if_pos rfl, sm, if_neg (fun h => c2 h.2.1)]
        rfl
    · rw [decide_eq_false c1, if_neg (by simp), sapperref17_Sums.j1, if_pos rfl, sm, if_neg (fun h => c1 h.1)]
      rfl
def bad (old : Int) (s : S81) (e : Bool) (p : Int) : Prop := (s.f0 = 0 ∧ s.f1 = 0) ∨ (e = true ∧ s.f2 ≠ 0) ∨ ¬ (-16777216 ≤ s.f2 ∧ s.f2 ≤ 16777216) ∨ ¬ (0 ≤ p + s.f0 ∧ p + s.f0 ≤ old) ∨ ¬ (0 ≤ p + s.f0 + s.f2 ∧ p + s.f0 + s.f2 ≤ old)
instance (old : Int) (s : S81) (e : Bool) (p : Int) : Decidable (bad old s e p) := by unfold bad; infer_instance
end Go.Proofs.Ytinlfoblpgpikaa
