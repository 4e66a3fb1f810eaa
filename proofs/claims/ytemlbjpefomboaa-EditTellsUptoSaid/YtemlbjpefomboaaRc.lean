/- edit: the document's Size and Check, by contract. -/
import Derived.Test.YtemlbjpefomboaaOu
import Derived.Test.YtemlbjpefomboaaEa
namespace Go.Proofs.Ytemlbjpefomboaa
open Go.RowKit Go.Shelf Go.Proofs.YtemlbjpefomboaaW.PrintWords Go.Proofs.YtemlbjpefomboaaW.PrintLast Go.Proofs.YtemlbjpefomboaaW.PrintMore Go.Proofs.Ytemlbjpefomboaa.Pr
set_option linter.unusedVariables false
set_option linter.unusedSimpArgs false
theorem ritself_mono (st : List S80) (d x : List Int) {k k' : Nat} (h : k ≤ k') {r : Int} (hk : sapperref16_Itself.f k st d x = some r) : sapperref16_Itself.f k' st d x = some r := at_rounds (g := fun k => sapperref16_Itself.f k st d x) (fun k => sapperref16_Itself.mono st d x k) h hk
theorem ited_size {st : List S80} {d x : List Int} (h : (ited st d x).2 = 0) : (ited st d x).1 = (d.length : Int) + x.length ∧ (d.length : Int) + x.length ≤ 16777216 := by
  obtain ⟨_, hs, hA, hC, hn⟩ := ited_all h
  omega
theorem ited_bad {st : List S80} {d x : List Int} (h : (ited st d x).2 ≠ 0) : (ited st d x).1 = 0 := by
  unfold ited at h ⊢
  by_cases h1 : st.all may = true
  · rw [if_pos h1] at h ⊢
    by_cases h2 : sA st + sC st ≤ 16777216 ∧ sA st = d.length ∧ sC st = x.length
    · rw [if_pos h2] at h; exact absurd rfl h
    · rw [if_neg h2]
  · rw [if_neg h1]
theorem rsize_f (st : List S80) (d x : List Int) (hf : st.length ≤ 1048576) : ∃ k, sapperref16_Size.f k st d x = some ((ited st d x).1, (ited st d x).2) := by
  obtain ⟨k, hk⟩ := ritself_f st d x hf
  refine ⟨k, ?_⟩
  unfold sapperref16_Size.f
  rw [hk, Option.bind_some]
  by_cases h : (ited st d x).2 = 0
  · obtain ⟨h1, h2⟩ := ited_size h
    rw [if_pos h, w64 _ (by omega), h1, h]
  · rw [if_neg h, ited_bad h]
theorem rcheck_f (st : List S80) (d x : List Int) (old size : Int) (hf : st.length ≤ 1048576) : ∃ k, sapperref16_Check.f k st d x old size = some (checked st d x old size) := by
  obtain ⟨k0, hk0⟩ := ritself_f st d x hf
  by_cases hb : 0 ≤ old ∧ old ≤ 16777216 ∧ 0 ≤ size ∧ size ≤ 16777216
  · by_cases h : (ited st d x).2 = 0
    · obtain ⟨h1, h2⟩ := ited_size h
      have hall := (ited_all h).1
      obtain ⟨k1, hk1⟩ := origins_f h hf
      have hfit : fits (og st d x 0) := by
        have := og_len st d x 0 hall (ited_all h).2.2.1 (ited_all h).2.2.2.1
        have := (ited_all h).2.1
        unfold fits
        omega
      obtain ⟨k2, hk2⟩ := outside_f (og st d x 0) old hfit
      refine ⟨k0 + k1 + k2 + 1, ?_⟩
      have g0 := ritself_mono st d x (show k0 ≤ k0 + k1 + k2 by omega) hk0
      have g1 : sapperref16_Origins.f (k0 + k1 + k2) st d x = some (og st d x 0) := at_rounds (g := fun k => sapperref16_Origins.f k st d x) (fun k => sapperref16_Origins.mono st d x k) (by omega) hk1
      have g2 : sapperref16_outside.f (k0 + k1 + k2) (og st d x 0) old = some ((og st d x 0).any (outB old)) := at_rounds (g := fun k => sapperref16_outside.f k (og st d x 0) old) (fun k => sapperref16_outside.mono (og st d x 0) old k) (by omega) hk2
      unfold sapperref16_Check.f checked
      rw [if_neg (by omega), if_neg (by omega), if_neg (by omega), decide_eq_false (by omega), sapperref16_Check.j0, if_neg (by decide), g0, Option.bind_some, if_pos h, w64 _ (by omega), if_neg (show ¬ ¬ _ from fun h' => h' hb), if_neg (show ¬ (ited st d x).2 ≠ 0 from fun h' => h' h), h1]
      by_cases h3 : (d.length : Int) + x.length = size
      · rw [if_pos h3, if_neg (show ¬ _ ≠ _ from fun h' => h' h3), g1, Option.bind_some, g2, Option.bind_some, out_rds hall hf]
        cases rds old st 0 <;> rfl
      · rw [if_neg h3, if_pos h3]
    · refine ⟨k0 + 1, ?_⟩
      unfold sapperref16_Check.f checked
      rw [if_neg (by omega), if_neg (by omega), if_neg (by omega), decide_eq_false (by omega), sapperref16_Check.j0, if_neg (by decide), hk0, Option.bind_some, if_neg h, if_neg (show ¬ ¬ _ from fun h' => h' hb), if_pos h]
  · refine ⟨1, ?_⟩
    unfold sapperref16_Check.f checked
    rw [if_pos hb]
    by_cases h1 : old < 0
    · rw [if_pos h1]; rfl
    · rw [if_neg h1]
      by_cases h2 : old > 16777216
      · rw [if_pos h2]; rfl
      · rw [if_neg h2]
        by_cases h3 : size < 0
        · rw [if_pos h3]; rfl
        · rw [if_neg h3, decide_eq_true (by omega)]; rfl
theorem rsize_c {A0 : Option Addr} {c0 : Nat} {st : List S80} {A1 : Option Addr} {c1 : Nat} {d : List Int} {A2 : Option Addr} {c2 : Nat} {x : List Int} {w : World} (h : EdC w A0 c0 st A1 c1 d A2 c2 x) (hf : st.length ≤ 1048576) :
    Calls Try.prog 30 #[EdV A0 st.length c0 A1 d.length c1 A2 x.length c2] w fun e w' => e = .returned (.tuple #[.int .i64 (ited st d x).1, .int .i64 (ited st d x).2]) ∧ Below w.heap.size w w' := by
  obtain ⟨k, hk⟩ := rsize_f st d x hf
  exact sapperref16_Size.calls k A0 c0 st A1 c1 d A2 c2 x _ _ w h.s h.hs h.di h.hd h.ex h.hx hk
theorem rcheck_c {A0 : Option Addr} {c0 : Nat} {st : List S80} {A1 : Option Addr} {c1 : Nat} {d : List Int} {A2 : Option Addr} {c2 : Nat} {x : List Int} {w : World} (old size : Int) (h : EdC w A0 c0 st A1 c1 d A2 c2 x) (hf : st.length ≤ 1048576) :
    Calls Try.prog 31 #[EdV A0 st.length c0 A1 d.length c1 A2 x.length c2, .int .i64 old, .int .i64 size] w fun e w' => e = .returned (.int .i64 (checked st d x old size)) ∧ Below w.heap.size w w' := by
  obtain ⟨k, hk⟩ := rcheck_f st d x old size hf
  exact sapperref16_Check.calls k A0 c0 st A1 c1 d A2 c2 x _ _ _ w h.s h.hs h.di h.hd h.ex h.hx hk
end Go.Proofs.Ytemlbjpefomboaa
