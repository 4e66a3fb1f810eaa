/- edit: the document's Reverse, by contract. -/
import Derived.Test.YtemlbjpefomboaaRa
import Derived.Test.YtemlbjpefomboaaEg
import Derived.Test.YtemlbjpefomboaaNf
import Derived.Test.YtemlbjpefomboaaRv
namespace Go.Proofs.Ytemlbjpefomboaa
open Go.RowKit Go.Shelf Go.Proofs.YtemlbjpefomboaaW.PrintWords Go.Proofs.YtemlbjpefomboaaW.PrintLast Go.Proofs.YtemlbjpefomboaaW.PrintMore Go.Proofs.Ytemlbjpefomboaa.Pr
set_option linter.unusedVariables false
set_option linter.unusedSimpArgs false
/-- What the document looks for, from the last origin down. -/
def down (A : List S94) (i : Int) : Nat → S94 → S94
  | 0, acc => acc
  | j + 1, acc => down A i j (if (A.getD j z94).f0 = true ∧ (A.getD j z94).f1 = i then ⟨true, j, (-(A.getD j z94).f2) % 256⟩ else acc)
theorem down_back {A B : List S94} {n : Int} (hin : Inn n A) (hB : (B.length : Int) = n) (hB0 : ∀ o ∈ B, o.f0 = false) {i : Nat} (hi : i < B.length) : ∀ (j : Nat), j ≤ A.length → ∀ acc, down A i j acc = if ((backN A B j).getD i z94).f0 = true then (backN A B j).getD i z94 else acc
  | 0, _, acc => by
    have h1 : (B.getD i z94).f0 = false := by
      rw [List.getD_eq_getElem?_getD, List.getElem?_eq_getElem hi, Option.getD_some]
      exact hB0 _ (List.getElem_mem hi)
    rw [down, backN, if_neg (by rw [h1]; decide)]
  | j + 1, hj, acc => by
    have hjl : j < A.length := by omega
    rw [down, down_back hin hB hB0 hi j (by omega), backN]
    have hm : A.getD j z94 ∈ A := by
      rw [List.getD_eq_getElem?_getD, List.getElem?_eq_getElem hjl, Option.getD_some]
      exact List.getElem_mem hjl
    have hr := hin _ hm
    obtain ⟨⟨f0, f1, f2⟩, ho⟩ : ∃ o, A.getD j z94 = o := ⟨_, rfl⟩
    rw [ho] at hr ⊢
    simp only at hr ⊢
    have hil : i < (backN A B j).length := by rw [backN_len]; exact hi
    by_cases hc : f0 = true ∧ f1 = (i : Int)
    · rw [if_pos hc]
      obtain ⟨rfl, rfl⟩ := hc
      by_cases hz : ((backN A B j).getD i z94).f0 = true
      · have hs : stepB j ⟨true, (i : Int), f2⟩ (backN A B j) = backN A B j := by
          unfold stepB
          simp only [Int.toNat_natCast]
          rw [if_neg (by rw [hz]; simp)]
        rw [hs, if_pos hz, if_pos hz]
      · have hz' : ((backN A B j).getD i z94).f0 = false := by simpa using hz
        have hs : stepB j ⟨true, (i : Int), f2⟩ (backN A B j) = (backN A B j).set i ⟨true, (j : Int), (-f2) % 256⟩ := by
          unfold stepB
          simp only [Int.toNat_natCast]
          rw [if_pos (by rw [hz']; simp)]
        have hg : ((backN A B j).set i ⟨true, (j : Int), (-f2) % 256⟩).getD i z94 = ⟨true, (j : Int), (-f2) % 256⟩ := by
          rw [List.getD_eq_getElem?_getD, List.getElem?_set_self hil, Option.getD_some]
        rw [hs, if_neg hz, hg]
        simp
    · rw [if_neg hc]
      have hg : (stepB j ⟨f0, f1, f2⟩ (backN A B j)).getD i z94 = (backN A B j).getD i z94 := by
        unfold stepB
        simp only
        split
        · rename_i h
          have hb := hr h.1
          have hne : f1.toNat ≠ i := by
            intro e
            exact hc ⟨h.1, by omega⟩
          rw [List.getD_eq_getElem?_getD, List.getElem?_set_ne hne, ← List.getD_eq_getElem?_getD]
        · rfl
      rw [hg]
theorem back_f0 {A B : List S94} {i : Nat} : ∀ (j : Nat), ((backN A B j).getD i z94).f0 = false → (backN A B j).getD i z94 = B.getD i z94
  | 0, _ => rfl
  | j + 1, h => by
    rw [backN] at h ⊢
    by_cases hc : (A.getD j z94).f0 = true ∧ ((backN A B j).getD (A.getD j z94).f1.toNat z94).f0 = false
    · unfold stepB at h ⊢
      rw [if_pos hc] at h ⊢
      by_cases he : (A.getD j z94).f1.toNat = i
      · by_cases hl : i < (backN A B j).length
        · rw [List.getD_eq_getElem?_getD, he, List.getElem?_set_self hl, Option.getD_some] at h
          cases h
        · rw [List.set_eq_of_length_le (by omega)] at h ⊢
          exact back_f0 j h
      · rw [List.getD_eq_getElem?_getD, List.getElem?_set_ne he, ← List.getD_eq_getElem?_getD] at h ⊢
        exact back_f0 j h
    · unfold stepB at h ⊢
      rw [if_neg hc] at h ⊢
      exact back_f0 j h
/-- What the document puts together. -/
def backR (old : List Int) (A : List S94) (n : Nat) : List S94 := (List.range n).map (fun (i : Nat) => down A (i : Int) A.length ⟨false, 0, rd old (i : Int)⟩)
theorem backR_eq {old : List Int} {A : List S94} (hin : Inn old.length A) : backR old A old.length = backN A (back0 old) A.length := by
  have hB : (back0 old).length = old.length := by simp [back0]
  apply List.ext_getElem?
  intro i
  by_cases hi : i < old.length
  · have hib : i < (back0 old).length := by omega
    have hil : i < (backN A (back0 old) A.length).length := by rw [backN_len]; exact hib
    have h0 : (back0 old).getD i z94 = ⟨false, 0, rd old (i : Int)⟩ := by
      rw [List.getD_eq_getElem?_getD]
      simp [back0, rd, hi]
    have hd := down_back hin (by rw [hB]) (fun o ho => by
      simp only [back0, List.mem_map] at ho
      obtain ⟨b, _, rfl⟩ := ho
      rfl) hib A.length (Nat.le_refl _) ⟨false, 0, rd old (i : Int)⟩
    have hg : (backN A (back0 old) A.length)[i]? = some ((backN A (back0 old) A.length).getD i z94) := by
      rw [List.getD_eq_getElem?_getD, List.getElem?_eq_getElem hil, Option.getD_some]
    rw [hg]
    unfold backR
    rw [List.getElem?_map, List.getElem?_range hi, Option.map_some, hd]
    congr 1
    split
    · rfl
    · rename_i hz
      rw [back_f0 A.length (by simpa using hz), h0]
  · rw [List.getElem?_eq_none (by simp [backR]; omega), List.getElem?_eq_none (by rw [backN_len]; omega)]
theorem rrev_l1 (old : List Int) (A : List S94) (hA : A.length ≤ 16777216) (R : List S80 × List Int × List Int × Int) (out : List S94) (ho : out.length ≤ 16777216) (i : Nat) (hi : i ≤ 16777216) : ∀ (j : Nat) (acc : S94), j ≤ A.length →
    (∃ k, sapperref16_Reverse.l0 k old A (out ++ [down A (i : Int) j acc]) ((i + 1 : Nat) : Int) = some R) → ∃ k, sapperref16_Reverse.l1 k old A out i ((j : Int) - 1) acc.f0 acc.f1 acc.f2 = some R
  | 0, acc, _, ⟨k, hk⟩ => by
    refine ⟨k + 1, ?_⟩
    rw [sapperref16_Reverse.l1, if_neg (by omega), if_pos (by omega), w64 ((i : Int) + 1) (by omega), show ((i : Int) + 1) = ((i + 1 : Nat) : Int) by omega]
    exact hk
  | j + 1, acc, hj, hk => by
    have hr : rd_T94 A (j : Int) = A.getD j z94 := by simp [rd_T94]
    have e1 : (((j + 1 : Nat) : Int) - 1) = (j : Int) := by omega
    obtain ⟨⟨f0, f1, f2⟩, hg⟩ : ∃ o, A.getD j z94 = o := ⟨_, rfl⟩
    rw [down, hg] at hk
    simp only at hk
    obtain ⟨k, hk'⟩ := rrev_l1 old A hA R out ho i hi j _ (by omega) hk
    refine ⟨k + 1, ?_⟩
    rw [e1, sapperref16_Reverse.l1, if_pos (by omega), if_pos (by omega), if_pos (by omega), hr, hg, w64 ((j : Int) - 1) (by omega)]
    simp only
    by_cases h0 : f0 = true
    · by_cases h1 : f1 = (i : Int)
      · rw [if_pos ⟨h0, h1⟩] at hk'
        rw [if_pos h0, if_pos h1]
        exact hk'
      · rw [if_neg (fun h => h1 h.2)] at hk'
        rw [if_pos h0, if_neg h1]
        exact hk'
    · rw [if_neg (fun h => h0 h.1)] at hk'
      rw [if_neg h0]
      exact hk'
theorem rrev_l0 (old : List Int) (A : List S94) (hA : A.length ≤ 16777216) (ho : old.length ≤ 16777216) : ∀ (m i : Nat), i + m = old.length → ∃ k, sapperref16_Reverse.l0 k old A (backR old A i) i = some (normOf (backR old A old.length))
  | 0, i, hi => by
    obtain rfl : i = old.length := by omega
    obtain ⟨k, hk⟩ := of_f (backR old A old.length) (by simp [backR]; exact ho)
    refine ⟨k + 1, ?_⟩
    rw [sapperref16_Reverse.l0, if_neg (by omega), hk, Option.bind_some]
  | m + 1, i, hi => by
    obtain ⟨k, hk⟩ := rrev_l0 old A hA ho m (i + 1) (by omega)
    have hb : backR old A (i + 1) = backR old A i ++ [down A (i : Int) A.length ⟨false, 0, rd old (i : Int)⟩] := by
      unfold backR
      rw [List.range_succ, List.map_append]
      rfl
    rw [hb] at hk
    obtain ⟨k', hk'⟩ := rrev_l1 old A hA _ (backR old A i) (by simp [backR]; omega) i (by omega) A.length ⟨false, 0, rd old (i : Int)⟩ (Nat.le_refl _) ⟨k, hk⟩
    refine ⟨k' + 1, ?_⟩
    rw [sapperref16_Reverse.l0, if_pos (by omega), if_pos (by omega), w64 ((A.length : Int) - 1) (by omega)]
    exact hk'
theorem rreverse_f (old : List Int) (st : List S80) (d x : List Int) (ho : old.length ≤ 16777216) (hf : st.length ≤ 1048576) : ∃ k, sapperref16_Reverse.f k old st d x = some (reverseE old st d x) := by
  obtain ⟨k1, h1⟩ := rapply_f old st d x ho hf
  by_cases h0 : appliedE old st d x = 0
  rotate_left
  · refine ⟨k1, ?_⟩
    rw [sapperref16_Reverse.f, h1, Option.bind_some, if_neg h0, reverseE, if_pos h0]
  have hk := appliedE_ok0 h0
  have hin := inn_applied hf h0
  obtain ⟨k2, h2⟩ := origins_f hk.2 hf
  obtain ⟨k3, h3⟩ := rrev_l0 old (og st d x 0) (og_fit hk.2) ho old.length 0 (by omega)
  refine ⟨k1 + k2 + k3, ?_⟩
  have g1 := at_rounds (g := fun k => sapperref16_Apply.f k old st d x) (fun k => sapperref16_Apply.mono _ _ _ _ k) (show k1 ≤ k1 + k2 + k3 by omega) h1
  have g2 := at_rounds (g := fun k => sapperref16_Origins.f k st d x) (fun k => sapperref16_Origins.mono _ _ _ k) (show k2 ≤ k1 + k2 + k3 by omega) h2
  have g3 := at_rounds (g := fun k => sapperref16_Reverse.l0 k old (og st d x 0) (backR old (og st d x 0) 0) ((0 : Nat) : Int)) (fun k => (sapperref16_Reverse.mono_l k).1 _ _ _ _) (show k3 ≤ k1 + k2 + k3 by omega) h3
  rw [backR_eq hin] at g3
  rw [sapperref16_Reverse.f, g1, Option.bind_some, if_pos h0, g2, Option.bind_some, reverseE, if_neg (fun h => h h0)]
  exact g3
theorem rreverse_c {Ao : Option Addr} {co : Nat} {old : List Int} {A0 : Option Addr} {c0 : Nat} {st : List S80} {A1 : Option Addr} {c1 : Nat} {d : List Int} {A2 : Option Addr} {c2 : Nat} {x : List Int} {w : World}
    (hO : Kd.C (Kd.int .u8) w Ao old.length old) (hoc : old.length ≤ co) (hE : EdC w A0 c0 st A1 c1 d A2 c2 x) (ho : old.length ≤ 16777216) (hf : st.length ≤ 1048576) :
    Calls Try.prog 41 #[.slice Ao old.length co, EdV A0 st.length c0 A1 d.length c1 A2 x.length c2] w (NormR w (reverseE old st d x)) := by
  obtain ⟨k, hk⟩ := rreverse_f old st d x ho hf
  obtain ⟨⟨n0, n1, n2, n3⟩, hq⟩ : ∃ q, reverseE old st d x = q := ⟨_, rfl⟩
  rw [hq] at hk ⊢
  exact (sapperref16_Reverse.calls k Ao co old A0 c0 st A1 c1 d A2 c2 x n0 n1 n2 n3 w hO hoc hE.s hE.hs hE.di hE.hd hE.ex hE.hx hk).mono (fun e w' h => h)
end Go.Proofs.Ytemlbjpefomboaa
