/- edit: there and back, in plain Lean. -/
import Derived.Test.YtemlbjpefomboaaCp
import Derived.Test.YtemlbjpefomboaaRv
namespace Go.Proofs.Ytemlbjpefomboaa
open Go.RowKit Go.Shelf Go.Proofs.YtemlbjpefomboaaW.PrintWords Go.Proofs.YtemlbjpefomboaaW.PrintLast Go.Proofs.YtemlbjpefomboaaW.PrintMore Go.Proofs.Ytemlbjpefomboaa.Pr
set_option linter.unusedVariables false
set_option linter.unusedSimpArgs false
/-- Places of which a normal edit can always be made. -/
def Near (L : List S94) : Prop := ∀ o ∈ L, o.f0 = true → 0 ≤ o.f1 ∧ o.f1 < 16777216
theorem tks_near : ∀ (L : List S94) (t : TS) (p : Nat), Near L → p + L.length ≤ 16777216 → 0 ≤ t.a ∧ t.a ≤ 16777216 → (∀ s, t.cu = some s → 0 ≤ s.f0 ∧ s.f0 ≤ p ∧ 0 ≤ s.f1 ∧ s.f1 ≤ p) → ∃ u, tks L t = some u
  | [], t, p, _, _, _, _ => ⟨t, rfl⟩
  | o :: L, t, p, hn, hp, ha, hc => by
    obtain ⟨f0, f1, f2⟩ := o
    obtain ⟨dn, cu, d, x, a⟩ := t
    simp only [List.length_cons] at hp
    simp only at ha hc
    have hn' : Near L := fun o ho => hn o (List.mem_cons_of_mem _ ho)
    have go : ∀ u : TS, (0 ≤ u.a ∧ u.a ≤ 16777216) → (∀ s, u.cu = some s → 0 ≤ s.f0 ∧ s.f0 ≤ (p + 1 : Nat) ∧ 0 ≤ s.f1 ∧ s.f1 ≤ (p + 1 : Nat)) → ∃ v, tks L u = some v := fun u h1 h2 => tks_near L u (p + 1) hn' (by omega) h1 h2
    have hw : ∀ z : Int, 0 ≤ z → z < 16777216 → wrap64 (z + 1) = z + 1 := fun z h1 h2 => w64 _ (by omega)
    cases f0 with
    | false =>
      cases cu with
      | none =>
        rw [tks, tk]
        simp only [Bool.false_eq_true, if_false, Option.bind_some]
        exact go _ ha (fun s hs => by cases hs; simp only; omega)
      | some s =>
        have h := hc s rfl
        rw [tks, tk]
        simp only [Bool.false_eq_true, if_false, Option.bind_some]
        exact go _ ha (fun s' hs => by cases hs; simp only; omega)
    | true =>
      have hr := hn _ List.mem_cons_self rfl
      simp only at hr
      have h1 := hw f1 hr.1 hr.2
      have h2 : wrap64 (f1 - a) = f1 - a := w64 _ (by omega)
      cases cu with
      | none =>
        rw [tks, tk]
        simp only [if_true]
        by_cases e : f1 = a
        · rw [if_pos e, Option.bind_some]
          exact go _ (by simp only [h1]; omega) (fun s' hs => by cases hs; simp only; omega)
        · rw [if_neg e, h2, if_pos ((may_iff _).2 (by simp only; omega)), Option.bind_some]
          exact go _ (by simp only [h1]; omega) (fun s' hs => by cases hs; simp only; omega)
      | some s =>
        have h := hc s rfl
        rw [tks, tk]
        simp only [if_true]
        by_cases e : f1 = a ∧ s.f1 = 0
        · rw [if_pos e, Option.bind_some]
          exact go _ (by simp only [h1]; omega) (fun s' hs => by cases hs; simp only; omega)
        · rw [if_neg e, h2, if_pos ((may_iff _).2 (by simp only; omega)), Option.bind_some]
          exact go _ (by simp only [h1]; omega) (fun s' hs => by cases hs; simp only; omega)
theorem normOf_near {L : List S94} (hn : Near L) (hl : L.length ≤ 16777216) : ∃ S D X, normOf L = (S, D, X, 0) := by
  obtain ⟨u, hu⟩ := tks_near L ts0 0 hn (by omega) (by simp [ts0]) (fun s hs => by cases hs)
  exact ⟨u.st, u.d, u.x, by rw [normOf, hu]; rfl⟩
/-- What stands in what leads back. -/
theorem backN_spec {old : List Int} {A : List S94} (hin : Inn old.length A) {i : Nat} (hi : i < old.length) : ∀ (j : Nat), j ≤ A.length → (backN A (back0 old) j).getD i z94 = ⟨false, 0, rd old (i : Int)⟩ ∨
    ∃ m, m < j ∧ (A.getD m z94).f0 = true ∧ (A.getD m z94).f1 = (i : Int) ∧ (backN A (back0 old) j).getD i z94 = ⟨true, (m : Int), (-(A.getD m z94).f2) % 256⟩
  | 0, _ => by
    left
    rw [backN, List.getD_eq_getElem?_getD]
    simp [back0, rd, hi]
  | j + 1, hj => by
    have hjl : j < A.length := by omega
    have ih := backN_spec hin hi j (by omega)
    have hm : A.getD j z94 ∈ A := by
      rw [List.getD_eq_getElem?_getD, List.getElem?_eq_getElem hjl, Option.getD_some]
      exact List.getElem_mem hjl
    have hr := hin _ hm
    have hil : i < (backN A (back0 old) j).length := by rw [backN_len]; simpa [back0] using hi
    rw [backN]
    by_cases hc : (A.getD j z94).f0 = true ∧ ((backN A (back0 old) j).getD (A.getD j z94).f1.toNat z94).f0 = false
    · have hb := hr hc.1
      unfold stepB
      rw [if_pos hc]
      by_cases he : (A.getD j z94).f1.toNat = i
      · right
        refine ⟨j, by omega, hc.1, by omega, ?_⟩
        rw [he, List.getD_eq_getElem?_getD, List.getElem?_set_self hil, Option.getD_some]
      · rw [List.getD_eq_getElem?_getD, List.getElem?_set_ne he, ← List.getD_eq_getElem?_getD]
        rcases ih with h | ⟨m, h1, h2⟩
        · exact .inl h
        · exact .inr ⟨m, by omega, h2⟩
    · unfold stepB
      rw [if_neg hc]
      rcases ih with h | ⟨m, h1, h2⟩
      · exact .inl h
      · exact .inr ⟨m, by omega, h2⟩
theorem back_mem {old : List Int} {A : List S94} (hin : Inn old.length A) {o : S94} (ho : o ∈ backN A (back0 old) A.length) : (o.f0 = false ∧ o.f1 = 0) ∨ ∃ m, m < A.length ∧ (A.getD m z94).f0 = true ∧ o.f0 = true ∧ o.f1 = (m : Int) := by
  obtain ⟨i, hi, rfl⟩ := List.mem_iff_getElem.1 ho
  have hio : i < old.length := by rw [backN_len] at hi; simpa [back0] using hi
  have hg : (backN A (back0 old) A.length).getD i z94 = (backN A (back0 old) A.length)[i] := by rw [List.getD_eq_getElem?_getD, List.getElem?_eq_getElem hi, Option.getD_some]
  rw [← hg]
  rcases backN_spec hin hio A.length (Nat.le_refl _) with h | ⟨m, h1, h2, h3, h4⟩
  · rw [h]; exact .inl ⟨rfl, rfl⟩
  · rw [h4]; exact .inr ⟨m, h1, h2, rfl, rfl⟩
theorem back_can {old : List Int} {A : List S94} (hin : Inn old.length A) (hA : A.length ≤ 16777216) : Can (backN A (back0 old) A.length) := by
  intro o ho
  rcases back_mem hin ho with ⟨h1, h2⟩ | ⟨m, h1, _, h2, h3⟩
  · exact ⟨fun h => (by rw [h1] at h; cases h), fun _ => h2⟩
  · exact ⟨fun _ => (by rw [h3]; exact w64 _ (by omega)), fun h => (by rw [h2] at h; cases h)⟩
theorem back_inn {old : List Int} {A : List S94} (hin : Inn old.length A) : Inn A.length (backN A (back0 old) A.length) := by
  intro o ho h
  rcases back_mem hin ho with ⟨h1, _⟩ | ⟨m, h1, _, _, h3⟩
  · rw [h1] at h; cases h
  · omega
/-- It leads back. -/
theorem back_ob {old : List Int} {A : List S94} (hin : Inn old.length A) (hb : ∀ b ∈ old, 0 ≤ b ∧ b ≤ 255) : (backN A (back0 old) A.length).map (ob (A.map (ob old))) = old := by
  have hl : (backN A (back0 old) A.length).length = old.length := by rw [backN_len]; simp [back0]
  apply List.ext_getElem
  · rw [List.length_map, hl]
  intro i h1 h2
  have hi : i < (backN A (back0 old) A.length).length := by rw [hl]; exact h2
  have hg : (backN A (back0 old) A.length).getD i z94 = (backN A (back0 old) A.length)[i] := by rw [List.getD_eq_getElem?_getD, List.getElem?_eq_getElem hi, Option.getD_some]
  have hr : rd old (i : Int) = old[i] := by simp [rd, List.getD_eq_getElem?_getD, List.getElem?_eq_getElem h2]
  have hbi := hb _ (List.getElem_mem h2)
  rw [List.getElem_map, ← hg]
  rcases backN_spec hin h2 A.length (Nat.le_refl _) with h | ⟨m, g1, g2, g3, g4⟩
  · rw [h, ob, if_neg (by simp), hr]
  · have hA : A.getD m z94 = A[m] := by rw [List.getD_eq_getElem?_getD, List.getElem?_eq_getElem g1, Option.getD_some]
    have hm : rd (A.map (ob old)) (m : Int) = ob old A[m] := by simp [rd, List.getD_eq_getElem?_getD, g1]
    rw [g4, ob, if_pos rfl]
    simp only
    rw [hm]
    rw [hA] at g2 g3 ⊢
    rw [ob, if_pos g2, g3, hr]
    omega
theorem cmp_near {A B : List S94} {n : Int} (hA : Inn n A) (hn : n ≤ 16777216) (hin : Inn A.length B) : Near (B.map (cmp1 A)) := fun o ho h => by
  have := cmp_inn hA hin o ho h
  omega
theorem back_all {old : List Int} {st : List S80} {d x : List Int} (hb : ∀ b ∈ old, 0 ≤ b ∧ b ≤ 255) (hf : st.length ≤ 34359738368) (h : appliedE old st d x = 0) :
    ∃ S D X P Q R, reverseE old st d x = (S, D, X, 0) ∧ S.length ≤ 16777217 ∧ appliedE (applied old st d x) S D X = 0 ∧ applied (applied old st d x) S D X = old ∧ composeE st d x S D X = (P, Q, R, 0) ∧ P.length ≤ 16777217 ∧ appliedE old P Q R = 0 ∧ applied old P Q R = old := by
  obtain ⟨k1, k2, k3⟩ := appliedE_ok h
  have hin := inn_applied2 hf h
  have hlA := og_fit k2
  have hap := applied_ok h
  obtain ⟨A, hA⟩ : ∃ A, og st d x 0 = A := ⟨_, rfl⟩
  have hAc := og_can st d x 0
  have hit := og_ited k2
  have hrv : reverseE old st d x = normOf (backN A (back0 old) A.length) := by unfold reverseE; rw [if_neg (fun h' => h' h), hA]
  rw [hA] at hin hlA hap hAc hit
  have hBl : (backN A (back0 old) A.length).length = old.length := by rw [backN_len]; simp [back0]
  have hBi := back_inn hin
  have hBc := back_can hin hlA
  have hBo := back_ob hin hb
  generalize backN A (back0 old) A.length = B at hBl hBi hBc hBo hrv
  obtain ⟨S, D, X, hS⟩ := normOf_near (L := B) (fun o ho h0 => by have := hBi o ho h0; omega) (by omega)
  have hog := normOf_og hBc (by omega) hS
  have hSl : S.length ≤ 16777217 := by have := normOf_st (L := B) (by omega); rw [hS] at this; exact this
  have hiS : (ited S D X).2 = 0 := by rw [hog.2]
  have hnl : ((applied old st d x).length : Int) = (ited st d x).1 := by rw [hap, List.length_map, hit]
  have hrS : rds (A.length : Int) S 0 = true := rds_of_inn (d := D) (x := X) (ited_all hiS).1 (by omega) (by rw [hog.1]; exact hBi)
  have e1 : appliedE (applied old st d x) S D X = 0 := appliedE_mk (by rw [hap, List.length_map]; exact hlA) hiS (by rw [hnl, ← hit]; exact hrS)
  have e2 : applied (applied old st d x) S D X = old := by rw [applied_ok e1, hog.1, hap, hBo]
  have hcm : composeE st d x S D X = normOf (B.map (cmp1 A)) := by
    unfold composeE
    rw [if_neg (fun h' => h' k2), if_neg (fun h' => h' hiS), if_neg (by rw [← hit, hrS]; decide), hog.1, hA]
  have hcl : (B.map (cmp1 A)).length ≤ 16777216 := by rw [List.length_map]; omega
  obtain ⟨P, Q, R, hP⟩ := normOf_near (cmp_near hin (by omega) hBi) hcl
  have hoP := normOf_og (cmp_can hAc hBc hBi) hcl hP
  have hPl : P.length ≤ 16777217 := by have := normOf_st hcl; rw [hP] at this; exact this
  have hiP : (ited P Q R).2 = 0 := by rw [hoP.2]
  have e3 : appliedE old P Q R = 0 := appliedE_mk k1 hiP (rds_of_inn (d := Q) (x := R) (ited_all hiP).1 (by omega) (by rw [hoP.1]; exact cmp_inn hin hBi))
  have e4 : applied old P Q R = old := by rw [applied_ok e3, hoP.1, cmp_ob hBi, hBo]
  exact ⟨S, D, X, P, Q, R, by rw [hrv, hS], hSl, e1, e2, by rw [hcm, hP], hPl, e3, e4⟩
end Go.Proofs.Ytemlbjpefomboaa
