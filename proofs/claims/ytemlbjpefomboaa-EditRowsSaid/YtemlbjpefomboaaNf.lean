/- edit: the document's Of tells the normal edit. -/
import Derived.Test.YtemlbjpefomboaaNm
import Derived.Test.YtemlbjpefomboaaEc
namespace Go.Proofs.Ytemlbjpefomboaa
open Go.RowKit Go.Shelf Go.Proofs.YtemlbjpefomboaaW.PrintWords Go.Proofs.YtemlbjpefomboaaW.PrintLast Go.Proofs.YtemlbjpefomboaaW.PrintMore Go.Proofs.Ytemlbjpefomboaa.Pr
set_option linter.unusedVariables false
set_option linter.unusedSimpArgs false
/-- How much there is so far. -/
def Fit (L : List S94) (i : Nat) (e : List S80) (d x : List Int) (s0 s1 : Int) : Prop := L.length ≤ 16777216 ∧ e.length ≤ i ∧ d.length ≤ i ∧ x.length ≤ i ∧ 0 ≤ s0 ∧ 0 ≤ s1 ∧ s0 ≤ i ∧ s1 ≤ i
/-- The loop of the added bytes, from a step that is begun. -/
def L1 (L : List S94) (j : Nat) : Prop := ∀ (i : Nat) (e : List S80) (d x : List Int) (s0 at_ : Int), i + j = L.length → Fit L i e d x s0 0 → 1 ≤ s0 →
  ∃ k, sapperref16_Of.l1 k L at_ i e d x s0 0 0 = some (nrm (tks (L.drop i) ⟨e, some ⟨s0, 0, 0⟩, d, x, at_⟩))
theorem of_j4 (L : List S94) (j : Nat) (IH : ∀ j', j' < j → L1 L j') (i : Nat) (e : List S80) (d x : List Int) (s0 s1 at_ : Int) (hi : i + j = L.length) (hf : Fit L i e d x s0 s1)
    (hc : i < L.length → (rd_T94 L i).f0 = true ∧ (s1 = 0 → (rd_T94 L i).f1 ≠ at_)) (r : Option TS)
    (hr0 : i = L.length → r = some ⟨e, some ⟨s0, s1, 0⟩, d, x, at_⟩)
    (hr : i < L.length → r = if may ⟨s0, s1, wrap64 ((rd_T94 L i).f1 - at_)⟩ = true then tks (L.drop (i + 1)) ⟨e ++ [⟨s0, s1, wrap64 ((rd_T94 L i).f1 - at_)⟩], some ⟨1, 0, 0⟩, d ++ [(rd_T94 L i).f2], x, wrap64 ((rd_T94 L i).f1 + 1)⟩ else none) :
    ∃ k, sapperref16_Of.j4 k L at_ i e d x s0 s1 0 = some (nrm r) := by
  obtain ⟨h1, h2, h3, h4, h5, h6, h7, h8⟩ := hf
  by_cases hlt : i < L.length
  · obtain ⟨c1, c2⟩ := hc hlt
    have hr' := hr hlt
    obtain ⟨⟨f0, p, b⟩, ho⟩ : ∃ o, rd_T94 L i = o := ⟨_, rfl⟩
    rw [ho] at c1 c2 hr'
    simp only at c1 c2 hr'
    subst c1
    by_cases hm : may ⟨s0, s1, wrap64 (p - at_)⟩ = true
    · rw [if_pos hm] at hr'
      obtain ⟨k, hk⟩ := IH (j - 1) (by omega) (i + 1) (e ++ [⟨s0, s1, wrap64 (p - at_)⟩]) (d ++ [b]) x 1 (wrap64 (p + 1)) (by omega) ⟨h1, by simp; omega, by simp; omega, by omega, by omega, by omega, by omega, by omega⟩ (by omega)
      refine ⟨k + 3, ?_⟩
      rw [sapperref16_Of.j4, if_pos (by omega), if_pos (by omega), ho]
      simp only
      have hs := rstep_f ⟨s0, s1, wrap64 (p - at_)⟩
      simp only at hs
      rw [hs, Option.bind_some, if_pos hm, if_pos (by omega), sapperref16_Of.l0, if_pos (by omega), sapperref16_Of.l1, if_pos (by omega), if_pos (by omega), ho]
      simp only [if_true]
      rw [if_pos (by omega), w64 ((i : Int) + 1) (by omega), show ((i : Int) + 1) = ((i + 1 : Nat) : Int) by omega, w01, hk, hr']
    · rw [if_neg hm] at hr'
      refine ⟨1, ?_⟩
      rw [sapperref16_Of.j4, if_pos (by omega), if_pos (by omega), ho]
      simp only
      have hs := rstep_f ⟨s0, s1, wrap64 (p - at_)⟩
      simp only at hs
      rw [hs, Option.bind_some, if_neg hm, hr']
      rfl
  · have hr' := hr0 (by omega)
    refine ⟨2, ?_⟩
    have hm : may ⟨s0, s1, 0⟩ = true := (may_iff _).2 ⟨h5, by simp only; omega, h6, by simp only; omega, by simp, by simp⟩
    have hs := rstep_f ⟨s0, s1, 0⟩
    simp only at hs
    rw [sapperref16_Of.j4, if_neg (by omega), hs, Option.bind_some, if_pos hm, if_pos (by omega), sapperref16_Of.l0, if_neg (by omega), hr']
    rfl
theorem of_l2 (L : List S94) : ∀ (j : Nat), (∀ j', j' < j → L1 L j') → ∀ (i : Nat) (e : List S80) (d x : List Int) (s0 s1 at_ : Int), i + j = L.length → Fit L i e d x s0 s1 →
    (1 ≤ s0 ∨ 1 ≤ s1) → (s1 = 0 → i < L.length → (rd_T94 L i).f0 = true → (rd_T94 L i).f1 ≠ at_) →
    ∃ k, sapperref16_Of.l2 k L at_ i e d x s0 s1 0 = some (nrm (tks (L.drop i) ⟨e, some ⟨s0, s1, 0⟩, d, x, at_⟩))
  | 0, IH, i, e, d, x, s0, s1, at_, hi, hf, hs, hc => by
    obtain ⟨k, hk⟩ := of_j4 L 0 IH i e d x s0 s1 at_ hi hf (fun h => by omega) (tks (L.drop i) ⟨e, some ⟨s0, s1, 0⟩, d, x, at_⟩) (fun h => by rw [h, List.drop_length]; rfl) (fun h => by omega)
    refine ⟨k + 1, ?_⟩
    rw [sapperref16_Of.l2, if_neg (by omega), hk]
  | j + 1, IH, i, e, d, x, s0, s1, at_, hi, hf, hs, hc => by
    have hlt : i < L.length := by omega
    have hd := rdd L i hlt
    obtain ⟨⟨f0, p, b⟩, ho⟩ : ∃ o, rd_T94 L i = o := ⟨_, rfl⟩
    have hf' := hf
    obtain ⟨h1, h2, h3, h4, h5, h6, h7, h8⟩ := hf
    cases f0 with
    | true =>
      have hcc : s1 = 0 → p ≠ at_ := fun h => by have := hc h hlt; rw [ho] at this; exact this rfl
      obtain ⟨k, hk⟩ := of_j4 L (j + 1) IH i e d x s0 s1 at_ hi hf' (fun h => by rw [ho]; exact ⟨rfl, hcc⟩) (tks (L.drop i) ⟨e, some ⟨s0, s1, 0⟩, d, x, at_⟩) (fun h => by omega) (fun h => by
        rw [hd, ho, tks, tk]
        simp only [if_true]
        rw [if_neg (fun h => hcc h.2 h.1)]
        by_cases hm : may ⟨s0, s1, wrap64 (p - at_)⟩ = true
        · rw [if_pos hm, if_pos hm, Option.bind_some]
        · rw [if_neg hm, if_neg hm, Option.bind_none])
      refine ⟨k + 1, ?_⟩
      rw [sapperref16_Of.l2, if_pos (by omega), if_pos (by omega), if_pos (by rw [ho]), hk]
    | false =>
      obtain ⟨k, hk⟩ := of_l2 L j (fun j' h => IH j' (by omega)) (i + 1) e d (x ++ [b]) s0 (s1 + 1) at_ (by omega) ⟨h1, by omega, by omega, by simp; omega, by omega, by omega, by omega, by omega⟩ (.inr (by omega)) (fun h => by omega)
      refine ⟨k + 1, ?_⟩
      rw [sapperref16_Of.l2, if_pos (by omega), if_pos (by omega), if_neg (by rw [ho]; simp), if_pos (by omega), ho, w64 ((i : Int) + 1) (by omega), w64 (s1 + 1) (by omega), show ((i : Int) + 1) = ((i + 1 : Nat) : Int) by omega]
      simp only
      rw [hk, hd, ho, tks, tk]
      simp
theorem of_l1 (L : List S94) : ∀ (j : Nat), L1 L j := by
  intro j
  induction j using Nat.strongRecOn with
  | _ j ih =>
  intro i e d x s0 at_ hi hf hs
  by_cases hlt : i < L.length
  · have hd := rdd L i hlt
    obtain ⟨⟨f0, p, b⟩, ho⟩ : ∃ o, rd_T94 L i = o := ⟨_, rfl⟩
    have hf' := hf
    obtain ⟨h1, h2, h3, h4, h5, h6, h7, h8⟩ := hf
    by_cases hg : f0 = true ∧ p = at_
    · obtain ⟨rfl, rfl⟩ := hg
      obtain ⟨k, hk⟩ := ih (j - 1) (by omega) (i + 1) e (d ++ [b]) x (s0 + 1) (wrap64 (p + 1)) (by omega) ⟨h1, by omega, by simp; omega, by omega, by omega, by omega, by omega, by omega⟩ (by omega)
      refine ⟨k + 1, ?_⟩
      rw [sapperref16_Of.l1, if_pos (by omega), if_pos (by omega), ho]
      simp only [if_true]
      rw [if_pos (by omega), w64 ((i : Int) + 1) (by omega), w64 (s0 + 1) (by omega), show ((i : Int) + 1) = ((i + 1 : Nat) : Int) by omega, hk, hd, ho, tks, tk]
      simp
    · obtain ⟨k, hk⟩ := of_l2 L j ih i e d x s0 0 at_ hi hf' (.inl hs) (fun _ _ h => by rw [ho] at h ⊢; exact fun h2 => hg ⟨h, h2⟩)
      refine ⟨k + 2, ?_⟩
      rw [sapperref16_Of.l1, if_pos (by omega), if_pos (by omega), ho]
      simp only
      by_cases h0 : f0 = true
      · rw [if_pos h0, if_neg (fun h => hg ⟨h0, h⟩), sapperref16_Of.j2, hk]
      · rw [if_neg h0, sapperref16_Of.j2, hk]
  · obtain ⟨k, hk⟩ := of_l2 L j ih i e d x s0 0 at_ hi hf (.inl hs) (fun _ h => absurd h hlt)
    refine ⟨k + 2, ?_⟩
    rw [sapperref16_Of.l1, if_neg (by omega), sapperref16_Of.j2, hk]
theorem of_f (L : List S94) (hL : L.length ≤ 16777216) : ∃ k, sapperref16_Of.f k L = some (normOf L) := by
  cases L with
  | nil => exact ⟨1, rfl⟩
  | cons o l =>
    obtain ⟨f0, p, b⟩ := o
    obtain ⟨L, eL⟩ : ∃ L, (⟨f0, p, b⟩ : S94) :: l = L := ⟨_, rfl⟩
    have h0 : rd_T94 L (0 : Int) = ⟨f0, p, b⟩ := by rw [← eL]; rfl
    have hd : L.drop 1 = l := by rw [← eL]; rfl
    have hlen : L.length = l.length + 1 := by rw [← eL]; rfl
    have hn : normOf L = nrm ((tk ts0 ⟨f0, p, b⟩).bind (tks l)) := by rw [← eL]; rfl
    rw [eL] at hL ⊢
    rw [hn]
    have l1all := of_l1 L
    by_cases hf0 : f0 = true
    · subst hf0
      by_cases hp : p = 0
      · subst hp
        obtain ⟨k, hk⟩ := l1all l.length 1 [] [b] [] 1 1 (by omega) ⟨hL, by simp, by simp, by simp, by omega, by omega, by omega, by omega⟩ (by omega)
        refine ⟨k + 2, ?_⟩
        rw [sapperref16_Of.f, sapperref16_Of.l0, if_pos (by omega), sapperref16_Of.l1, if_pos (by omega), if_pos (by omega), h0]
        simp only [if_true, List.length_nil, List.nil_append]
        rw [if_pos (by omega), w01]
        rw [hd] at hk
        have htk : tk ts0 ⟨true, 0, b⟩ = some ⟨[], some ⟨1, 0, 0⟩, [] ++ [b], [], wrap64 (0 + 1)⟩ := by
          unfold tk
          rw [if_pos rfl]
          exact if_pos rfl
        rw [htk, Option.bind_some, w01]
        exact hk
      · obtain ⟨k, hk⟩ := of_j4 L (l.length + 1) (fun j' _ => l1all j') 0 [] [] [] 0 0 0 (by omega) ⟨hL, by simp, by simp, by simp, by omega, by omega, by omega, by omega⟩ (fun _ => by rw [show ((0 : Nat) : Int) = 0 from rfl, h0]; exact ⟨rfl, fun _ => hp⟩) ((tk ts0 ⟨true, p, b⟩).bind (tks l)) (fun h => by omega) (fun _ => by
          rw [show ((0 : Nat) : Int) = 0 from rfl, h0]
          have htk : tk ts0 ⟨true, p, b⟩ = if may ⟨0, 0, wrap64 (p - 0)⟩ = true then some ⟨[] ++ [⟨0, 0, wrap64 (p - 0)⟩], some ⟨1, 0, 0⟩, [] ++ [b], [], wrap64 (p + 1)⟩ else none := by
            unfold tk
            rw [if_pos rfl]
            exact if_neg hp
          rw [htk]
          simp only
          by_cases hm : may ⟨0, 0, wrap64 (p - 0)⟩ = true
          · rw [if_pos hm, if_pos hm, Option.bind_some, Nat.zero_add, hd]
          · rw [if_neg hm, if_neg hm, Option.bind_none])
        refine ⟨k + 4, ?_⟩
        rw [sapperref16_Of.f, sapperref16_Of.l0, if_pos (by omega), sapperref16_Of.l1, if_pos (by omega), if_pos (by omega), h0]
        simp only [if_true]
        rw [if_neg hp, sapperref16_Of.j2, sapperref16_Of.l2, if_pos (by omega), if_pos (by omega), h0]
        simp only [if_true]
        exact hk
    · obtain rfl : f0 = false := by cases f0 <;> simp_all
      obtain ⟨k, hk⟩ := of_l2 L l.length (fun j' _ => l1all j') 1 [] [] [b] 0 1 0 (by omega) ⟨hL, by simp, by simp, by simp, by omega, by omega, by omega, by omega⟩ (.inr (by omega)) (fun h => by omega)
      refine ⟨k + 4, ?_⟩
      rw [sapperref16_Of.f, sapperref16_Of.l0, if_pos (by omega), sapperref16_Of.l1, if_pos (by omega), if_pos (by omega), h0]
      simp only
      rw [if_neg (by simp), sapperref16_Of.j2, sapperref16_Of.l2, if_pos (by omega), if_pos (by omega), h0]
      simp only
      rw [if_neg (by simp)]
      simp only [List.length_nil, List.nil_append]
      rw [if_pos (by omega), w01]
      rw [hd] at hk
      have := at_rounds (g := fun k => sapperref16_Of.l2 k L 0 ((1 : Nat) : Int) [] [] [b] 0 1 0) (fun k => (sapperref16_Of.mono_l k).2.2.2.1 _ _ _ _ _ _ _ _ _) (show k ≤ k + 1 by omega) hk
      exact hk
end Go.Proofs.Ytemlbjpefomboaa
