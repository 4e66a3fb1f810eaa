/- cutter: steps and their bytes, plainly: there and back. -/
import Derived.Test.YtinlfoblpgpikaaWx
namespace Go.Proofs.Ytinlfoblpgpikaa
open Go.RowKit Go.Shelf Go.Proofs.YtinlfoblpgpikaaW.PrintWords Go.Proofs.YtinlfoblpgpikaaW.PrintLast Go.Proofs.YtinlfoblpgpikaaW.PrintMore Go.Proofs.Ytinlfoblpgpikaa.Pr
set_option linter.unusedVariables false
set_option linter.unusedSimpArgs false
theorem unc_no : ∀ (k : Nat) (b : List Int) (l : List S82), (unc k b l).2 ≠ 0 → (unc k b l).1 = []
  | 0, b, l, h => absurd rfl h
  | k + 1, b, l, h => by
    unfold unc at h ⊢
    split
    · rw [if_pos (by assumption)] at h
      exact absurd rfl h
    · rw [if_neg (by assumption)] at h
      split
      · rfl
      · rw [if_neg (by assumption)] at h
        exact unc_no k _ _ h
theorem lim_le (k : Nat) : lim k ≤ 33554432 := by unfold lim; split <;> omega
theorem un3_one {k : Nat} {b vs vs' rest : List Int} (hr : ∀ x ∈ b, 0 ≤ x ∧ x ≤ 255) (h : un3 (k + 1) b vs = (0, vs', rest)) :
    ∃ x b', b = bytesN x ++ b' ∧ 0 ≤ x ∧ x ≤ lim k ∧ un3 k b' (vs ++ [x]) = (0, vs', rest) := by
  by_cases he : (rdN b).2.2 = 0
  · by_cases hl : lim k < (rdN b).1
    · rw [un3_big he hl] at h
      cases h
    · rw [un3_go he hl] at h
      obtain ⟨j, h1, h2, h3, h4, h5⟩ := rd_err hr he
      rw [h1, show ((j : Int) + 1).toNat = j + 1 by omega] at h
      exact ⟨_, _, by rw [h5, List.take_append_drop], h3, by omega, h⟩
  · rw [un3_err he] at h
    exact absurd (Prod.mk.inj h).1 he
theorem range_of {b xs ys : List Int} (hr : ∀ x ∈ b, 0 ≤ x ∧ x ≤ 255) (h : b = xs ++ ys) : ∀ x ∈ ys, 0 ≤ x ∧ x ≤ 255 := fun x hx => hr x (by rw [h]; exact List.mem_append_right _ hx)
theorem un3_back {b vs rest : List Int} (hr : ∀ x ∈ b, 0 ≤ x ∧ x ≤ 255) (h : un3 3 b [] = (0, vs, rest)) :
    mayC (mkS vs) = true ∧ b = ctlS (mkS vs) ++ rest ∧ ∀ x ∈ rest, 0 ≤ x ∧ x ≤ 255 := by
  obtain ⟨x0, b1, e1, a0, l0, h1⟩ := un3_one hr h
  have r1 := range_of hr e1
  obtain ⟨x1, b2, e2, a1, l1, h2⟩ := un3_one r1 h1
  have r2 := range_of r1 e2
  obtain ⟨x2, b3, e3, a2, l2, h3⟩ := un3_one r2 h2
  have r3 := range_of r2 e3
  have h3 : ((0 : Int), [] ++ [x0] ++ [x1] ++ [x2], b3) = (0, vs, rest) := h3
  obtain ⟨_, h3⟩ := Prod.mk.inj h3
  obtain ⟨rfl, rfl⟩ := Prod.mk.inj h3
  simp only [lim] at l0 l1 l2
  have hm : mkS ([] ++ [x0] ++ [x1] ++ [x2]) = ⟨x0, x1, zag x2⟩ := rfl
  rw [hm]
  refine ⟨(mayC_iff _).2 ?_, ?_, r3⟩
  · simp only
    have : -16777216 ≤ zag x2 ∧ zag x2 ≤ 16777216 := by
      simp at l2
      unfold zag
      split <;> omega
    simp at l0 l1
    omega
  · rw [ctlS, bytesL3]
    simp only
    rw [zig_zag x2 a2, e1, e2, e3]
    simp only [List.append_assoc]
theorem ctlS_pos (s : S82) : 0 < (ctlS s).length := by
  have := (encN_len 9 s.f0).1
  rw [ctlS, bytesL3]
  simp only [List.length_append, bytesN]
  omega
theorem unc_back : ∀ (k : Nat) (b : List Int) (acc us : List S82), (∀ x ∈ b, 0 ≤ x ∧ x ≤ 255) → b.length < k → unc k b acc = (us, 0) → ∃ l, us = acc ++ l ∧ l.all mayC = true ∧ ctlL l = b
  | 0, b, acc, us, _, h, _ => absurd h (Nat.not_lt_zero _)
  | k + 1, b, acc, us, hr, hk, h => by
    rcases Nat.eq_zero_or_pos b.length with h0 | h0
    · have hb := List.eq_nil_of_length_eq_zero h0
      subst hb
      rw [unc_nil] at h
      obtain ⟨rfl, _⟩ := Prod.mk.inj h
      exact ⟨[], by simp, rfl, rfl⟩
    · obtain ⟨e, vs, rest, h3⟩ : ∃ e vs rest, un3 3 b [] = (e, vs, rest) := ⟨_, _, _, rfl⟩
      by_cases he : e = 0
      · subst he
        rw [unc_go h0 (by rw [h3]), h3] at h
        obtain ⟨hm, hb, hr3⟩ := un3_back hr h3
        have hp := ctlS_pos (mkS vs)
        have hl : rest.length < b.length := by rw [hb, List.length_append]; omega
        obtain ⟨l, e1, e2, e3⟩ := unc_back k rest (acc ++ [mkS vs]) us hr3 (by omega) h
        refine ⟨mkS vs :: l, by rw [e1]; simp, by rw [List.all_cons, hm, e2]; rfl, ?_⟩
        rw [hb, ← e3]
        rfl
      · rw [unc_err h0 (by rw [h3]; exact he), h3] at h
        exact absurd (Prod.mk.inj h).2 he
theorem uncR_back {b : List Int} {us : List S82} (hr : ∀ x ∈ b, 0 ≤ x ∧ x ≤ 255) (h : uncR b = (us, 0)) : ctlR us = (b, 0) := by
  obtain ⟨l, e1, e2, e3⟩ := unc_back _ b [] us hr (Nat.lt_succ_self _) h
  rw [List.nil_append] at e1
  subst e1
  rw [ctlR, if_pos e2, e3]
theorem un3_enc {k : Nat} {v : Int} (rest vs : List Int) (h0 : 0 ≤ v) (h1 : v ≤ lim k) : un3 (k + 1) (bytesN v ++ rest) vs = un3 k rest (vs ++ [v]) := by
  have hl := lim_le k
  have hr := rdN_enc v rest h0 (by omega)
  rw [un3_go (by rw [hr]) (by rw [hr]; simp only; omega), hr]
  simp only [Int.toNat_natCast]
  rw [List.drop_left]
theorem un3_ctl {s : S82} (rest : List Int) (hm : mayC s = true) : un3 3 (ctlS s ++ rest) [] = (0, [s.f0, s.f1, zig s.f2], rest) := by
  have h := (mayC_iff s).1 hm
  have hz := zig_le h.2.2.2.2.1 h.2.2.2.2.2
  rw [ctlS, bytesL3, List.append_assoc, List.append_assoc, un3_enc _ _ h.1 (by simp [lim]; omega), un3_enc _ _ h.2.2.1 (by simp [lim]; omega), un3_enc _ _ hz.1 (by simp [lim]; omega)]
  rfl
theorem mkS_of (s : S82) : mkS [s.f0, s.f1, zig s.f2] = s := by
  show (⟨s.f0, s.f1, zag (zig s.f2)⟩ : S82) = s
  rw [zag_zig]
theorem unc_forth : ∀ (l : List S82) (k : Nat) (acc : List S82), l.all mayC = true → l.length < k → unc k (ctlL l) acc = (acc ++ l, 0)
  | [], k, acc, _, _ => by
    rw [show ctlL [] = [] from rfl, unc_nil, List.append_nil]
  | s :: l, k, acc, h, hk => by
    rw [List.all_cons, Bool.and_eq_true] at h
    obtain ⟨k, rfl⟩ : ∃ j, k = j + 1 := ⟨k - 1, by simp at hk; omega⟩
    have e : ctlL (s :: l) = ctlS s ++ ctlL l := rfl
    have hp := ctlS_pos s
    have h3 := un3_ctl (ctlL l) h.1
    rw [e, unc_go (by rw [List.length_append]; omega) (by rw [h3]), h3]
    simp only
    rw [mkS_of, unc_forth l k _ h.2 (by simpa using hk)]
    simp
theorem ctlL_ge : ∀ l : List S82, l.length ≤ (ctlL l).length
  | [] => Nat.le_refl _
  | s :: l => by
    have e : ctlL (s :: l) = ctlS s ++ ctlL l := rfl
    have := ctlL_ge l
    have := ctlS_pos s
    rw [e, List.length_append, List.length_cons]
    omega
theorem uncR_forth {l : List S82} (h : l.all mayC = true) : uncR (ctlL l) = (l, 0) := by
  have := unc_forth l ((ctlL l).length + 1) [] h (by have := ctlL_ge l; omega)
  rwa [List.nil_append] at this
theorem ctlS_six {s : S82} (hm : mayC s = true) (h : 1 ≤ s.f0 + s.f1) : ((ctlS s).length : Int) ≤ 6 * (s.f0 + s.f1) := by
  have hh := (mayC_iff s).1 hm
  have hz := zig_le hh.2.2.2.2.1 hh.2.2.2.2.2
  have h10 := ctlS_len hm
  by_cases h1 : s.f0 + s.f1 = 1
  · have a0 := bytesN_len 0 (x := s.f0) (by simp; omega)
    have a1 := bytesN_len 0 (x := s.f1) (by simp; omega)
    have a2 := bytesN_len 3 (x := zig s.f2) (by simp; omega)
    rw [ctlS, bytesL3]
    simp only [List.length_append]
    omega
  · omega
theorem wk_may (old size : Int) (hsz : size ≤ 65536) : ∀ (l : List S82) (a c p a' c' : Int), wk old size l a c p = some (a', c') → l.all mayC = true ∧ ((ctlL l).length : Int) ≤ 6 * (a' - a + (c' - c))
  | [], a, c, p, a', c', h => by
    simp only [wk, Option.some.injEq, Prod.mk.injEq] at h
    obtain ⟨rfl, rfl⟩ := h
    exact ⟨rfl, by simp [ctlL]⟩
  | s :: l, a, c, p, a', c', h => by
    rw [wk] at h
    split at h
    · cases h
    · split at h
      · cases h
      · split at h
        · cases h
        · rename_i q1 q2 q3
          obtain ⟨i1, i2⟩ := wk_may old size hsz l _ _ _ a' c' h
          have hm : mayC s = true := (mayC_iff s).2 (by omega)
          have h6 := ctlS_six hm (by omega)
          refine ⟨by rw [List.all_cons, hm, i1]; rfl, ?_⟩
          have e : ctlL (s :: l) = ctlS s ++ ctlL l := rfl
          rw [e, List.length_append]
          omega
theorem pchk_ok {pos : Int} {st : List S82} {d x : List Int} {old size : Int} (h : pchk pos st d x old size = 0) : st ≠ [] ∧ st.all mayC = true ∧ ((ctlL st).length : Int) ≤ 6 * size := by
  unfold pchk at h
  split at h
  · cases h
  · rename_i q1
    split at h
    · cases h
    · rename_i a c hw
      split at h
      · cases h
      · rename_i q2
        split at h
        · cases h
        · rename_i q3
          obtain ⟨h1, h2⟩ := wk_may old size (by omega) st 0 0 pos a c hw
          exact ⟨fun e => q2 (.inl e), h1, by omega⟩
end Go.Proofs.Ytinlfoblpgpikaa
