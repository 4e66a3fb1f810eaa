/- cutter: plain: what is written is read, and only that (num's Pl); what stands behind. -/
import Derived.Test.YtinlfoblpgpikaaN7
import Derived.Test.YtinlfoblpgpikaaN5
namespace Go.Proofs.Ytinlfoblpgpikaa
set_option linter.unusedVariables false

theorem gb_app_right (ys zs : List Int) (x : Int) (i : Nat) (h : ys.length = i) : gb (ys ++ x :: zs) i = x := by
  subst h
  simp [gb, List.getD_eq_getElem?_getD]
theorem val_pos_len (ys : List Int) (z : Int) (i : Nat) (h : ys.length = i) : val (ys ++ [z]) = val ys + 128 ^ i * (z % 128) := by
  rw [val_append, h]

/-- What stands behind i bytes that go on. -/
theorem rdA_enc (rest : List Int) : ∀ (k i : Nat) (ys : List Int) (z : Int), ys.length = i → i + k = 9 → 0 ≤ z → z < 2 * 128 ^ k → (0 < i → 0 < z) →
    rdA (ys ++ (encN k z ++ rest)) (encN k z ++ rest).length i = (val ys + 128 ^ i * z, (i : Int) + (encN k z).length, 0) := by
  intro k
  induction k with
  | zero =>
    intro i ys z hl hi h0 h1 hp
    have hz : z < 2 := by simpa using h1
    have e : encN 0 z = [z] := by
      simp only [encN]
      congr 1
      omega
    rw [e]
    have hg := gb_app_right ys rest z i hl
    have hw : wrongB ((i + 1 : Nat) : Int) z = 0 := wrong_c (by omega) (by omega)
    simp only [List.cons_append, List.nil_append, List.length_cons]
    rw [rdA, hg, hw, if_neg (by simp), if_pos (by omega)]
    have ht : (ys ++ z :: rest).take (i + 1) = ys ++ [z] := by
      rw [show ys ++ z :: rest = (ys ++ [z]) ++ rest by simp]
      exact List.take_left' (by simp [hl])
    rw [ht, val_pos_len ys z i hl, Int.emod_eq_of_lt h0 (by omega)]
    rfl
  | succ k ih =>
    intro i ys z hl hi h0 h1 hp
    by_cases hz : 127 < z
    · have e : encN (k + 1) z = (z % 128 + 128) :: encN k (z / 128) := by rw [encN, if_pos hz]
      rw [e]
      have hg := gb_app_right ys (encN k (z / 128) ++ rest) (z % 128 + 128) i hl
      have hw : wrongB ((i + 1 : Nat) : Int) (z % 128 + 128) = 0 := wrong_c (by omega) (by omega)
      simp only [List.cons_append, List.length_cons]
      rw [rdA, hg, hw, if_neg (by simp), if_neg (by omega)]
      have := ih (i + 1) (ys ++ [z % 128 + 128]) (z / 128) (by simp [hl]) (by omega) (by omega) (by rw [Int.pow_succ] at h1; omega) (by omega)
      rw [List.append_assoc, List.cons_append, List.nil_append] at this
      rw [this, val_pos_len ys _ i hl]
      refine Prod.ext ?_ (Prod.ext ?_ rfl)
      · show val ys + 128 ^ i * ((z % 128 + 128) % 128) + 128 ^ (i + 1) * (z / 128) = val ys + 128 ^ i * z
        rw [show (z % 128 + 128) % 128 = z % 128 by omega, Int.pow_succ, Int.mul_assoc, Int.add_assoc, ← Int.mul_add]
        congr 2
        omega
      · show ((i + 1 : Nat) : Int) + ((encN k (z / 128)).length : Int) = (i : Int) + ((encN k (z / 128)).length + 1 : Nat)
        omega
    · have e : encN (k + 1) z = [z] := by rw [encN, if_neg hz]
      rw [e]
      have hg := gb_app_right ys rest z i hl
      have hw : wrongB ((i + 1 : Nat) : Int) z = 0 := wrong_c (by omega) (by omega)
      simp only [List.cons_append, List.nil_append, List.length_cons]
      rw [rdA, hg, hw, if_neg (by simp), if_pos (by omega)]
      have ht : (ys ++ z :: rest).take (i + 1) = ys ++ [z] := by
        rw [show ys ++ z :: rest = (ys ++ [z]) ++ rest by simp]
        exact List.take_left' (by simp [hl])
      rw [ht, val_pos_len ys z i hl, Int.emod_eq_of_lt h0 (by omega)]
      rfl
/-- What was written is read, whatever stands behind. -/
theorem rdN_enc (v : Int) (rest : List Int) (h0 : 0 ≤ v) (h1 : v ≤ 18446744073709551615) : rdN (bytesN v ++ rest) = (v, ((bytesN v).length : Int), 0) := by
  have := rdA_enc rest 9 0 [] v rfl rfl h0 (by have e : (128 : Int) ^ 9 = 9223372036854775808 := by decide
                                               omega) (by omega)
  rw [List.nil_append] at this
  rw [rdN, bytesN, this]
  simp [val]

/-- A number's bytes. -/
def Form : List Int → Prop
  | [] => False
  | [a] => 0 ≤ a ∧ a ≤ 127
  | a :: b :: l => 128 ≤ a ∧ a ≤ 255 ∧ Form (b :: l) ∧ 0 < val (b :: l)
theorem enc_form : ∀ (l : List Int) (k : Nat), Form l → l.length ≤ k + 1 → encN k (val l) = l
  | [], k, h, _ => h.elim
  | [a], k, h, _ => by
    simp only [Form] at h
    have e : val [a] = a := by simp only [val]; omega
    rw [e]
    rcases k with _ | k
    · simp only [encN]; congr 1; omega
    · rw [encN, if_neg (by omega)]
  | a :: b :: l, k, h, hl => by
    obtain ⟨h1, h2, h3, h4⟩ := h
    simp only [List.length_cons] at hl
    obtain ⟨k, rfl⟩ : ∃ j, k = j + 1 := ⟨k - 1, by omega⟩
    have ih := enc_form (b :: l) k h3 (by simp only [List.length_cons]; omega)
    have e : val (a :: b :: l) = a % 128 + 128 * val (b :: l) := rfl
    rw [e, encN, if_pos (by omega), show (a % 128 + 128 * val (b :: l)) / 128 = val (b :: l) by omega, ih]
    congr 1
    omega

theorem rdA_ok : ∀ (xs : List Int) (k i : Nat) (w n e : Int), i + k = xs.length → rdA xs k i = (w, n, e) →
    (e ≠ 0 ∧ w = 0 ∧ n = 0) ∨ (e = 0 ∧ ∃ j, i ≤ j ∧ j < xs.length ∧ n = (j : Int) + 1 ∧ w = val (xs.take (j + 1)) ∧ (∀ t, i ≤ t → t < j → 128 ≤ gb xs t ∧ wrongB ((t + 1 : Nat) : Int) (gb xs t) = 0) ∧ gb xs j < 128 ∧ wrongB ((j + 1 : Nat) : Int) (gb xs j) = 0)
  | xs, 0, i, w, n, e, hk, h => by
    simp only [rdA, Prod.mk.injEq] at h
    obtain ⟨rfl, rfl, rfl⟩ := h
    exact .inl ⟨by decide, rfl, rfl⟩
  | xs, k + 1, i, w, n, e, hk, h => by
    rw [rdA] at h
    by_cases hw : wrongB ((i + 1 : Nat) : Int) (gb xs i) = 0
    · rw [if_neg (by simpa using hw)] at h
      by_cases hx : gb xs i < 128
      · rw [if_pos hx] at h
        simp only [Prod.mk.injEq] at h
        obtain ⟨rfl, rfl, rfl⟩ := h
        exact .inr ⟨rfl, i, Nat.le_refl _, by omega, rfl, rfl, fun t h1 h2 => by omega, hx, hw⟩
      · rw [if_neg hx] at h
        rcases rdA_ok xs k (i + 1) w n e (by omega) h with h | ⟨h1, j, h2, h3, h4, h5, h6, h7⟩
        · exact .inl h
        · refine .inr ⟨h1, j, by omega, h3, h4, h5, fun t ht1 ht2 => ?_, h7⟩
          by_cases e : t = i
          · subst e; exact ⟨by omega, hw⟩
          · exact h6 t (by omega) ht2
    · rw [if_pos hw] at h
      simp only [Prod.mk.injEq] at h
      obtain ⟨rfl, rfl, rfl⟩ := h
      exact .inl ⟨hw, rfl, rfl⟩
theorem form_drop (xs : List Int) (hr : ∀ x ∈ xs, 0 ≤ x ∧ x ≤ 255) (j : Nat) (hj : j < xs.length) (h1 : ∀ t, t < j → 128 ≤ gb xs t) (h2 : gb xs j < 128) (h3 : wrongB ((j + 1 : Nat) : Int) (gb xs j) = 0) :
    ∀ d, d ≤ j → Form ((xs.take (j + 1)).drop (j - d)) ∧ (0 < j → 0 < val ((xs.take (j + 1)).drop (j - d))) := by
  have hb := fun t => gb_range hr t
  have hdrop : ∀ t, t ≤ j → (xs.take (j + 1)).drop t = gb xs t :: (xs.take (j + 1)).drop (t + 1) := by
    intro t ht
    rw [List.drop_eq_getElem_cons (by rw [List.length_take]; omega)]
    congr 1
    simp [gb, List.getD_eq_getElem?_getD, show t < xs.length by omega]
  have hend : (xs.take (j + 1)).drop (j + 1) = [] := List.drop_eq_nil_of_le (by rw [List.length_take]; omega)
  intro d
  induction d with
  | zero =>
    intro _
    rw [Nat.sub_zero, hdrop j (Nat.le_refl _), hend]
    have := hb j
    refine ⟨⟨this.1, by omega⟩, fun h0 => ?_⟩
    have hne : gb xs j ≠ 0 := fun e => by
      unfold wrongB at h3
      rw [if_neg (by omega), if_pos (by omega)] at h3
      cases h3
    simp only [val]
    omega
  | succ d ih =>
    intro hd
    obtain ⟨ih1, ih2⟩ := ih (by omega)
    have hlt := h1 (j - (d + 1)) (by omega)
    have hbt := hb (j - (d + 1))
    have e := hdrop (j - (d + 1)) (by omega)
    rw [show j - (d + 1) + 1 = j - d by omega] at e
    have hv := ih2 (by omega)
    rw [e]
    rw [hdrop (j - d) (by omega)] at ih1 hv ⊢
    refine ⟨⟨hlt, hbt.2, ih1, hv⟩, fun _ => ?_⟩
    have : val (gb xs (j - (d + 1)) :: gb xs (j - d) :: (xs.take (j + 1)).drop (j - d + 1)) = gb xs (j - (d + 1)) % 128 + 128 * val (gb xs (j - d) :: (xs.take (j + 1)).drop (j - d + 1)) := rfl
    omega
/-- What is read was written so. -/
theorem rdN_ok {xs : List Int} {w n e : Int} (hr : ∀ x ∈ xs, 0 ≤ x ∧ x ≤ 255) (h : rdN xs = (w, n, e)) :
    (e ≠ 0 ∧ w = 0 ∧ n = 0) ∨ (e = 0 ∧ ∃ j : Nat, n = (j : Int) + 1 ∧ j < xs.length ∧ j ≤ 9 ∧ 0 ≤ w ∧ w ≤ 18446744073709551615 ∧ bytesN w = xs.take (j + 1)) := by
  rcases rdA_ok xs xs.length 0 w n e (by omega) h with h | ⟨h1, j, _, h3, h4, h5, h6, h7, h8⟩
  · exact .inl h
  · have h9 : j ≤ 9 := by
      rcases Nat.lt_or_ge 9 j with hgt | hle
      · have h128 := h6 9 (by omega) hgt
        have h10 := wrong_a (n := 10) (x := gb xs 9) rfl (by omega)
        have := h128.2
        rw [show ((9 + 1 : Nat) : Int) = ((10 : Nat) : Int) from rfl, h10] at this
        cases this
      · exact hle
    have hf := (form_drop xs hr j h3 (fun t ht => (h6 t (by omega) ht).1) h7 h8 j (Nat.le_refl _)).1
    rw [Nat.sub_self, List.drop_zero] at hf
    subst h5
    refine .inr ⟨h1, j, h4, h3, h9, val_nonneg _, val_fits xs j h3 h9 h8 (gb_range hr j).1, enc_form _ 9 hf (by rw [List.length_take]; omega)⟩
/-- No form begins another one. -/
theorem enc_prefix {u v : Int} (hu0 : 0 ≤ u) (hu1 : u ≤ 18446744073709551615) (hv0 : 0 ≤ v) (hv1 : v ≤ 18446744073709551615) (h : bytesN u = (bytesN v).take (bytesN u).length) : u = v := by
  have h1 := rdN_enc u ((bytesN v).drop (bytesN u).length) hu0 hu1
  have h2 := rdN_enc v [] hv0 hv1
  rw [List.append_nil] at h2
  have e : bytesN u ++ (bytesN v).drop (bytesN u).length = bytesN v := by
    conv => lhs; arg 1; rw [h]
    exact List.take_append_drop _ _
  rw [e, h2] at h1
  exact (Prod.mk.inj h1).1.symm
open Go.RowKit Go.Shelf Go.Proofs.YtinlfoblpgpikaaW.PrintWords Go.Proofs.YtinlfoblpgpikaaW.PrintLast Go.Proofs.YtinlfoblpgpikaaW.PrintMore
theorem Bs.suf {w : World} {A : Option Addr} {n c m : Nat} {xs : List Int} (h : Bs w A n c xs) (hm : m ≤ n) : Bs w (A.map (·.add m)) (n - m) (c - m) (xs.drop m) := by
  refine ⟨Kd.C_of_reads (enc := Value.int .u8) (d := (0 : Int)) (h1 := fun _ => rfl) ⟨by rw [List.length_drop, h.len], by have := Kd.C_max h.C; omega, fun hn => ?_⟩, by have := h.hc; omega, fun x hx => h.hr x (List.mem_of_mem_drop hx)⟩
  obtain ⟨ad, e, _⟩ := at_byte h.C 0 (by omega)
  subst e
  refine ⟨_, rfl, fun j hj => ?_⟩
  obtain ⟨ad', e', hc'⟩ := at_byte h.C (m + j) (by omega)
  cases e'
  show w.cell? ((ad.add m).add j) = _
  rw [add_add, hc']
  simp [gb, List.getD_eq_getElem?_getD]
end Go.Proofs.Ytinlfoblpgpikaa
