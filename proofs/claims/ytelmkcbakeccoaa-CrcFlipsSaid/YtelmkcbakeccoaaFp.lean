/- crc: the order of x; one and two turned bits. -/
import Derived.Test.YtelmkcbakeccoaaPl
namespace Go.Proofs.Ytelmkcbakeccoaa
set_option linter.unusedVariables false
set_option linter.unusedSimpArgs false
def valB : List Bool → Nat → Nat
  | [], k => k
  | b :: l, k => valB l (2 * k + b.toNat)
def calcB : List Bool → R → R
  | [], v => v
  | b :: l, v => calcB l (bif b then S (mul v v) else mul v v)
theorem X_calc : ∀ (l : List Bool) (k : Nat) (v : R), X k = v → X (valB l k) = calcB l v
  | [], k, v, h => h
  | b :: l, k, v, h => by
    refine X_calc l _ _ ?_
    cases b
    · show X (2 * k + 0) = mul v v
      rw [Nat.add_zero, Nat.two_mul, ← X_add, h]
    · show X (2 * k + 1) = S (mul v v)
      rw [X, Sn_succ, ← X, Nat.two_mul, ← X_add, h]
/-- the bits of n below 2^k, the highest first -/
def bitsB : Nat → Nat → List Bool
  | 0, _ => []
  | k + 1, n => (n / 2 ^ k % 2 == 1) :: bitsB k n
theorem X_of (n : Nat) (h : valB (bitsB 32 n) 0 = n) (v : R) (hv : calcB (bitsB 32 n) e0 = v) : X n = v := by
  have := X_calc (bitsB 32 n) 0 e0 rfl
  rw [h, hv] at this
  exact this
theorem X_full : X 4294967295 = e0 := X_of _ (by decide) _ (by decide +kernel)
theorem X_q3 : X 1431655765 ≠ e0 := by rw [X_of _ (by decide) _ rfl]; decide +kernel
theorem X_q5 : X 858993459 ≠ e0 := by rw [X_of _ (by decide) _ rfl]; decide +kernel
theorem X_q17 : X 252645135 ≠ e0 := by rw [X_of _ (by decide) _ rfl]; decide +kernel
theorem X_q257 : X 16711935 ≠ e0 := by rw [X_of _ (by decide) _ rfl]; decide +kernel
theorem X_q65537 : X 65535 ≠ e0 := by rw [X_of _ (by decide) _ rfl]; decide +kernel
theorem X_mulN {k : Nat} (h : X k = e0) : ∀ m, X (k * m) = e0
  | 0 => rfl
  | m + 1 => by rw [Nat.mul_succ, ← X_add, X_mulN h m, h, one_mul']
theorem X_sub {a b : Nat} (hab : a ≤ b) (h : X a = X b) : X (b - a) = e0 := by
  have : X b = Sn a (X (b - a)) := by rw [X, X, ← Sn_add]; congr 1; omega
  rw [this] at h
  exact (Sn_inj a h).symm
theorem X_gcd {a b : Nat} (ha : X a = e0) (hb : X b = e0) : X (Nat.gcd a b) = e0 := by
  induction a, b using Nat.gcd.induction with
  | H0 n => rwa [Nat.gcd_zero_left]
  | H1 m n hm ih =>
    rw [Nat.gcd_rec]
    refine ih ?_ ha
    have e := Nat.div_add_mod n m
    have h1 : X (m * (n / m)) = X n := by rw [X_mulN ha, hb]
    have h2 := X_sub (by omega) h1
    rwa [show n - m * (n / m) = n % m by omega] at h2
theorem prime_of (p s : Nat) (hp : 0 < p) (hs : p < s * s) (h : ∀ k, k < s → 1 < k → p % k ≠ 0) : ∀ k, k ∣ p → k = 1 ∨ k = p := by
  intro k hk
  obtain ⟨m, hm⟩ := hk
  have hk0 : 0 < k := by
    rcases Nat.eq_zero_or_pos k with rfl | h0
    · simp at hm; omega
    · exact h0
  have hm0 : 0 < m := by
    rcases Nat.eq_zero_or_pos m with rfl | h0
    · simp at hm; omega
    · exact h0
  by_cases h1 : k < s
  · by_cases h2 : 1 < k
    · exact absurd (by rw [hm, Nat.mul_mod_right]) (h k h1 h2)
    · left; omega
  · have hms : m < s := by
      rcases Nat.lt_or_ge m s with h3 | h3
      · exact h3
      · have := Nat.mul_le_mul (show s ≤ k by omega) h3
        omega
    by_cases h2 : 1 < m
    · exact absurd (by rw [hm, Nat.mul_mod_left]) (h m hms h2)
    · obtain rfl : m = 1 := by omega
      right; omega
theorem order_step {g p q : Nat} (hg : X g = e0) (hp : ∀ k, k ∣ p → k = 1 ∨ k = p) (hd : g ∣ p * q) (hq : X q ≠ e0) : p ∣ g := by
  rcases hp (Nat.gcd g p) (Nat.gcd_dvd_right g p) with h | h
  · exfalso
    have hc : Nat.Coprime g p := h
    obtain ⟨m, hm⟩ := hc.dvd_of_dvd_mul_left hd
    exact hq (by rw [hm]; exact X_mulN hg m)
  · exact h ▸ Nat.gcd_dvd_left g p
theorem X_order {d : Nat} (h0 : 0 < d) (h1 : d < 4294967295) : X d ≠ e0 := by
  intro h
  have hg := X_gcd h X_full
  have hgN := Nat.gcd_dvd_right d 4294967295
  have hgd := Nat.le_of_dvd h0 (Nat.gcd_dvd_left d 4294967295)
  have hg0 : 0 < Nat.gcd d 4294967295 := Nat.gcd_pos_of_pos_left _ h0
  obtain ⟨g, eg⟩ : ∃ g, Nat.gcd d 4294967295 = g := ⟨_, rfl⟩
  rw [eg] at hg hgN hgd hg0
  have d3 := order_step hg (prime_of 3 2 (by decide) (by decide) (by decide)) (q := 1431655765) (Nat.dvd_trans hgN ⟨1, by decide⟩) X_q3
  have d5 := order_step hg (prime_of 5 3 (by decide) (by decide) (by decide)) (q := 858993459) (Nat.dvd_trans hgN ⟨1, by decide⟩) X_q5
  have d17 := order_step hg (prime_of 17 5 (by decide) (by decide) (by decide)) (q := 252645135) (Nat.dvd_trans hgN ⟨1, by decide⟩) X_q17
  have d257 := order_step hg (prime_of 257 17 (by decide) (by decide) (by decide)) (q := 16711935) (Nat.dvd_trans hgN ⟨1, by decide⟩) X_q257
  have d65537 := order_step hg (prime_of 65537 257 (by decide) (by decide) (by decide +kernel)) (q := 65535) (Nat.dvd_trans hgN ⟨1, by decide⟩) X_q65537
  have e1 : 3 * 5 ∣ g := Nat.Coprime.mul_dvd_of_dvd_of_dvd (by decide) d3 d5
  have e2 : 3 * 5 * 17 ∣ g := Nat.Coprime.mul_dvd_of_dvd_of_dvd (by decide) e1 d17
  have e3 : 3 * 5 * 17 * 257 ∣ g := Nat.Coprime.mul_dvd_of_dvd_of_dvd (by decide) e2 d257
  have e4 : 3 * 5 * 17 * 257 * 65537 ∣ g := Nat.Coprime.mul_dvd_of_dvd_of_dvd (by decide) e3 d65537
  have e5 := Nat.le_of_dvd hg0 e4
  clear e1 e2 e3 e4 d3 d5 d17 d257 d65537 hg eg hgN h
  have e6 : 3 * 5 * 17 * 257 * 65537 = 4294967295 := by decide
  rw [e6] at e5
  omega
theorem X_inj {a b : Nat} (hab : a < b) (hd : b - a < 4294967295) : X a ≠ X b := fun h => X_order (by omega) hd (X_sub (by omega) h)
theorem X_ne0 (k : Nat) : X k ≠ 0#32 := fun h => absurd (Sn_inj k (h.trans (Sn_zero k).symm)) (by decide)
end Go.Proofs.Ytelmkcbakeccoaa
