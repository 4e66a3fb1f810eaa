/- crc: Step; the products and powers of both. -/
import Derived.Test.YtelmkcbakeccoaaWd
namespace Go.Proofs.Ytelmkcbakeccoaa
open Go.RowKit Go.Proofs.YtelmkcbakeccoaaW.PrintWords Go.Proofs.YtelmkcbakeccoaaW.PrintLast Go.Proofs.YtelmkcbakeccoaaW.PrintMore
set_option linter.unusedVariables false
set_option linter.unusedSimpArgs false

def bv (b : Bool) : R := if b then 1#32 else 0#32
theorem S_bit (r : R) (b : Bool) : S (r ^^^ bv b) = (r >>> 1) ^^^ (if r.getLsbD 0 ^^ b then G else 0#32) := by
  have hS : S (bv b) = if b then G else 0#32 := by cases b <;> decide
  rw [S_xor, hS]
  unfold S
  cases b <;> cases r.getLsbD 0 <;> simp [BitVec.xor_assoc]
set_option maxHeartbeats 400000 in
theorem step_calls (r : R) (b : Bool) (w : World) :
    Calls Try.prog 43 #[.int .u32 (W r), .int .u32 (W (bv b))] w fun e w' => e = .returned (.int .u32 (W (S (r ^^^ bv b)))) ∧ w' = w := by
  have hb : bits .and .u32 (bits .xor .u32 (W r) (W (bv b))) 1 = if r.getLsbD 0 ^^ b then 1 else 0 := by
    rw [W_xor, show (1 : Int) = W 1#32 by decide, W_and, W_low, BitVec.getLsbD_xor]
    cases b <;> rfl
  obtain ⟨x, hx⟩ : ∃ x, W (bv b) = x := ⟨_, rfl⟩
  rw [hx] at hb ⊢
  have HS := Hd.mk (S_bit r b)
  clear hx
  cases hc : (r.getLsbD 0 ^^ b)
  · have ht : (bits .and .u32 (bits .xor .u32 (W r) x) 1 == 1) = false := by rw [hb, hc]; rfl
    have HC := Hd.mk hc
    clear hb hc
    go_enter Try.func43, Try.ntmps43
    go_wp2
    go_ret
    refine ⟨?_, rfl⟩
    rw [HS.out, HC.out, W_shr1]
    simp
  · have ht : (bits .and .u32 (bits .xor .u32 (W r) x) 1 == 1) = true := by rw [hb, hc]; rfl
    have HC := Hd.mk hc
    clear hb hc
    go_enter Try.func43, Try.ntmps43
    go_wp2
    go_ret
    refine ⟨?_, rfl⟩
    rw [HS.out, HC.out, W_shr1, show (3988292384 : Int) = W G by decide, W_xor]
    simp

theorem top_bit (a : R) (j : Nat) (hj : j < 32) : (bits .and .u32 (W a * 2 ^ j % 4294967296) 2147483648 != 0) = a.getLsbD (31 - j) := by
  rw [W_shl, show (2147483648 : Int) = W e0 by decide, W_and]
  have := W_top (a <<< j)
  rw [W_shl_top a j hj] at this
  cases h : a.getLsbD (31 - j)
  · rw [this.mpr h]; rfl
  · have h' : ¬ W (a <<< j &&& e0) = 0 := by rw [this, h]; simp
    simpa using h'
theorem low_bit (a : R) : (bits .and .u32 (W a) 1 != 0) = a.getLsbD 0 := by
  rw [show (1 : Int) = W 1#32 by decide, W_and, W_low]
  cases a.getLsbD 0 <;> rfl
theorem S_of (a : R) (c : Bool) (h : a.getLsbD 0 = c) : S a = (a >>> 1) ^^^ if c then G else 0#32 := by subst h; rfl
set_option maxHeartbeats 1000000 in
theorem times_calls (a b : R) (w : World) :
    Calls Try.prog 38 #[.int .u32 (W a), .int .u32 (W b)] w fun e w' => e = .returned (.int .u32 (W (mul b a))) ∧ w' = w := by
  have hB := W_bd b
  go_enter Try.func38, Try.ntmps38
  go_wp2
  go_loopg [1, 5, 8] 32 (fun k u p y w' => w' = w ∧ ∃ j : Nat, y = .int .i64 j ∧ j + k = 32 ∧ u = .int .u32 (W (Sn j b)) ∧ p = .int .u32 (W (mulS a j b)))
  case atStart => exact ⟨rfl, 0, rfl, by omega, rfl, rfl⟩
  case round =>
    obtain ⟨rfl, j, rfl, hj, rfl, rfl⟩ := hrel
    rcases Nat.eq_zero_or_pos gk with rfl | hp
    · obtain rfl : j = 32 := by omega
      obtain ⟨m, em⟩ : ∃ m, W (mulS a 32 b) = m := ⟨_, rfl⟩
      rw [em]
      have EM := Hd.mk em
      clear em
      go_wp2
      go_ret
      exact ⟨(by rw [← EM.out]; rfl), rfl⟩
    · obtain ⟨k, rfl⟩ : ∃ k, gk = k + 1 := ⟨gk - 1, by omega⟩
      have ht := top_bit a j (by omega)
      have hl := low_bit (Sn j b)
      cases ha : a.getLsbD (31 - j) <;> cases hb : (Sn j b).getLsbD 0
      all_goals
        rw [ha] at ht
        rw [hb] at hl
        have HA := Hd.mk ha
        have HB := Hd.mk hb
        clear ha hb
        go_wp2
        go_roundg k
        case measure => omega
        case rel =>
          refine ⟨rfl, j + 1, by go_num, by omega, ?_, ?_⟩
          · rw [Sn_succ, S_of _ _ HB.out, W_shr1]
            try rw [show (3988292384 : Int) = W G by decide, W_xor]
            simp
          · rw [mulS, HA.out]
            try rw [W_xor]
            simp


theorem shr_bit (b : R) (k : Nat) (hk : k < 32) : (bits .and .u32 (W b / 2 ^ k) 1 == 1) = b.getLsbD k := by
  rw [W_shr, show (1 : Int) = W 1#32 by decide, W_and, W_bit b k hk, show W 1#32 = 1 by decide]
  cases b.getLsbD k <;> rfl
theorem step0_calls (r : R) (w : World) :
    Calls Try.prog 43 #[.int .u32 (W r), .int .u32 0] w fun e w' => e = .returned (.int .u32 (W (S r))) ∧ w' = w := by
  have := step_calls r false w
  rw [show bv false = 0#32 from rfl, BitVec.xor_zero] at this
  exact this
set_option maxHeartbeats 1000000 in
theorem rtimes_calls (a b : R) (w : World) :
    Calls Try.prog 40 #[.int .u32 (W a), .int .u32 (W b)] w fun e w' => e = .returned (.int .u32 (W (mul a b))) ∧ w' = w := by
  have hB := W_bd b
  go_enter Try.func40, Try.ntmps40
  go_wp2
  go_loopg [0, 5, 6] 32 (fun k u p y w' => w' = w ∧ ∃ j : Nat, y = .int .i64 j ∧ j + k = 32 ∧ u = .int .u32 (W (Sn j a)) ∧ p = .int .u32 (W (mulS b j a)))
  case atStart => exact ⟨rfl, 0, rfl, by omega, rfl, rfl⟩
  case round =>
    obtain ⟨rfl, j, rfl, hj, rfl, rfl⟩ := hrel
    rcases Nat.eq_zero_or_pos gk with rfl | hp
    · obtain rfl : j = 32 := by omega
      obtain ⟨m, em⟩ : ∃ m, W (mulS b 32 a) = m := ⟨_, rfl⟩
      rw [em]
      have EM := Hd.mk em
      clear em
      go_wp2
      go_ret
      exact ⟨(by rw [← EM.out]; rfl), rfl⟩
    · obtain ⟨k, rfl⟩ : ∃ k, gk = k + 1 := ⟨gk - 1, by omega⟩
      have ht := shr_bit b (31 - j) (by omega)
      cases ha : b.getLsbD (31 - j)
      all_goals
        rw [ha] at ht
        have HA := Hd.mk ha
        clear ha
        go_wp2_with fail
        go_at_call 43
        refine (step0_calls _ _).mono ?_
        rintro e w' ⟨rfl, rfl⟩
        go_wp2
        go_roundg k
        case measure => omega
        case rel =>
          refine ⟨rfl, j + 1, by go_num, by omega, by rw [Sn_succ], ?_⟩
          rw [mulS, HA.out]
          try rw [W_xor]
          simp

theorem rem2 (k : Nat) : ((k : Int).tmod 2 == 1) = decide (k % 2 = 1) := by
  rw [Int.tmod_eq_emod_of_nonneg (by omega)]
  by_cases h : k % 2 = 1
  · rw [decide_eq_true h]; simpa using (by omega : (k : Int) % 2 = 1)
  · rw [decide_eq_false h]; simpa using (by omega : ¬ (k : Int) % 2 = 1)
theorem pow_odd {a b k N : Nat} (h : a + b * k = N) (ho : k % 2 = 1) : a + b + (b + b) * (k / 2) = N := by
  have h3 : k = 2 * (k / 2) + 1 := by omega
  rw [h3, Nat.mul_add, Nat.mul_one, Nat.mul_left_comm] at h
  rw [Nat.add_mul]
  omega
theorem pow_even {a b k N : Nat} (h : a + b * k = N) (ho : k % 2 = 0) : a + (b + b) * (k / 2) = N := by
  have h3 : k = 2 * (k / 2) := by omega
  rw [h3, Nat.mul_left_comm] at h
  rw [Nat.add_mul]
  omega
set_option maxHeartbeats 1000000 in
theorem rpower_calls (n : Nat) (hn : (n : Int) ≤ 9223372036854775807) (w : World) :
    Calls Try.prog 41 #[.int .i64 n] w fun e w' => e = .returned (.int .u32 (W (X (8 * n)))) ∧ w' = w := by
  go_enter Try.func41, Try.ntmps41
  go_wp2
  go_loopg [0, 3, 4] n (fun k u p y w' => w' = w ∧ u = .int .i64 k ∧ k ≤ n ∧ ∃ a b : Nat, Hd (a + b * k = 8 * n) ∧ p = .int .u32 (W (X a)) ∧ y = .int .u32 (W (X b)))
  case atStart => exact ⟨rfl, rfl, Nat.le_refl _, 0, 8, ⟨by omega⟩, by rw [show W (X 0) = 2147483648 by decide], by rw [show W (X 8) = 8388608 by decide]⟩
  case round =>
    obtain ⟨rfl, rfl, hk, a, b, HE, rfl, rfl⟩ := hrel
    rcases Nat.eq_zero_or_pos gk with rfl | hp
    · obtain ⟨m, em⟩ : ∃ m, W (X a) = m := ⟨_, rfl⟩
      rw [em]
      have EM := Hd.mk em
      clear em
      go_wp2
      go_ret
      exact ⟨(by have := HE.out; rw [Nat.mul_zero, Nat.add_zero] at this; rw [← this, EM.out]; rfl), rfl⟩
    · by_cases hodd : gk % 2 = 1
      · have ht : ((gk : Int) % 2 == 1) = true := by simp; omega
        have HO := Hd.mk hodd
        clear hodd
        go_wp2_with fail
        go_at_call 40
        refine (rtimes_calls _ _ _).mono ?_
        rintro e w' ⟨rfl, rfl⟩
        go_wp2_with fail
        go_at_call 40
        refine (rtimes_calls _ _ _).mono ?_
        rintro e w' ⟨rfl, rfl⟩
        rw [X_add, X_add]
        go_wp2
        go_roundg (gk / 2)
        case measure => omega
        case rel =>
          refine ⟨rfl, by go_num, by omega, a + b, b + b, ⟨?_⟩, rfl, rfl⟩
          exact pow_odd HE.out HO.out
      · have ht : ((gk : Int) % 2 == 1) = false := by simp; omega
        have HO := Hd.mk hodd
        clear hodd
        go_wp2_with fail
        go_at_call 40
        refine (rtimes_calls _ _ _).mono ?_
        rintro e w' ⟨rfl, rfl⟩
        rw [X_add]
        go_wp2
        go_roundg (gk / 2)
        case measure => omega
        case rel =>
          refine ⟨rfl, by go_num, by omega, a, b + b, ⟨?_⟩, rfl, rfl⟩
          exact pow_even HE.out (by have := HO.out; omega)
theorem and1 (k : Nat) (h : (k : Int) ≤ 9223372036854775807) : bits .and .i64 (k : Int) 1 = (k : Int) % 2 :=
  bits_mask .i64 63 (by decide) (by intro n a b; rw [IntKind.wrap_i64]; omega) 1 (by decide) k (by omega) (by omega)
set_option maxHeartbeats 1000000 in
theorem power_calls (n : Nat) (hn : (n : Int) ≤ 9223372036854775807) (w : World) :
    Calls Try.prog 39 #[.int .i64 n] w fun e w' => e = .returned (.int .u32 (W (X (8 * n)))) ∧ w' = w := by
  go_enter Try.func39, Try.ntmps39
  go_wp2
  go_loopg [0, 3, 4] n (fun k u p y w' => w' = w ∧ u = .int .i64 k ∧ k ≤ n ∧ ∃ a b : Nat, Hd (a + b * k = 8 * n) ∧ p = .int .u32 (W (X a)) ∧ y = .int .u32 (W (X b)))
  case atStart => exact ⟨rfl, rfl, Nat.le_refl _, 0, 8, ⟨by omega⟩, by rw [show W (X 0) = 2147483648 by decide], by rw [show W (X 8) = 8388608 by decide]⟩
  case round =>
    obtain ⟨rfl, rfl, hk, a, b, HE, rfl, rfl⟩ := hrel
    rcases Nat.eq_zero_or_pos gk with rfl | hp
    · obtain ⟨m, em⟩ : ∃ m, W (X a) = m := ⟨_, rfl⟩
      rw [em]
      have EM := Hd.mk em
      clear em
      go_wp2
      go_ret
      exact ⟨(by have := HE.out; rw [Nat.mul_zero, Nat.add_zero] at this; rw [← this, EM.out]; rfl), rfl⟩
    · by_cases hodd : gk % 2 = 1
      · have ht : (bits .and .i64 (gk : Int) 1 != 0) = true := by rw [and1 _ (by omega)]; simp; omega
        have HO := Hd.mk hodd
        clear hodd
        go_wp2_with fail
        go_at_call 38
        refine (times_calls _ _ _).mono ?_
        rintro e w' ⟨rfl, rfl⟩
        go_wp2_with fail
        go_at_call 38
        refine (times_calls _ _ _).mono ?_
        rintro e w' ⟨rfl, rfl⟩
        rw [X_add, X_add, Nat.add_comm b a]
        go_wp2
        go_roundg (gk / 2)
        case measure => omega
        case rel =>
          refine ⟨rfl, by go_num, by omega, a + b, b + b, ⟨?_⟩, rfl, rfl⟩
          exact pow_odd HE.out HO.out
      · have ht : (bits .and .i64 (gk : Int) 1 != 0) = false := by rw [and1 _ (by omega)]; simp; omega
        have HO := Hd.mk hodd
        clear hodd
        go_wp2_with fail
        go_at_call 38
        refine (times_calls _ _ _).mono ?_
        rintro e w' ⟨rfl, rfl⟩
        rw [X_add]
        go_wp2
        go_roundg (gk / 2)
        case measure => omega
        case rel =>
          refine ⟨rfl, by go_num, by omega, a, b + b, ⟨?_⟩, rfl, rfl⟩
          exact pow_even HE.out (by have := HO.out; omega)
end Go.Proofs.Ytelmkcbakeccoaa
