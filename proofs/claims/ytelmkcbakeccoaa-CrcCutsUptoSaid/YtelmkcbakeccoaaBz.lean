/- crc: the reference's run; More of both. -/
import Derived.Test.YtelmkcbakeccoaaBy
namespace Go.Proofs.Ytelmkcbakeccoaa
open Go.RowKit Go.Proofs.YtelmkcbakeccoaaW.PrintWords Go.Proofs.YtelmkcbakeccoaaW.PrintLast Go.Proofs.YtelmkcbakeccoaaW.PrintMore
set_option linter.unusedVariables false
set_option linter.unusedSimpArgs false
def inR (x : R) : Nat → R → R
  | 0, r => r
  | m + 1, r => S (inR x m r ^^^ bv (x.getLsbD m))
theorem inR_lin (x : R) : ∀ (m : Nat) (r : R), inR x m r = Sn m r ^^^ inR x m 0#32
  | 0, r => by simp [inR, Sn]
  | m + 1, r => by
    simp only [inR]
    rw [inR_lin x m r, Sn_succ, BitVec.xor_assoc, S_xor]
theorem inR_low : ∀ x : Nat, x < 256 → inR (BitVec.ofNat 32 x) 8 0#32 = Sn 8 (BitVec.ofNat 32 x) := by decide +kernel
theorem inR_byte (x : Int) (h0 : 0 ≤ x) (h1 : x ≤ 255) (r : R) : inR (BitVec.ofInt 32 x) 8 r = Sn 8 (r ^^^ BitVec.ofInt 32 x) := by
  obtain ⟨n, rfl⟩ : ∃ n : Nat, x = n := ⟨x.toNat, by omega⟩
  rw [BitVec.ofInt_natCast, inR_lin, inR_low n (by omega), ← Sn_xor]
theorem bit_of (x : Int) (h0 : 0 ≤ x) (h1 : x ≤ 255) (m : Nat) (hm : m < 8) : bits .and .u32 (x / 2 ^ m % 4294967296) 1 = W (bv ((BitVec.ofInt 32 x).getLsbD m)) := by
  conv => lhs; rw [show x = W (BitVec.ofInt 32 x) from (W_ofInt x h0 (by omega)).symm]
  rw [W_shr, Int.emod_eq_of_lt (W_bd _).1 (by have := (W_bd (BitVec.ofInt 32 x >>> m)).2; omega), show (1 : Int) = W 1#32 by decide, W_and, W_bit _ m (by omega)]
  cases (BitVec.ofInt 32 x).getLsbD m <;> rfl
set_option maxHeartbeats 1000000 in
theorem rrun_calls (r : R) (A : Option Addr) (n c : Nat) (xs : List Int) (w : World) (hC : (Kd.int .u8).C w A n xs) (hc : n ≤ c) (hr : ∀ x ∈ xs, 0 ≤ x ∧ x ≤ 255) :
    Calls Try.prog 37 #[.int .u32 (W r), .slice A n c] w fun e w' => e = .returned (.int .u32 (W (runB r xs))) ∧ w' = w := by
  have hm := Kd.C_max hC
  have HR := Hd.mk hr
  have HC := Hd.mk hC
  clear hC hr
  go_enter Try.func37, Try.ntmps37
  go_wp2
  go_loopg [0, 5] n (fun k u y w'' => w'' = w ∧ ∃ j : Nat, y = .int .i64 j ∧ j + k = n ∧ u = .int .u32 (W (runB r (xs.take j))))
  case atStart => exact ⟨rfl, 0, rfl, by omega, rfl⟩
  case round =>
    obtain ⟨rfl, j, rfl, hj, rfl⟩ := hrel
    rcases Nat.eq_zero_or_pos gk with rfl | hp
    · obtain rfl : j = n := by omega
      obtain ⟨m, em⟩ : ∃ m, W (runB r (xs.take j)) = m := ⟨_, rfl⟩
      rw [em]
      have EM := Hd.mk em
      clear em
      go_wp2
      go_ret
      refine ⟨?_, rfl⟩
      rw [← EM.out, List.take_of_length_le (by have := HC.out.1; omega)]
      rfl
    · obtain ⟨k, rfl⟩ : ∃ k, gk = k + 1 := ⟨gk - 1, by omega⟩
      obtain ⟨ad, hA, hcell⟩ := at_byte HC.out j (by omega)
      subst hA
      obtain ⟨x0, x1⟩ := gb_range HR.out j
      have HS := Hd.mk (runB_snoc xs r j (by have := HC.out.1; omega))
      obtain ⟨x, ex⟩ : ∃ x, gb xs j = x := ⟨_, rfl⟩
      obtain ⟨q, eq⟩ : ∃ q, runB r (xs.take j) = q := ⟨_, rfl⟩
      rw [ex] at hcell x0 x1 HS
      rw [eq] at HS ⊢
      have HB := Hd.mk (inR_byte x x0 x1 q)
      clear ex eq
      have hjn : j < n := by omega
      have hd : decide (j < n) = true := decide_eq_true hjn
      go_wp2
      try simp only [hd]
      obtain ⟨wo, rfl⟩ : ∃ wo : World, wo = wr := ⟨_, rfl⟩
      go_loopg [0, 6] 8 (fun p u y w'' => w'' = wo ∧ ∃ m : Nat, y = .int .i64 m ∧ m + p = 8 ∧ u = .int .u32 (W (inR (BitVec.ofInt 32 x) m q)))
      case atStart => exact ⟨rfl, 0, rfl, by omega, rfl⟩
      case round =>
        obtain ⟨rfl, m, rfl, hm8, rfl⟩ := hrel
        rcases Nat.eq_zero_or_pos gk with rfl | hp
        · obtain rfl : m = 8 := by omega
          rw [HB.out, ← HS.out]
          go_wp2
          go_roundg k
          case measure => omega
          case rel => exact ⟨rfl, j + 1, by go_num, by omega, rfl⟩
        · obtain ⟨p, rfl⟩ : ∃ p, gk = p + 1 := ⟨gk - 1, by omega⟩
          have HB1 := Hd.mk (bit_of x x0 x1 m (by omega))
          go_wp2_with fail
          go_at_call 43
          rw [HB1.out]
          refine (step_calls _ _ _).mono ?_
          rintro e w' ⟨rfl, rfl⟩
          go_wp2
          go_roundg p
          case measure => omega
          case rel => exact ⟨rfl, m + 1, by go_num, by omega, rfl⟩
set_option maxHeartbeats 400000 in
theorem more_calls (r : R) (A : Option Addr) (n c : Nat) (xs : List Int) (w : World) (hC : (Kd.int .u8).C w A n xs) (hc : n ≤ c) (hr : ∀ x ∈ xs, 0 ≤ x ∧ x ≤ 255) :
    Calls Try.prog 17 #[.int .u32 (W r), .slice A n c] w fun e w' => e = .returned (.int .u32 (W (~~~ runB (~~~ r) xs))) ∧ Below w.heap.size w w' := by
  have hm := Kd.C_max hC
  have HR := Hd.mk hr
  have HC := Hd.mk hC
  clear hC hr
  go_enter Try.func17, Try.ntmps17
  go_wp2_with fail
  go_at_call 36
  rw [W_not]
  refine (through_calls _ _ _ _ _ _ HC.out hc HR.out).mono ?_
  rintro e w' ⟨rfl, hB⟩
  have HB := Hd.mk hB
  clear hB
  go_wp2
  go_ret
  exact ⟨by rw [W_not]; rfl, HB.out⟩
set_option maxHeartbeats 400000 in
theorem rmore_calls (r : R) (A : Option Addr) (n c : Nat) (xs : List Int) (w : World) (hC : (Kd.int .u8).C w A n xs) (hc : n ≤ c) (hr : ∀ x ∈ xs, 0 ≤ x ∧ x ≤ 255) :
    Calls Try.prog 18 #[.int .u32 (W r), .slice A n c] w fun e w' => e = .returned (.int .u32 (W (~~~ runB (~~~ r) xs))) ∧ w' = w := by
  have hm := Kd.C_max hC
  have HR := Hd.mk hr
  have HC := Hd.mk hC
  clear hC hr
  go_enter Try.func18, Try.ntmps18
  go_wp2_with fail
  go_at_call 37
  rw [W_not]
  refine (rrun_calls _ _ _ _ _ _ HC.out hc HR.out).mono ?_
  rintro e w' ⟨rfl, rfl⟩
  go_wp2
  go_ret
  exact ⟨by rw [W_not]; rfl, rfl⟩
end Go.Proofs.Ytelmkcbakeccoaa
