/- crc: words: a register as a value; what the program's bit operations do. -/
import Derived.Test.YtelmkcbakeccoaaM
import Derived.Test.YtelmkcbakeccoaaPl
import Derived.Laws.BitsAllLaws
namespace Go.Proofs.Ytelmkcbakeccoaa
set_option linter.unusedVariables false
set_option linter.unusedSimpArgs false

def W (r : R) : Int := (r.toNat : Int)
theorem W_bd (r : R) : 0 ≤ W r ∧ W r ≤ 4294967295 := by have := r.isLt; unfold W; omega
theorem W_of (n : Nat) (h : n < 4294967296) : W (BitVec.ofNat 32 n) = n := by
  unfold W; rw [BitVec.toNat_ofNat, Nat.mod_eq_of_lt h]
theorem W_ofInt (i : Int) (h0 : 0 ≤ i) (h1 : i ≤ 4294967295) : W (BitVec.ofInt 32 i) = i := by
  obtain ⟨n, rfl⟩ : ∃ n : Nat, i = n := ⟨i.toNat, by omega⟩
  rw [BitVec.ofInt_natCast, W_of n (by omega)]
theorem exists_W (i : Int) (h0 : 0 ≤ i) (h1 : i ≤ 4294967295) : ∃ r, i = W r := ⟨_, (W_ofInt i h0 h1).symm⟩
theorem W_inj {a b : R} : W a = W b ↔ a = b := by
  unfold W
  constructor
  · intro h; exact BitVec.eq_of_toNat_eq (by omega)
  · rintro rfl; rfl
theorem W_xor (a b : R) : bits .xor .u32 (W a) (W b) = W (a ^^^ b) := by
  unfold W; rw [u32_xor_nat _ _ a.isLt b.isLt, BitVec.toNat_xor]
theorem W_and (a b : R) : bits .and .u32 (W a) (W b) = W (a &&& b) := by
  unfold W; rw [u32_and_nat _ _ a.isLt b.isLt, BitVec.toNat_and]
theorem W_or (a b : R) : bits .or .u32 (W a) (W b) = W (a ||| b) := by
  unfold W; rw [u32_or_nat _ _ a.isLt b.isLt, BitVec.toNat_or]
theorem W_not (a : R) : bits .xor .u32 IntKind.u32.max (W a) = W (~~~a) := by
  rw [show IntKind.u32.max = W (BitVec.allOnes 32) by decide, W_xor, BitVec.allOnes_xor]
theorem W_not' (a : R) : bits .xor .u32 4294967295 (W a) = W (~~~a) := W_not a
theorem W_shr (a : R) (k : Nat) : W a / (2 : Int) ^ k = W (a >>> k) := by
  unfold W; rw [BitVec.toNat_ushiftRight, Nat.shiftRight_eq_div_pow]; simp
theorem W_shr1 (a : R) : W a / (2 : Int) = W (a >>> 1) := W_shr a 1
theorem W_shr4 (a : R) : W a / (16 : Int) = W (a >>> 4) := W_shr a 4
theorem W_shr8 (a : R) : W a / (256 : Int) = W (a >>> 8) := W_shr a 8
theorem W_shl (a : R) (k : Nat) : (W a * (2 : Int) ^ k) % (4294967296 : Int) = W (a <<< k) := by
  unfold W; rw [BitVec.toNat_shiftLeft, Nat.shiftLeft_eq]; simp
theorem W_shl1 (a : R) : (W a * (2 : Int)) % (4294967296 : Int) = W (a <<< 1) := W_shl a 1
theorem W_bit (a : R) (k : Nat) (hk : k < 32) : W ((a >>> k) &&& 1#32) = if a.getLsbD k then 1 else 0 := by
  have e : (a >>> k) &&& 1#32 = if a.getLsbD k then 1#32 else 0#32 := by
    apply BitVec.eq_of_getLsbD_eq
    intro i hi
    have h1 : ∀ i, i < 33 → (1#32).getLsbD i = decide (i = 0) := by decide
    rw [BitVec.getLsbD_and, BitVec.getLsbD_ushiftRight, h1 i (by omega)]
    rcases i with _ | i
    · cases hb : a.getLsbD k
      · simp only [Nat.add_zero, hb]; rfl
      · simp only [Nat.add_zero, hb]; rfl
    · rw [decide_eq_false (by omega), Bool.and_false]
      cases a.getLsbD k
      · simp
      · rw [if_pos rfl, h1 _ (by omega), decide_eq_false (by omega)]
  rw [e]
  cases a.getLsbD k <;> rfl
theorem W_low (a : R) : W (a &&& 1#32) = if a.getLsbD 0 then 1 else 0 := by
  have := W_bit a 0 (by omega)
  rwa [BitVec.ushiftRight_zero] at this
theorem W_top (a : R) : (W (a &&& e0) = 0) ↔ a.getLsbD 31 = false := by
  have e : a &&& e0 = if a.getLsbD 31 then e0 else 0#32 := by
    apply BitVec.eq_of_getLsbD_eq
    intro i hi
    have h1 : ∀ i, i < 33 → e0.getLsbD i = decide (i = 31) := by decide
    rw [BitVec.getLsbD_and, h1 i (by omega)]
    by_cases h : i = 31
    · subst h
      cases hb : a.getLsbD 31
      · rw [Bool.false_and, if_neg (by simp)]; simp
      · rw [if_pos rfl, h1 _ (by omega)]; rfl
    · rw [decide_eq_false h, Bool.and_false]
      cases a.getLsbD 31
      · simp
      · rw [if_pos rfl, h1 _ (by omega), decide_eq_false h]
  rw [e]
  cases a.getLsbD 31
  · simp; decide
  · simp; decide
theorem W_shl_top (a : R) (k : Nat) (hk : k < 32) : (a <<< k).getLsbD 31 = a.getLsbD (31 - k) := by
  rw [BitVec.getLsbD_shiftLeft]
  simp
  intro _; omega
end Go.Proofs.Ytelmkcbakeccoaa
