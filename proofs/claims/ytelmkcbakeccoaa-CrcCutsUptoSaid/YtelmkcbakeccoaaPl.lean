/- crc: the plain law: the register as BitVec 32; the step is linear; products of polynomials commute; powers. -/
import GoSem.Claim
namespace Go.Proofs.Ytelmkcbakeccoaa
set_option linter.unusedVariables false
set_option linter.unusedSimpArgs false

abbrev R := BitVec 32
def G : R := 0xedb88320#32
def S (r : R) : R := (r >>> 1) ^^^ (if r.getLsbD 0 then G else 0#32)
theorem xlc (a b c : R) : a ^^^ (b ^^^ c) = b ^^^ (a ^^^ c) := by rw [← BitVec.xor_assoc, BitVec.xor_comm a b, BitVec.xor_assoc]
theorem xcl (a c : R) : a ^^^ (a ^^^ c) = c := by rw [← BitVec.xor_assoc, BitVec.xor_self, BitVec.zero_xor]
def Sn : Nat → R → R
  | 0, r => r
  | n + 1, r => Sn n (S r)
theorem S_xor (a b : R) : S (a ^^^ b) = S a ^^^ S b := by
  unfold S
  rw [BitVec.getLsbD_xor]
  have e : (a ^^^ b) >>> 1 = (a >>> 1) ^^^ (b >>> 1) := by
    apply BitVec.eq_of_getLsbD_eq
    intro i hi
    simp [BitVec.getLsbD_ushiftRight]
  rw [e]
  cases a.getLsbD 0 <;> cases b.getLsbD 0 <;> simp [BitVec.xor_assoc, BitVec.xor_comm, xlc, xcl]
theorem Sn_xor : ∀ (n : Nat) (a b : R), Sn n (a ^^^ b) = Sn n a ^^^ Sn n b
  | 0, _, _ => rfl
  | n + 1, a, b => by simp only [Sn]; rw [S_xor, Sn_xor n]
theorem S_zero : S 0#32 = 0#32 := by decide
theorem Sn_zero : ∀ n, Sn n 0#32 = 0#32
  | 0 => rfl
  | n + 1 => by simp only [Sn]; rw [S_zero, Sn_zero n]
theorem Sn_succ : ∀ (n : Nat) (r : R), Sn (n + 1) r = S (Sn n r)
  | 0, _ => rfl
  | n + 1, r => Sn_succ n (S r)
theorem Sn_add : ∀ (m n : Nat) (r : R), Sn (m + n) r = Sn m (Sn n r)
  | m, 0, r => rfl
  | m, n + 1, r => Sn_add m n (S r)

/-! ### bits behind -/
theorem S_even {r : R} (h : r.getLsbD 0 = false) : S r = r >>> 1 := by
  unfold S
  rw [h, if_neg (by simp), BitVec.xor_zero]
theorem Sn_shift : ∀ (k : Nat) (x : R), k ≤ 32 → (∀ i, i < k → x.getLsbD i = false) → Sn k x = x >>> k
  | 0, x, _, _ => by simp [Sn]
  | k + 1, x, hk, h => by
    simp only [Sn]
    rw [S_even (h 0 (by omega)), Sn_shift k _ (by omega)]
    · rw [← BitVec.shiftRight_add, Nat.add_comm]
    · intro i hi
      rw [BitVec.getLsbD_ushiftRight]
      exact h _ (by omega)
theorem Sn_low (k : Nat) (r lo hi : R) (hk : k ≤ 32) (e : r = hi ^^^ lo) (h : ∀ i, i < k → hi.getLsbD i = false) : Sn k r = (hi >>> k) ^^^ Sn k lo := by
  rw [e, Sn_xor, Sn_shift k hi hk h]
def nib (r : R) : R := (r >>> 4) ^^^ Sn 4 (r &&& 15#32)
theorem nib_eq (r : R) : nib r = Sn 4 r := by
  have e : r = (r &&& ~~~15#32) ^^^ (r &&& 15#32) := by
    apply BitVec.eq_of_getLsbD_eq
    intro i hi
    simp only [BitVec.getLsbD_xor, BitVec.getLsbD_and, BitVec.getLsbD_not]
    cases r.getLsbD i <;> cases (15#32).getLsbD i <;> simp [hi]
  have h15 : ∀ i, i < 4 → (15#32).getLsbD i = true := by decide
  rw [Sn_low 4 r _ _ (by omega) e]
  · unfold nib
    congr 1
    apply BitVec.eq_of_getLsbD_eq
    intro i hi
    have h4 : ∀ i, i < 28 → (15#32).getLsbD (4 + i) = false := by decide
    simp only [BitVec.getLsbD_ushiftRight, BitVec.getLsbD_and, BitVec.getLsbD_not]
    by_cases h : i < 28
    · rw [h4 i h, decide_eq_true (by omega : 4 + i < 32)]
      simp only [Bool.not_false, Bool.and_true]
    · rw [BitVec.getLsbD_of_ge r (4 + i) (by omega)]
      simp only [Bool.false_and]
  · intro i hi
    rw [BitVec.getLsbD_and, BitVec.getLsbD_not, h15 i hi]
    simp only [Bool.not_true, Bool.and_false]
theorem nib2 (r : R) : nib (nib r) = Sn 8 r := by
  rw [nib_eq, nib_eq, ← Sn_add]

/-! ### products -/
def e0 : R := 0x80000000#32
/-- the sum over the first n coefficients of b -/
def mulS (b : R) : Nat → R → R
  | 0, _ => 0#32
  | n + 1, a => mulS b n a ^^^ (if b.getLsbD (31 - n) then Sn n a else 0#32)
def mul (a b : R) : R := mulS b 32 a
theorem mulS_xor (b : R) : ∀ (n : Nat) (x y : R), mulS b n (x ^^^ y) = mulS b n x ^^^ mulS b n y
  | 0, _, _ => by simp [mulS]
  | n + 1, x, y => by
    simp only [mulS]
    rw [mulS_xor b n, Sn_xor]
    cases b.getLsbD (31 - n) <;> simp [BitVec.xor_assoc, BitVec.xor_comm, xlc, xcl]
theorem mul_xor (x y b : R) : mul (x ^^^ y) b = mul x b ^^^ mul y b := mulS_xor b 32 x y
theorem mulS_zero (b : R) : ∀ n, mulS b n 0#32 = 0#32
  | 0 => rfl
  | n + 1 => by simp only [mulS]; rw [mulS_zero b n, Sn_zero]; simp
/-- a linear thing that commutes with the step commutes with products -/
theorem comm_mulS (T : R → R) (hx : ∀ x y, T (x ^^^ y) = T x ^^^ T y) (hz : T 0#32 = 0#32) (hS : ∀ x, T (S x) = S (T x)) (b : R) :
    ∀ (n : Nat) (a : R), T (mulS b n a) = mulS b n (T a)
  | 0, _ => hz
  | n + 1, a => by
    have hn : ∀ (n : Nat) (x : R), T (Sn n x) = Sn n (T x) := by
      intro n
      induction n with
      | zero => intro x; rfl
      | succ k ih => intro x; simp only [Sn]; rw [ih, hS]
    simp only [mulS]
    rw [hx, comm_mulS T hx hz hS b n]
    cases b.getLsbD (31 - n) <;> simp [hz, hn]
theorem S_mul (a b : R) : S (mul a b) = mul (S a) b := comm_mulS S S_xor S_zero (fun _ => rfl) b 32 a
theorem Sn_mul : ∀ (n : Nat) (a b : R), Sn n (mul a b) = mul (Sn n a) b
  | 0, _, _ => rfl
  | n + 1, a, b => by simp only [Sn]; rw [S_mul, Sn_mul n]
theorem mul_mul (a b c : R) : mul (mul a b) c = mul (mul a c) b :=
  comm_mulS (fun x => mul x c) (fun x y => mul_xor x y c) (mulS_zero c 32) (fun x => (S_mul x c).symm) b 32 a
theorem mulS_one (b : R) : ∀ (n : Nat), n ≤ 32 → ∀ i, i < 32 → (mulS b n e0).getLsbD i = (b.getLsbD i && decide (31 - n < i ∨ n = 32))
  | 0, _, i, hi => by
    have : ¬ 31 - 0 < i := by omega
    simp [mulS, this]
  | n + 1, hn, i, hi => by
    have hX : ∀ n, n < 32 → Sn n e0 = e0 >>> n := by decide
    simp only [mulS]
    rw [BitVec.getLsbD_xor, mulS_one b n (by omega) i hi, hX n (by omega)]
    have hbit : (e0 >>> n).getLsbD i = decide (i + n = 31) := by
      rw [BitVec.getLsbD_ushiftRight]
      have : ∀ j, j < 64 → e0.getLsbD j = decide (j = 31) := by decide
      rw [this _ (by omega), Nat.add_comm]
    by_cases h : i + n = 31
    · have hi' : i = 31 - n := by omega
      have h1 : ¬ (31 - n < i ∨ n = 32) := by omega
      have h2 : 31 - (n + 1) < i ∨ n + 1 = 32 := by omega
      simp only [h1, h2, decide_false, decide_true, Bool.and_false, Bool.and_true, Bool.false_xor]
      subst hi'
      cases hb : b.getLsbD (31 - n) <;> simp [hbit, h]
    · have e : (decide (31 - n < i ∨ n = 32)) = decide (31 - (n + 1) < i ∨ n + 1 = 32) := by
        apply decide_eq_decide.mpr
        omega
      rw [e]
      cases hb : b.getLsbD (31 - n) <;> simp [hbit, h]
theorem one_mul' (b : R) : mul e0 b = b := by
  apply BitVec.eq_of_getLsbD_eq
  intro i hi
  rw [mul, mulS_one b 32 (by omega) i hi]
  simp
theorem mul_comm' (a b : R) : mul a b = mul b a := by
  have := mul_mul e0 a b
  rwa [one_mul', one_mul'] at this
def X (k : Nat) : R := Sn k e0
theorem mul_X (a : R) (k : Nat) : mul a (X k) = Sn k a := by
  rw [mul_comm', X, ← Sn_mul, one_mul']
theorem X_mul (a : R) (k : Nat) : mul (X k) a = Sn k a := by rw [mul_comm', mul_X]
theorem X_add (i j : Nat) : mul (X i) (X j) = X (i + j) := by
  rw [X_mul, X, X, Sn_add]
theorem X8 : X 8 = 0x00800000#32 := by decide

/-! ### bytes -/
/-- the register behind bytes -/
def runB (r : R) : List Int → R
  | [] => r
  | x :: xs => runB (Sn 8 (r ^^^ BitVec.ofInt 32 x)) xs
theorem runB_append : ∀ (xs ys : List Int) (r : R), runB r (xs ++ ys) = runB (runB r xs) ys
  | [], _, _ => rfl
  | x :: xs, ys, r => runB_append xs ys _
theorem runB_zeros : ∀ (n : Nat) (r : R), runB r (List.replicate n 0) = Sn (8 * n) r
  | 0, _ => rfl
  | n + 1, r => by
    rw [List.replicate_succ, runB, runB_zeros n, show 8 * (n + 1) = 8 * n + 8 by omega, Sn_add]
    congr 2
    exact BitVec.xor_zero

/-! ### back -/
def back (r : R) : R := if r.getLsbD 31 then ((r ^^^ G) <<< 1) ||| 1#32 else r <<< 1
theorem S_back (r : R) : S (back r) = r := by
  unfold back S
  apply BitVec.eq_of_getLsbD_eq
  intro i hi
  have hG : G.getLsbD 31 = true := by decide
  have h1 : ∀ i, i < 33 → (1#32).getLsbD i = decide (i = 0) := by decide
  by_cases h : r.getLsbD 31
  · rw [if_pos h]
    have hl : (((r ^^^ G) <<< 1) ||| 1#32).getLsbD 0 = true := by simp
    rw [hl, if_pos rfl, BitVec.getLsbD_xor, BitVec.getLsbD_ushiftRight, BitVec.getLsbD_or, BitVec.getLsbD_shiftLeft, h1 _ (by omega)]
    by_cases hi31 : i = 31
    · subst hi31
      have hG' : G[31] = true := by rw [← BitVec.getLsbD_eq_getElem]; exact hG
      have h' : r[31] = true := by rw [← BitVec.getLsbD_eq_getElem]; exact h
      simp [hG', h']
    · simp [show 1 + i < 32 by omega]
  · rw [if_neg h]
    have hl : (r <<< 1).getLsbD 0 = false := by simp
    rw [hl, if_neg (by simp), BitVec.xor_zero, BitVec.getLsbD_ushiftRight, BitVec.getLsbD_shiftLeft]
    by_cases hi31 : i = 31
    · subst hi31
      simpa using h
    · simp [show 1 + i < 32 by omega]
def backN : Nat → R → R
  | 0, r => r
  | n + 1, r => backN n (back r)
theorem Sn_backN : ∀ (n : Nat) (r : R), Sn n (backN n r) = r
  | 0, _ => rfl
  | n + 1, r => by rw [backN, Sn_succ, Sn_backN n, S_back]
theorem S_inj {a b : R} (h : S a = S b) : a = b := by
  have h0 : S (a ^^^ b) = 0#32 := by rw [S_xor, h, BitVec.xor_self]
  have key : ∀ r : R, S r = 0#32 → r = 0#32 := by
    intro r hr
    have hG : G.getLsbD 31 = true := by decide
    unfold S at hr
    have hl : r.getLsbD 0 = false := by
      have := congrArg (fun x => BitVec.getLsbD x 31) hr
      simp only [BitVec.getLsbD_xor, BitVec.getLsbD_ushiftRight] at this
      cases hb : r.getLsbD 0
      · rfl
      · rw [hb, if_pos rfl, hG, BitVec.getLsbD_of_ge _ (1 + 31) (by omega)] at this
        exact absurd this (by decide)
    rw [hl] at hr
    simp only [Bool.false_eq_true, if_false, BitVec.xor_zero] at hr
    apply BitVec.eq_of_getLsbD_eq
    intro i hi
    rcases i with _ | j
    · simpa using hl
    · have := congrArg (fun x => BitVec.getLsbD x j) hr
      simpa [BitVec.getLsbD_ushiftRight, Nat.add_comm] using this
  have := key _ h0
  have e := congrArg (fun x => x ^^^ b) this
  simpa [BitVec.xor_assoc] using e
theorem Sn_inj : ∀ (n : Nat) {a b : R}, Sn n a = Sn n b → a = b
  | 0, _, _, h => h
  | n + 1, a, b, h => S_inj (Sn_inj n h)
end Go.Proofs.Ytelmkcbakeccoaa
