/- num: reading numbers: the reference's Wrong, value, Read; the program's Taker and Decode. -/
import Derived.Test.YtinlfoblpgpikaaAp
namespace Go.Proofs.Ytinlfoblpgpikaa
open Go.RowKit Go.Proofs.YtinlfoblpgpikaaW.PrintWords Go.Proofs.YtinlfoblpgpikaaW.PrintLast Go.Proofs.YtinlfoblpgpikaaW.PrintMore

set_option linter.unusedVariables false
set_option linter.unusedSimpArgs false
/-! ### plain -/
def wrongB (n : Int) (x : Int) : Int := if n = 10 ∧ 1 < x then 10 else if 1 < n ∧ x = 0 then 12 else 0
def val : List Int → Int
  | [] => 0
  | x :: xs => x % 128 + 128 * val xs
theorem val_nonneg : ∀ xs, 0 ≤ val xs
  | [] => Int.le_refl _
  | x :: xs => by have := val_nonneg xs; simp only [val]; omega
theorem val_drop : ∀ (xs : List Int) (i : Nat), i < xs.length → val (xs.drop i) = rd xs i % 128 + 128 * val (xs.drop (i + 1))
  | [], i, h => by simp at h
  | x :: xs, 0, _ => by simp [val, rd]
  | x :: xs, i + 1, h => by
    have := val_drop xs i (by simpa using h)
    have e : rd (x :: xs) ((i + 1 : Nat) : Int) = rd xs i := by
      unfold rd
      rw [show ((i + 1 : Nat) : Int).toNat = i + 1 by omega, show ((i : Nat) : Int).toNat = i by omega]
      rfl
    rw [e]
    simpa using this
theorem val_drop_le : ∀ (xs : List Int) (i : Nat), val (xs.drop i) ≤ val xs
  | [], i => by simp [val]
  | x :: xs, 0 => by simp
  | x :: xs, i + 1 => by
    have h := val_drop_le xs i
    have h0 := val_nonneg xs
    simp only [List.drop_succ_cons, val]
    omega

theorem C_pre {α : Type} {d : Kd α} {w : World} {A : Option Addr} {n : Nat} {xs : List α} (h : d.C w A n xs) (m : Nat) (hm : m ≤ n) : d.C w A m (xs.take m) := by
  obtain rfl := h.1
  have := Kd.C_take h hm
  rwa [List.length_take, Nat.min_eq_left hm] at this

def gb (xs : List Int) (k : Nat) : Int := xs.getD k 0
theorem rd_gb (xs : List Int) (k : Nat) : rd xs (k : Int) = gb xs k := by unfold rd gb; simp
theorem at_byte {ik : IntKind} {w : World} {A : Option Addr} {n : Nat} {xs : List Int} (h : (Kd.int ik).C w A n xs) (k : Nat) (hk : k < n) : ∃ ad, A = some ad ∧ w.cell? (ad.add k) = some (.int ik (gb xs k)) := by
  obtain ⟨ad, e, hc⟩ := Kd.at_int h (k : Int) (by omega) (by omega)
  rw [Int.toNat_natCast, rd_gb] at hc
  exact ⟨ad, e, hc⟩
theorem gb_range {xs : List Int} (h : ∀ x ∈ xs, 0 ≤ x ∧ x ≤ 255) (k : Nat) : 0 ≤ gb xs k ∧ gb xs k ≤ 255 := by
  unfold gb
  by_cases hk : k < xs.length
  · simpa [hk] using h xs[k] (List.getElem_mem hk)
  · simp [List.getElem?_eq_none (by omega : xs.length ≤ k)]

/-! ### Wrong (35), value (36) -/
theorem wrong_a {n : Nat} {x : Int} (h : n = 10) (hx : 1 < x) : wrongB n x = 10 := by simp [wrongB, h, hx]
theorem wrong_b {n : Nat} {x : Int} (h : ¬ (n = 10 ∧ 1 < x)) (h1 : 1 < n) (hx : x = 0) : wrongB n x = 12 := by
  unfold wrongB; rw [if_neg (by omega), if_pos (by omega)]
theorem wrong_c {n : Nat} {x : Int} (h : ¬ (n = 10 ∧ 1 < x)) (h1 : ¬ (1 < n ∧ x = 0)) : wrongB n x = 0 := by
  unfold wrongB; rw [if_neg (by omega), if_neg (by omega)]
set_option maxHeartbeats 400000 in
theorem wrong_calls (A : Option Addr) (n c : Nat) (xs : List Int) (w : World) (hC : (Kd.int .u8).C w A n xs) (hc : n ≤ c) (h0 : 0 < n) :
    Calls Try.prog 65 #[.slice A n c] w fun e w' => e = .returned (.int .i64 (wrongB n (gb xs (n - 1)))) ∧ w' = w := by
  have hm := Kd.C_max hC
  obtain ⟨ad, rfl, hcell⟩ := at_byte hC (n - 1) (by omega)
  clear hC
  obtain ⟨x, hx⟩ : ∃ x, gb xs (n - 1) = x := ⟨_, rfl⟩
  rw [hx]
  rw [hx] at hcell
  clear hx
  by_cases h9 : n = 10
  · have h10 : ((n : Int) - 1 == 9) = true := by simp; omega
    have h1n : 1 < n := by omega
    by_cases hx : 1 < x
    · rw [wrong_a h9 hx]
      clear h9
      go_enter Try.func65, Try.ntmps65
      go_wp2
      go_ret
      exact ⟨rfl, rfl⟩
    · by_cases hx0 : x = 0
      · rw [wrong_b (by omega) (by omega) hx0]
        have hx0' : (x == 0) = true := by simp [hx0]
        clear h9 hx0
        go_enter Try.func65, Try.ntmps65
        go_wp2
        go_ret
        exact ⟨rfl, rfl⟩
      · rw [wrong_c (by omega) (by omega)]
        have hx0' : (x == 0) = false := by simp [hx0]
        clear h9 hx0
        go_enter Try.func65, Try.ntmps65
        go_wp2
        go_ret
        exact ⟨rfl, rfl⟩
  · have h10 : ((n : Int) - 1 == 9) = false := by simp; omega
    by_cases h1 : 1 < n
    · by_cases hx0 : x = 0
      · rw [wrong_b (by omega) (by omega) hx0]
        have hx0' : (x == 0) = true := by simp [hx0]
        clear h9 hx0
        go_enter Try.func65, Try.ntmps65
        go_wp2
        go_ret
        exact ⟨rfl, rfl⟩
      · rw [wrong_c (by omega) (by omega)]
        have hx0' : (x == 0) = false := by simp [hx0]
        clear h9 hx0
        go_enter Try.func65, Try.ntmps65
        go_wp2
        go_ret
        exact ⟨rfl, rfl⟩
    · rw [wrong_c (by omega) (by omega)]
      clear h9
      go_enter Try.func65, Try.ntmps65
      go_wp2
      go_ret
      exact ⟨rfl, rfl⟩

set_option maxHeartbeats 400000 in
theorem value_calls (A : Option Addr) (n c : Nat) (xs : List Int) (w : World) (hC : (Kd.int .u8).C w A n xs) (hc : n ≤ c) (hb : ∀ x ∈ xs, 0 ≤ x ∧ x ≤ 255) (hv : val xs ≤ 18446744073709551615) :
    Calls Try.prog 66 #[.slice A n c] w fun e w' => e = .returned (.int .u64 (val xs)) ∧ w' = w := by
  have hm := Kd.C_max hC
  have HC := Hd.mk hC
  have HB := Hd.mk hb
  have HV := Hd.mk hv
  clear hC hb hv
  go_enter Try.func66, Try.ntmps66
  go_wp2
  go_loopg [3, 4] n (fun k v i w' => w' = w ∧ k ≤ n ∧ v = .int .u64 (val (xs.drop k)) ∧ i = .int .i64 ((k : Int) - 1))
  case atStart =>
    refine ⟨rfl, Nat.le_refl _, ?_, rfl⟩
    have := HC.out.1
    rw [List.drop_eq_nil_of_le (by omega)]
    rfl
  case round =>
    obtain ⟨rfl, hk, rfl, rfl⟩ := hrel
    rcases Nat.eq_zero_or_pos gk with rfl | hp
    · go_wp2
      go_ret
      exact ⟨rfl, rfl⟩
    · obtain ⟨k, rfl⟩ : ∃ k, gk = k + 1 := ⟨gk - 1, by omega⟩
      have hl : k < xs.length := by have := HC.out.1; omega
      obtain ⟨ad, hA, hcell⟩ := at_byte HC.out k (by omega)
      subst hA
      obtain ⟨hx0, hx1⟩ := gb_range HB.out k
      have hd := val_drop xs k hl
      have hle := Int.le_trans (val_drop_le xs k) HV.out
      have hnn := val_nonneg (xs.drop (k + 1))
      rw [show ((k + 1 : Nat) : Int) - 1 = k by omega]
      obtain ⟨x, ex⟩ : ∃ x, gb xs k = x := ⟨_, rfl⟩
      obtain ⟨y, ey⟩ : ∃ x, val (xs.drop (k + 1)) = x := ⟨_, rfl⟩
      rw [rd_gb, ex, ey] at hd
      rw [ex] at hx0 hx1 hcell
      rw [ey] at hnn
      rw [hd] at hle
      rw [ey]
      have HD := Hd.mk hd
      clear hd ex ey
      go_wp2
      go_roundg k
      case measure => omega
      case rel => exact ⟨rfl, by omega, by rw [HD.out, Int.add_comm, Int.mul_comm], rfl⟩

/-! ### Read (31) -/
def rdA (xs : List Int) : Nat → Nat → Int × Int × Int
  | 0, _ => (0, 0, 11)
  | k + 1, i => if wrongB (i + 1 : Nat) (gb xs i) ≠ 0 then (0, 0, wrongB (i + 1 : Nat) (gb xs i)) else if gb xs i < 128 then (val (xs.take (i + 1)), (i : Int) + 1, 0) else rdA xs k (i + 1)
/-- The number at the front of some bytes, how many bytes it has, the error. -/
def rdN (xs : List Int) : Int × Int × Int := rdA xs xs.length 0
def ret3 (r : Int × Int × Int) : Value := .tuple #[.int .u64 r.1, .int .i64 r.2.1, .int .i64 r.2.2]

theorem gb_take (xs : List Int) (i : Nat) (h : i < xs.length) : gb (xs.take (i + 1)) i = gb xs i := by
  unfold gb
  simp [List.getD_eq_getElem?_getD, List.getElem?_take]
theorem mem_take {xs : List Int} {p : Int → Prop} (h : ∀ x ∈ xs, p x) (i : Nat) : ∀ x ∈ xs.take i, p x := fun x hx => h x (List.mem_of_mem_take hx)

theorem val_lt : ∀ (xs : List Int), val xs < 128 ^ xs.length
  | [] => by simp [val]
  | x :: xs => by
    have := val_lt xs
    simp only [val, List.length_cons, Int.pow_succ]
    omega
theorem val_append : ∀ (xs : List Int) (y : Int), val (xs ++ [y]) = val xs + 128 ^ xs.length * (y % 128)
  | [], y => by simp [val]
  | x :: xs, y => by
    have := val_append xs y
    simp only [val, List.cons_append, this, List.length_cons, Int.pow_succ, Int.mul_add]
    rw [Int.mul_comm (128 ^ xs.length) 128, Int.mul_assoc]
    omega
theorem take_snoc' (xs : List Int) (i : Nat) (h : i < xs.length) : xs.take (i + 1) = xs.take i ++ [gb xs i] := by
  rw [List.take_succ_eq_append_getElem h]
  simp [gb, h]
theorem val_take_succ (xs : List Int) (i : Nat) (h : i < xs.length) : val (xs.take (i + 1)) = val (xs.take i) + 128 ^ i * (gb xs i % 128) := by
  rw [take_snoc' xs i h, val_append, List.length_take, Nat.min_eq_left (by omega)]
theorem pow_le9 {i : Nat} (h : i ≤ 9) : (128 : Int) ^ i ≤ 9223372036854775808 := by
  have : i = 0 ∨ i = 1 ∨ i = 2 ∨ i = 3 ∨ i = 4 ∨ i = 5 ∨ i = 6 ∨ i = 7 ∨ i = 8 ∨ i = 9 := by omega
  rcases this with rfl | rfl | rfl | rfl | rfl | rfl | rfl | rfl | rfl | rfl <;> decide
theorem val_fits (xs : List Int) (i : Nat) (h : i < xs.length) (h9 : i ≤ 9) (hw : wrongB (i + 1 : Nat) (gb xs i) = 0) (h0 : 0 ≤ gb xs i) : val (xs.take (i + 1)) ≤ 18446744073709551615 := by
  have h1 := val_lt (xs.take i)
  rw [List.length_take, Nat.min_eq_left (by omega)] at h1
  rw [val_take_succ xs i h]
  by_cases h : i = 9
  · subst h
    have : gb xs 9 ≤ 1 := by
      by_cases hx : 1 < gb xs 9
      · simp [wrongB, hx] at hw
      · omega
    have e : (128 : Int) ^ 9 = 9223372036854775808 := by decide
    rw [e] at h1 ⊢
    omega
  · have h8 : i = 0 ∨ i = 1 ∨ i = 2 ∨ i = 3 ∨ i = 4 ∨ i = 5 ∨ i = 6 ∨ i = 7 ∨ i = 8 := by omega
    have e : (128 : Int) ^ i ≤ 72057594037927936 := by
      rcases h8 with rfl | rfl | rfl | rfl | rfl | rfl | rfl | rfl | rfl <;> decide
    have hp : 0 < (128 : Int) ^ i := Int.pow_pos (by decide)
    have : (128 : Int) ^ i * (gb xs i % 128) ≤ 128 ^ i * 127 := Int.mul_le_mul_of_nonneg_left (by omega) (by omega)
    omega
theorem wrong9 {i : Nat} {x : Int} (h9 : i ≤ 9) (hw : wrongB (i + 1 : Nat) x = 0) (hx : ¬ x < 128) : i + 1 ≤ 9 := by
  by_cases h : i = 9
  · subst h
    have : 1 < x := by omega
    simp [wrongB, this] at hw
  · omega

set_option maxHeartbeats 1000000 in
theorem read_calls (A : Option Addr) (n c : Nat) (xs : List Int) (w : World) (hC : (Kd.int .u8).C w A n xs) (hc : n ≤ c) (hb : ∀ x ∈ xs, 0 ≤ x ∧ x ≤ 255) :
    Calls Try.prog 55 #[.slice A n c] w fun e w' => e = .returned (ret3 (rdN xs)) ∧ w' = w := by
  have hm := Kd.C_max hC
  have HC := Hd.mk hC
  have HB := Hd.mk hb
  clear hC hb
  have HR : Hd (rdA xs n 0 = rdN xs) := ⟨by rw [rdN, HC.out.1]⟩
  go_enter Try.func55, Try.ntmps55
  go_wp2
  go_loopg [5] n (fun k i w' => w' = w ∧ ∃ j : Nat, i = .int .i64 j ∧ j + k = n ∧ j ≤ 9 ∧ Hd (rdA xs k j = rdN xs))
  case atStart => exact ⟨rfl, 0, rfl, by omega, by omega, HR⟩
  case round =>
    clear HR
    obtain ⟨rfl, j, rfl, hj, h9, HR⟩ := hrel
    rcases Nat.eq_zero_or_pos gk with rfl | hp
    · go_wp2
      go_ret3
      exact ⟨by rw [← HR.out]; rfl, rfl⟩
    · obtain ⟨k, rfl⟩ : ∃ k, gk = k + 1 := ⟨gk - 1, by omega⟩
      have hl : j < xs.length := by have := HC.out.1; omega
      obtain ⟨ad, hA, hcell⟩ := at_byte HC.out j (by omega)
      subst hA
      have HT := Hd.mk (C_pre HC.out (j + 1) (by omega))
      have HG := Hd.mk (gb_take xs j hl)
      have hr := HR.out
      rw [rdA] at hr
      obtain ⟨x, ex⟩ : ∃ x, gb xs j = x := ⟨_, rfl⟩
      rw [ex] at hr hcell
      have EX := Hd.mk ex
      obtain ⟨e, he⟩ : ∃ e, wrongB (j + 1 : Nat) x = e := ⟨_, rfl⟩
      rw [he] at hr
      have HE := Hd.mk he
      have HEg : Hd (wrongB (j + 1 : Nat) (gb (xs.take (j + 1)) (j + 1 - 1)) = e) := ⟨by rw [Nat.add_sub_cancel, HG.out, EX.out, HE.out]⟩
      clear ex he HR
      by_cases hw : e = 0
      · subst hw
        rw [if_neg (by simp)] at hr
        by_cases hx : x < 128
        · rw [if_pos hx] at hr
          have HR := Hd.mk hr
          clear hr
          go_wp2_with (first
            | (go_at_call 65; refine (wrong_calls _ (j + 1) _ (xs.take (j + 1)) _ HT.out (by omega) (by omega)).mono ?_; rw [HEg.out]; rintro e w' ⟨rfl, rfl⟩)
            | (go_at_call 66; refine (value_calls _ (j + 1) _ (xs.take (j + 1)) _ HT.out (by omega) (mem_take HB.out _) (val_fits xs j hl h9 (by rw [EX.out]; exact HE.out) (gb_range HB.out j).1)).mono ?_; rintro e w' ⟨rfl, rfl⟩))
          go_ret3
          exact ⟨by rw [← HR.out]; rfl, rfl⟩
        · rw [if_neg hx] at hr
          have HR := Hd.mk hr
          have h9' := wrong9 h9 HE.out hx
          clear hr
          go_wp2_with (first
            | (go_at_call 65; refine (wrong_calls _ (j + 1) _ (xs.take (j + 1)) _ HT.out (by omega) (by omega)).mono ?_; rw [HEg.out]; rintro e w' ⟨rfl, rfl⟩))
          go_roundg k
          case measure => omega
          case rel => exact ⟨rfl, j + 1, by go_num, by omega, by omega, HR⟩
      · have hw' : (e == 0) = false := by simp [hw]
        rw [if_pos hw] at hr
        have HR := Hd.mk hr
        clear hr hw
        go_wp2_with (first
            | (go_at_call 65; refine (wrong_calls _ (j + 1) _ (xs.take (j + 1)) _ HT.out (by omega) (by omega)).mono ?_; rw [HEg.out]; rintro e w' ⟨rfl, rfl⟩))
        go_ret3
        exact ⟨by rw [← HR.out]; rfl, rfl⟩
end Go.Proofs.Ytinlfoblpgpikaa
