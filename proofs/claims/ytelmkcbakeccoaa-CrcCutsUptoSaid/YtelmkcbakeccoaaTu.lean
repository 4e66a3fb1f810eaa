/- crc: Turned of both. -/
import Derived.Test.YtelmkcbakeccoaaSm
namespace Go.Proofs.Ytelmkcbakeccoaa
open Go.RowKit Go.Proofs.YtelmkcbakeccoaaW.PrintWords Go.Proofs.YtelmkcbakeccoaaW.PrintLast Go.Proofs.YtelmkcbakeccoaaW.PrintMore
set_option linter.unusedVariables false
set_option linter.unusedSimpArgs false
theorem run_zero_W : W (0#32 : R) = 0 := by decide

set_option maxHeartbeats 400000 in
theorem turned_neg (c : R) (s a m : Int) (hs : s < 0) (w : World) : Calls Try.prog 34 #[.int .u32 (W c), .int .i64 s, .int .i64 a, .int .u8 m] w fun e w' => e = .returned (.tuple #[.int .u32 0, .int .i64 1]) ∧ Below w.heap.size w w' := by
  go_enter Try.func34, Try.ntmps34
  go_wp2
  go_ret2
  exact ⟨rfl, Below.refl _ _⟩
set_option maxHeartbeats 400000 in
theorem turned_out (c : R) (s a m : Int) (hs : ¬ s < 0) (ha : a < 0 ∨ s ≤ a) (w : World) : Calls Try.prog 34 #[.int .u32 (W c), .int .i64 s, .int .i64 a, .int .u8 m] w fun e w' => e = .returned (.tuple #[.int .u32 0, .int .i64 20]) ∧ Below w.heap.size w w' := by
  by_cases h0 : a < 0
  · clear ha
    go_enter Try.func34, Try.ntmps34
    go_wp2
    go_ret2
    exact ⟨rfl, Below.refl _ _⟩
  · have h1 : s ≤ a := by omega
    clear ha
    go_enter Try.func34, Try.ntmps34
    go_wp2
    go_ret2
    exact ⟨rfl, Below.refl _ _⟩
set_option maxHeartbeats 1000000 in
theorem turned_ok (c : R) (s i : Nat) (m : Int) (hi : i < s) (hs : (s : Int) ≤ 9223372036854775807) (m0 : 0 ≤ m) (m1 : m ≤ 255) (w : World) : Calls Try.prog 34 #[.int .u32 (W c), .int .i64 s, .int .i64 i, .int .u8 m] w fun e w' => e = .returned (.tuple #[.int .u32 (W (c ^^^ Sn (8 * (s - 1 - i)) (runB 0#32 [m]))), .int .i64 0]) ∧ Below w.heap.size w w' := by
  have HB := Hd.mk (bs_lit w [m] 1 5 rfl (by intro x hx; simp at hx; omega) (by omega))
  have HW := Hd.mk ((Below.refl w.heap.size w).alloc (Nat.le_refl _) (.cells #[.int .u8 m] 5))
  have HR := Hd.mk (show ∀ x ∈ [m], 0 ≤ x ∧ x ≤ 255 by intro x hx; simp at hx; omega)
  obtain ⟨q, eq⟩ : ∃ q : Nat, s - 1 - i = q := ⟨_, rfl⟩
  rw [eq]
  obtain ⟨r, er⟩ : ∃ r, runB 0#32 [m] = r := ⟨_, rfl⟩
  have hb := through_calls 0#32 (some ⟨w.heap.size, 0, none⟩) 1 1 [m] (w.alloc (.cells #[.int .u8 m] 5)) HB.out.C (by omega) HR.out
  rw [er, run_zero_W] at hb
  rw [er]
  have HC := Hd.mk hb
  have hz : (s : Int) - 1 - i = q := by omega
  have hpw := power_calls q (by omega)
  rw [← hz] at hpw
  have HPW := Hd.mk hpw
  clear hb er hpw hz eq
  go_enter Try.func34, Try.ntmps34
  go_wp2_with fail
  go_at_call 36
  refine HC.out.mono ?_
  rintro e w1 ⟨rfl, h1⟩
  have H1 := Hd.mk h1
  clear h1
  go_wp2_with fail
  go_at_call 39
  refine (HPW.out _).mono ?_
  rintro e w2 ⟨rfl, rfl⟩
  go_wp2_with fail
  go_at_call 38
  refine (times_calls _ _ _).mono ?_
  rintro e w3 ⟨rfl, rfl⟩
  rw [X_mul]
  go_wp2
  go_ret2
  exact ⟨by rw [← W_xor]; rfl, below_step HW.out H1.out⟩

set_option maxHeartbeats 400000 in
theorem rturned_neg (c : R) (s a m : Int) (hs : s < 0) (w : World) : Calls Try.prog 35 #[.int .u32 (W c), .int .i64 s, .int .i64 a, .int .u8 m] w fun e w' => e = .returned (.tuple #[.int .u32 0, .int .i64 1]) ∧ Below w.heap.size w w' := by
  go_enter Try.func35, Try.ntmps35
  go_wp2
  go_ret2
  exact ⟨rfl, Below.refl _ _⟩
set_option maxHeartbeats 400000 in
theorem rturned_out (c : R) (s a m : Int) (hs : ¬ s < 0) (ha : a < 0 ∨ s ≤ a) (w : World) : Calls Try.prog 35 #[.int .u32 (W c), .int .i64 s, .int .i64 a, .int .u8 m] w fun e w' => e = .returned (.tuple #[.int .u32 0, .int .i64 20]) ∧ Below w.heap.size w w' := by
  by_cases h0 : a < 0
  · clear ha
    go_enter Try.func35, Try.ntmps35
    go_wp2
    go_ret2
    exact ⟨rfl, Below.refl _ _⟩
  · have h1 : s ≤ a := by omega
    clear ha
    go_enter Try.func35, Try.ntmps35
    go_wp2
    go_ret2
    exact ⟨rfl, Below.refl _ _⟩
set_option maxHeartbeats 1000000 in
theorem rturned_ok (c : R) (s i : Nat) (m : Int) (hi : i < s) (hs : (s : Int) ≤ 9223372036854775807) (m0 : 0 ≤ m) (m1 : m ≤ 255) (w : World) : Calls Try.prog 35 #[.int .u32 (W c), .int .i64 s, .int .i64 i, .int .u8 m] w fun e w' => e = .returned (.tuple #[.int .u32 (W (c ^^^ Sn (8 * (s - 1 - i)) (runB 0#32 [m]))), .int .i64 0]) ∧ Below w.heap.size w w' := by
  have HB := Hd.mk (bs_lit w [m] 1 5 rfl (by intro x hx; simp at hx; omega) (by omega))
  have HW := Hd.mk ((Below.refl w.heap.size w).alloc (Nat.le_refl _) (.cells #[.int .u8 m] 5))
  have HR := Hd.mk (show ∀ x ∈ [m], 0 ≤ x ∧ x ≤ 255 by intro x hx; simp at hx; omega)
  obtain ⟨q, eq⟩ : ∃ q : Nat, s - 1 - i = q := ⟨_, rfl⟩
  rw [eq]
  obtain ⟨r, er⟩ : ∃ r, runB 0#32 [m] = r := ⟨_, rfl⟩
  have hb := rrun_calls 0#32 (some ⟨w.heap.size, 0, none⟩) 1 1 [m] (w.alloc (.cells #[.int .u8 m] 5)) HB.out.C (by omega) HR.out
  rw [er, run_zero_W] at hb
  rw [er]
  have HC := Hd.mk hb
  have hz : (s : Int) - 1 - i = q := by omega
  have hpw := rpower_calls q (by omega)
  rw [← hz] at hpw
  have HPW := Hd.mk hpw
  clear hb er hpw hz eq
  go_enter Try.func35, Try.ntmps35
  go_wp2_with fail
  go_at_call 37
  refine HC.out.mono ?_
  rintro e w1 ⟨rfl, h1⟩
  subst h1
  skip
  go_wp2_with fail
  go_at_call 41
  refine (HPW.out _).mono ?_
  rintro e w2 ⟨rfl, rfl⟩
  go_wp2_with fail
  go_at_call 40
  refine (rtimes_calls _ _ _).mono ?_
  rintro e w3 ⟨rfl, rfl⟩
  rw [mul_X]
  go_wp2
  go_ret2
  exact ⟨by rw [← W_xor]; rfl, HW.out⟩
end Go.Proofs.Ytelmkcbakeccoaa
