/- crc: Join, Zeros of both; num; the walk of CrcJoins. -/
import Derived.Test.YtelmkcbakeccoaaCt
import Derived.Deep.DeepMust
import Derived.OpenShut
namespace Go.Proofs.Ytelmkcbakeccoaa
open Go.RowKit Go.Proofs.YtelmkcbakeccoaaW.PrintWords Go.Proofs.YtelmkcbakeccoaaW.PrintLast Go.Proofs.YtelmkcbakeccoaaW.PrintMore
set_option linter.unusedVariables false
set_option linter.unusedSimpArgs false

set_option maxHeartbeats 400000 in
theorem num_calls (e : Int) (w : World) : Calls Try.prog 20 #[.int .i64 e] w fun x w' => x = .returned (.int .i64 e) ∧ w' = w := by
  go_enter Try.func20, Try.ntmps20
  go_wp2
  go_ret
  exact ⟨rfl, rfl⟩

set_option maxHeartbeats 400000 in
theorem join_neg (a b : R) (n : Int) (hn : n < 0) (w : World) : Calls Try.prog 30 #[.int .u32 (W a), .int .u32 (W b), .int .i64 n] w fun e w' => e = .returned (.tuple #[.int .u32 0, .int .i64 1]) ∧ w' = w := by
  go_enter Try.func30, Try.ntmps30
  go_wp2
  go_ret2
  exact ⟨rfl, rfl⟩
set_option maxHeartbeats 400000 in
theorem join_ok (a b : R) (n : Nat) (hn : (n : Int) ≤ 9223372036854775807) (w : World) : Calls Try.prog 30 #[.int .u32 (W a), .int .u32 (W b), .int .i64 n] w fun e w' => e = .returned (.tuple #[.int .u32 (W (Sn (8 * n) a ^^^ b)), .int .i64 0]) ∧ w' = w := by
  go_enter Try.func30, Try.ntmps30
  go_wp2_with fail
  go_at_call 39
  refine (power_calls _ hn _).mono ?_
  rintro e w' ⟨rfl, rfl⟩
  go_wp2_with fail
  go_at_call 38
  refine (times_calls _ _ _).mono ?_
  rintro e w' ⟨rfl, rfl⟩
  rw [X_mul]
  go_wp2
  go_ret2
  exact ⟨by rw [← W_xor]; rfl, rfl⟩

set_option maxHeartbeats 400000 in
theorem zeros_neg (a : R) (n : Int) (hn : n < 0) (w : World) : Calls Try.prog 32 #[.int .u32 (W a), .int .i64 n] w fun e w' => e = .returned (.tuple #[.int .u32 0, .int .i64 1]) ∧ w' = w := by
  go_enter Try.func32, Try.ntmps32
  go_wp2
  go_ret2
  exact ⟨rfl, rfl⟩
set_option maxHeartbeats 400000 in
theorem zeros_ok (a : R) (n : Nat) (hn : (n : Int) ≤ 9223372036854775807) (w : World) : Calls Try.prog 32 #[.int .u32 (W a), .int .i64 n] w fun e w' => e = .returned (.tuple #[.int .u32 (W (~~~ Sn (8 * n) (~~~ a))), .int .i64 0]) ∧ w' = w := by
  go_enter Try.func32, Try.ntmps32
  go_wp2_with fail
  go_at_call 39
  refine (power_calls _ hn _).mono ?_
  rintro e w' ⟨rfl, rfl⟩
  go_wp2_with fail
  go_at_call 38
  rw [W_not]
  refine (times_calls _ _ _).mono ?_
  rintro e w' ⟨rfl, rfl⟩
  rw [X_mul]
  go_wp2
  go_ret2
  exact ⟨by rw [W_not]; rfl, rfl⟩

set_option maxHeartbeats 400000 in
theorem rjoin_neg (a b : R) (n : Int) (hn : n < 0) (w : World) : Calls Try.prog 31 #[.int .u32 (W a), .int .u32 (W b), .int .i64 n] w fun e w' => e = .returned (.tuple #[.int .u32 0, .int .i64 1]) ∧ w' = w := by
  go_enter Try.func31, Try.ntmps31
  go_wp2
  go_ret2
  exact ⟨rfl, rfl⟩
set_option maxHeartbeats 400000 in
theorem rjoin_ok (a b : R) (n : Nat) (hn : (n : Int) ≤ 9223372036854775807) (w : World) : Calls Try.prog 31 #[.int .u32 (W a), .int .u32 (W b), .int .i64 n] w fun e w' => e = .returned (.tuple #[.int .u32 (W (Sn (8 * n) a ^^^ b)), .int .i64 0]) ∧ w' = w := by
  go_enter Try.func31, Try.ntmps31
  go_wp2_with fail
  go_at_call 41
  refine (rpower_calls _ hn _).mono ?_
  rintro e w' ⟨rfl, rfl⟩
  go_wp2_with fail
  go_at_call 40
  refine (rtimes_calls _ _ _).mono ?_
  rintro e w' ⟨rfl, rfl⟩
  rw [mul_X]
  go_wp2
  go_ret2
  exact ⟨by rw [← W_xor]; rfl, rfl⟩

set_option maxHeartbeats 400000 in
theorem rzeros_neg (a : R) (n : Int) (hn : n < 0) (w : World) : Calls Try.prog 33 #[.int .u32 (W a), .int .i64 n] w fun e w' => e = .returned (.tuple #[.int .u32 0, .int .i64 1]) ∧ w' = w := by
  go_enter Try.func33, Try.ntmps33
  go_wp2
  go_ret2
  exact ⟨rfl, rfl⟩
set_option maxHeartbeats 400000 in
theorem rzeros_ok (a : R) (n : Nat) (hn : (n : Int) ≤ 9223372036854775807) (w : World) : Calls Try.prog 33 #[.int .u32 (W a), .int .i64 n] w fun e w' => e = .returned (.tuple #[.int .u32 (W (~~~ Sn (8 * n) (~~~ a))), .int .i64 0]) ∧ w' = w := by
  go_enter Try.func33, Try.ntmps33
  go_wp2_with fail
  go_at_call 41
  refine (rpower_calls _ hn _).mono ?_
  rintro e w' ⟨rfl, rfl⟩
  go_wp2_with fail
  go_at_call 40
  rw [W_not]
  refine (rtimes_calls _ _ _).mono ?_
  rintro e w' ⟨rfl, rfl⟩
  rw [mul_X]
  go_wp2
  go_ret2
  exact ⟨by rw [W_not]; rfl, rfl⟩

set_option maxHeartbeats 1000000 in
theorem walk_crcJoins (a0 a1 a2 : Int) (w : World) (w0 : (Lit.int .u32 a0).wf = true) (w1 : (Lit.int .u32 a1).wf = true) (w2 : (Lit.int .i64 a2).wf = true) :
    Calls Try.prog 11 #[.int .u32 a0, .int .u32 a1, .int .i64 a2] w fun e w' => e = .returned (.bool true) ∧ Below w.heap.size w w' := by
  obtain ⟨b0, b1⟩ := bounds_u32 w0
  obtain ⟨c0, c1⟩ := bounds_u32 w1
  obtain ⟨d0, d1⟩ := bounds_i64 w2
  obtain ⟨x, rfl⟩ := exists_W a0 b0 b1
  obtain ⟨y, rfl⟩ := exists_W a1 c0 c1
  clear w0 w1 b0 b1 c0 c1
  by_cases hn : a2 < 0
  · go_enter Try.func11, Try.ntmps11
    go_wp2_with fail
    go_at_call 30
    refine (join_neg _ _ _ hn _).mono ?_
    rintro e w' ⟨rfl, rfl⟩
    go_wp2_with fail
    go_at_call 31
    refine (rjoin_neg _ _ _ hn _).mono ?_
    rintro e w' ⟨rfl, rfl⟩
    go_wp2_with (go_at_call 20; go_must (refine (num_calls _ _).mono ?_); rintro e w' ⟨rfl, rfl⟩)
    go_ret
    exact ⟨rfl, Below.refl _ _⟩
  · obtain ⟨n, rfl⟩ : ∃ n : Nat, a2 = n := ⟨a2.toNat, by omega⟩
    go_enter Try.func11, Try.ntmps11
    go_wp2_with fail
    go_at_call 30
    refine (join_ok _ _ n (by omega) _).mono ?_
    rintro e w' ⟨rfl, rfl⟩
    go_wp2_with fail
    go_at_call 31
    refine (rjoin_ok _ _ n (by omega) _).mono ?_
    rintro e w' ⟨rfl, rfl⟩
    go_wp2_with (go_at_call 20; go_must (refine (num_calls _ _).mono ?_); rintro e w' ⟨rfl, rfl⟩)
    go_ret
    exact ⟨rfl, Below.refl _ _⟩
end Go.Proofs.Ytelmkcbakeccoaa
