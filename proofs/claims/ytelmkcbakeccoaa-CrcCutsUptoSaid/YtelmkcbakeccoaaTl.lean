/- crc: Tail of both; the walk of CrcTails. -/
import Derived.Test.YtelmkcbakeccoaaBz
import Derived.Test.YtelmkcbakeccoaaMk
namespace Go.Proofs.Ytelmkcbakeccoaa
open Go.RowKit Go.Proofs.YtelmkcbakeccoaaW.PrintWords Go.Proofs.YtelmkcbakeccoaaW.PrintLast Go.Proofs.YtelmkcbakeccoaaW.PrintMore
set_option linter.unusedVariables false
set_option linter.unusedSimpArgs false
def byteW (r : R) (k : Nat) : Int := W r / 2 ^ k % 256
theorem top_of (a : R) : (bits .and .u32 (W a) 2147483648 != 0) = a.getLsbD 31 := by
  have := top_bit a 0 (by omega)
  rw [Int.pow_zero, Int.mul_one, Int.emod_eq_of_lt (W_bd a).1 (by have := (W_bd a).2; omega)] at this
  exact this
def tailV (r : R) : Value := .agg #[.int .u8 (W r % 256), .int .u8 (W r / 256 % 256), .int .u8 (W r / 65536 % 256), .int .u8 (W r / 16777216 % 256)]
def four0 : Obj := .cells #[.int .u8 0, .int .u8 0, .int .u8 0, .int .u8 0] 47
theorem tail_end (c y : R) : bits .xor .u32 (W y) (bits .xor .u32 IntKind.u32.max (W c)) = W (y ^^^ ~~~ c) := by rw [W_not, W_xor]
theorem back_step0 (r : R) (h : r.getLsbD 31 = false) : W (back r) = W r * 2 % 4294967296 := by
  unfold back; rw [h, if_neg (by simp), W_shl1]
theorem back_step1 (r : R) (h : r.getLsbD 31 = true) : W (back r) = bits .or .u32 (bits .xor .u32 (W r) 3988292384 * 2 % 4294967296) 1 := by
  unfold back; rw [h, if_pos rfl, show (3988292384 : Int) = W G by decide, W_xor, W_shl1, show (1 : Int) = W 1#32 by decide, W_or]
theorem backN_succ : ∀ (n : Nat) (r : R), backN (n + 1) r = back (backN n r)
  | 0, _ => rfl
  | n + 1, r => backN_succ n (back r)

set_option maxHeartbeats 1000000 in
theorem tail_calls (c want : R) (w : World) : Calls Try.prog 28 #[.int .u32 (W c), .int .u32 (W want)] w fun e w' => e = .returned (tailV (backN 32 (~~~ want) ^^^ ~~~ c)) ∧ Below w.heap.size w w' := by
  have hB := W_bd (~~~ want)
  have hb0 : Below w.heap.size w (w.alloc (.cells #[.int .u8 0, .int .u8 0, .int .u8 0, .int .u8 0] 47)) := (Below.refl _ _).alloc (Nat.le_refl _) _
  have HB0 := Hd.mk hb0
  clear hb0
  go_enter Try.func28, Try.ntmps28
  go_wp2
  go_loopg [5, 8] 32 (fun k u y w' => w' = w.alloc (.cells #[.int .u8 0, .int .u8 0, .int .u8 0, .int .u8 0] 47) ∧ ∃ j : Nat, y = .int .i64 j ∧ j + k = 32 ∧ u = .int .u32 (W (backN j (~~~ want))))
  case atStart => exact ⟨rfl, 0, rfl, by omega, by rw [W_not]; rfl⟩
  case round =>
    obtain ⟨rfl, j, rfl, hj, rfl⟩ := hrel
    rcases Nat.eq_zero_or_pos gk with rfl | hp
    · obtain rfl : j = 32 := by omega
      go_wp2
      (try simp only [Exit.inBlock, Exit.then])
      rw [tail_end]
      obtain ⟨y, ey⟩ : ∃ y, backN 32 (~~~ want) ^^^ ~~~ c = y := ⟨_, rfl⟩
      rw [ey]
      refine bodyPost_ret (results_cell_row rfl _ _ w.heap.size 47 #[.int .u8 (W y % 256), .int .u8 (W y / 256 % 256), .int .u8 (W y / 65536 % 256), .int .u8 (W y / 16777216 % 256)] (0, 0) _ rfl ?_ Try.underlying47 rfl (by kernel_rfl)) rfl ?_
      · exact blk_new w _
      · exact ⟨rfl, (Below.refl _ _).alloc (Nat.le_refl _) _⟩
    · obtain ⟨k, rfl⟩ : ∃ k, gk = k + 1 := ⟨gk - 1, by omega⟩
      have ht := top_of (backN j (~~~ want))
      cases ha : (backN j (~~~ want)).getLsbD 31
      all_goals
        rw [ha] at ht
        have HA := Hd.mk ha
        clear ha
        go_wp2
        go_roundg k
        case measure => omega
        case rel =>
          refine ⟨rfl, j + 1, by go_num, by omega, ?_⟩
          rw [backN_succ]
          first | rw [back_step0 _ HA.out] | rw [back_step1 _ HA.out]

set_option maxHeartbeats 1000000 in
theorem rtail_calls (c want : R) (w : World) : Calls Try.prog 29 #[.int .u32 (W c), .int .u32 (W want)] w fun e w' => e = .returned (tailV (backN 32 (~~~ want) ^^^ ~~~ c)) ∧ Below w.heap.size w w' := by
  have hB := W_bd (~~~ want)
  have hb0 : Below w.heap.size w (w.alloc (.cells #[.int .u8 0, .int .u8 0, .int .u8 0, .int .u8 0] 47)) := (Below.refl _ _).alloc (Nat.le_refl _) _
  have HB0 := Hd.mk hb0
  clear hb0
  go_enter Try.func29, Try.ntmps29
  go_wp2
  go_loopg [5, 6] 32 (fun k u y w' => w' = w.alloc (.cells #[.int .u8 0, .int .u8 0, .int .u8 0, .int .u8 0] 47) ∧ ∃ j : Nat, y = .int .i64 j ∧ j + k = 32 ∧ u = .int .u32 (W (backN j (~~~ want))))
  case atStart => exact ⟨rfl, 0, rfl, by omega, by rw [W_not]; rfl⟩
  case round =>
    obtain ⟨rfl, j, rfl, hj, rfl⟩ := hrel
    rcases Nat.eq_zero_or_pos gk with rfl | hp
    · obtain rfl : j = 32 := by omega
      go_wp2
      (try simp only [Exit.inBlock, Exit.then])
      rw [tail_end]
      obtain ⟨y, ey⟩ : ∃ y, backN 32 (~~~ want) ^^^ ~~~ c = y := ⟨_, rfl⟩
      rw [ey]
      refine bodyPost_ret (results_cell_row rfl _ _ w.heap.size 47 #[.int .u8 (W y % 256), .int .u8 (W y / 256 % 256), .int .u8 (W y / 65536 % 256), .int .u8 (W y / 16777216 % 256)] (0, 0) _ rfl ?_ Try.underlying47 rfl (by kernel_rfl)) rfl ?_
      · exact blk_new w _
      · exact ⟨rfl, (Below.refl _ _).alloc (Nat.le_refl _) _⟩
    · obtain ⟨k, rfl⟩ : ∃ k, gk = k + 1 := ⟨gk - 1, by omega⟩
      have ht := top_of (backN j (~~~ want))
      cases ha : (backN j (~~~ want)).getLsbD 31
      all_goals
        rw [ha] at ht
        have HA := Hd.mk ha
        clear ha
        go_wp2
        go_roundg k
        case measure => omega
        case rel =>
          refine ⟨rfl, j + 1, by go_num, by omega, ?_⟩
          rw [backN_succ]
          first | rw [back_step0 _ HA.out] | rw [back_step1 _ HA.out]
end Go.Proofs.Ytelmkcbakeccoaa
