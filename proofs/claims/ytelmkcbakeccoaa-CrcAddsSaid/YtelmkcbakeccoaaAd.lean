/- crc: the walk of CrcAdds. -/
import Derived.Test.YtelmkcbakeccoaaSm
namespace Go.Proofs.Ytelmkcbakeccoaa
open Go.RowKit Go.Proofs.YtelmkcbakeccoaaW.PrintWords Go.Proofs.YtelmkcbakeccoaaW.PrintLast Go.Proofs.YtelmkcbakeccoaaW.PrintMore
set_option linter.unusedVariables false
set_option linter.unusedSimpArgs false
theorem adds_eq (c : R) (m n : Nat) : ~~~ Sn (8 * n) (~~~ ~~~ Sn (8 * m) (~~~ c)) = ~~~ Sn (8 * (m + n)) (~~~ c) := by
  rw [BitVec.not_not, ← Sn_add, Nat.mul_add, Nat.add_comm]
set_option maxHeartbeats 2000000 in
theorem walk_crcAdds (a0 a1 a2 : Int) (w : World) (w0 : (Lit.int .u32 a0).wf = true) (w1 : (Lit.int .i64 a1).wf = true) (w2 : (Lit.int .i64 a2).wf = true) :
    Calls Try.prog 14 #[.int .u32 a0, .int .i64 a1, .int .i64 a2] w fun e w' => e = .returned (.bool true) ∧ Below w.heap.size w w' := by
  obtain ⟨b0, b1⟩ := bounds_u32 w0
  obtain ⟨c0, c1⟩ := bounds_i64 w1
  obtain ⟨d0, d1⟩ := bounds_i64 w2
  obtain ⟨x, rfl⟩ := exists_W a0 b0 b1
  clear w0 w1 w2 b0 b1
  by_cases hm : a1 < 0
  · go_enter Try.func14, Try.ntmps14
    go_wp2_with (first | (go_at_call 21; go_must (refine (awake_calls _).mono ?_); rintro e w1 ⟨rfl, h1⟩; have H1 := Hd.mk h1; clear h1))
    go_ret
    exact ⟨rfl, H1.out⟩
  by_cases hn : a2 < 0
  · go_enter Try.func14, Try.ntmps14
    go_wp2_with (first | (go_at_call 21; go_must (refine (awake_calls _).mono ?_); rintro e w1 ⟨rfl, h1⟩; have H1 := Hd.mk h1; clear h1))
    go_ret
    exact ⟨rfl, H1.out⟩
  by_cases hs : a1 > 9223372036854775807 - a2
  · go_enter Try.func14, Try.ntmps14
    go_wp2_with (first | (go_at_call 21; go_must (refine (awake_calls _).mono ?_); rintro e w1 ⟨rfl, h1⟩; have H1 := Hd.mk h1; clear h1))
    go_ret
    exact ⟨rfl, H1.out⟩
  obtain ⟨m, rfl⟩ : ∃ m : Nat, a1 = m := ⟨a1.toNat, by omega⟩
  obtain ⟨n, rfl⟩ : ∃ n : Nat, a2 = n := ⟨a2.toNat, by omega⟩
  have hE := adds_eq x m n
  have hz := zeros_ok x (m + n) (by omega)
  rw [← hE, Int.natCast_add] at hz
  have HZ := Hd.mk hz
  clear hE hz
  go_enter Try.func14, Try.ntmps14
  go_wp2_with (first | (go_at_call 21; go_must (refine (awake_calls _).mono ?_); rintro e w1 ⟨rfl, h1⟩; have H1 := Hd.mk h1; clear h1) | fail)
  go_at_call 32
  refine (zeros_ok _ m (by omega) _).mono ?_
  rintro e w2 ⟨rfl, rfl⟩
  go_wp2_with fail
  go_at_call 32
  refine (zeros_ok _ n (by omega) _).mono ?_
  rintro e w3 ⟨rfl, rfl⟩
  go_wp2_with fail
  go_at_call 32
  refine (HZ.out _).mono ?_
  rintro e w4 ⟨rfl, rfl⟩
  go_wp2
  go_ret
  exact ⟨rfl, H1.out⟩
end Go.Proofs.Ytelmkcbakeccoaa
