/- crc: the walk of CrcZeros. -/
import Derived.Test.YtelmkcbakeccoaaBz
import Derived.Test.YtelmkcbakeccoaaMk
namespace Go.Proofs.Ytelmkcbakeccoaa
open Go.RowKit Go.Proofs.YtelmkcbakeccoaaW.PrintWords Go.Proofs.YtelmkcbakeccoaaW.PrintLast Go.Proofs.YtelmkcbakeccoaaW.PrintMore
set_option linter.unusedVariables false
set_option linter.unusedSimpArgs false
set_option maxHeartbeats 2000000 in
theorem walk_crcZeros (a0 a1 : Int) (w : World) (w0 : (Lit.int .u32 a0).wf = true) (w1 : (Lit.int .i64 a1).wf = true) :
    Calls Try.prog 12 #[.int .u32 a0, .int .i64 a1] w fun e w' => e = .returned (.bool true) ∧ Below w.heap.size w w' := by
  obtain ⟨b0, b1⟩ := bounds_u32 w0
  obtain ⟨c0, c1⟩ := bounds_i64 w1
  obtain ⟨x, rfl⟩ := exists_W a0 b0 b1
  clear w0 w1 b0 b1
  by_cases hn : a1 < 0
  · go_enter Try.func12, Try.ntmps12
    go_wp2_with (first
      | (go_at_call 32; go_must (refine (zeros_neg _ _ hn _).mono ?_); rintro e w' ⟨rfl, rfl⟩)
      | (go_at_call 33; go_must (refine (rzeros_neg _ _ hn _).mono ?_); rintro e w' ⟨rfl, rfl⟩)
      | (go_at_call 20; go_must (refine (num_calls _ _).mono ?_); rintro e w' ⟨rfl, rfl⟩))
    go_ret
    exact ⟨rfl, Below.refl _ _⟩
  · obtain ⟨n, rfl⟩ : ∃ n : Nat, a1 = n := ⟨a1.toNat, by omega⟩
    by_cases hb : 5000 < (n : Int)
    · go_enter Try.func12, Try.ntmps12
      go_wp2_with (first
        | (go_at_call 32; go_must (refine (zeros_ok _ n (by omega) _).mono ?_); rintro e w' ⟨rfl, rfl⟩)
        | (go_at_call 33; go_must (refine (rzeros_ok _ n (by omega) _).mono ?_); rintro e w' ⟨rfl, rfl⟩)
        | (go_at_call 20; go_must (refine (num_calls _ _).mono ?_); rintro e w' ⟨rfl, rfl⟩))
      go_ret
      exact ⟨rfl, Below.refl _ _⟩
    · have HZ := Hd.mk (runB_zeros n (~~~ x))
      go_enter Try.func12, Try.ntmps12
      go_wp2_with (first
        | (go_at_call 32; go_must (refine (zeros_ok _ n (by omega) _).mono ?_); rintro e w' ⟨rfl, rfl⟩)
        | (go_at_call 33; go_must (refine (rzeros_ok _ n (by omega) _).mono ?_); rintro e w' ⟨rfl, rfl⟩)
        | (go_at_call 20; go_must (refine (num_calls _ _).mono ?_); rintro e w' ⟨rfl, rfl⟩)
        | (at_make; go_must (refine wpList_makeB rfl _ _ rfl n rfl rfl (by omega) ?_); intro w2 h1 h2 h3)
        | (go_at_call 17; go_must (refine (more_calls _ _ _ _ _ _ h2.out.C h2.out.hc h2.out.hr).mono ?_); rw [HZ.out]; rintro e w' ⟨rfl, h4⟩; have H4 := Hd.mk h4; clear h4))
      go_ret
      exact ⟨rfl, h3.out.trans (H4.out.mono h3.out.size)⟩
end Go.Proofs.Ytelmkcbakeccoaa
