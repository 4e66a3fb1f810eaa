/- crc: the walk of CrcMores. -/
import Derived.Test.YtelmkcbakeccoaaBz
import Derived.Test.YtelmkcbakeccoaaOb
namespace Go.Proofs.Ytelmkcbakeccoaa
open Go.RowKit Go.Proofs.YtelmkcbakeccoaaW.PrintWords Go.Proofs.YtelmkcbakeccoaaW.PrintLast Go.Proofs.YtelmkcbakeccoaaW.PrintMore
set_option linter.unusedVariables false
set_option linter.unusedSimpArgs false

set_option maxHeartbeats 2000000 in
theorem walk_crcMores (a0 : Int) (a1 : Option Addr) (n1 c1 : Nat) (z1 : List Int) (w : World) (w0 : (Lit.int .u32 a0).wf = true) (h1 : IsRow .u8 w a1 n1 c1 z1) (y1 : n1 * 1 ≤ 140737488351232) :
    Calls Try.prog 3 #[.int .u32 a0, .slice a1 n1 c1] w fun e w' => e = .returned (.bool true) ∧ Below w.heap.size w w' := by
  obtain ⟨b0, b1⟩ := bounds_u32 w0
  obtain ⟨x, rfl⟩ := exists_W a0 b0 b1
  obtain ⟨xs, hB⟩ := h1.bytes
  have HB := Hd.mk hB
  have HW : Hd (Below w.heap.size w w) := ⟨Below.refl _ _⟩
  clear w0 b0 b1 h1 hB
  go_enter Try.func3, Try.ntmps3
  go_wp2_with (first
    | (at_builtin; go_must (refine wpList_copy rfl _ _ rfl rfl rfl HB.out (by omega) ?_); intro A2 c2 w2 h1 h2 h3; have HB1 : Hd (Bs w2 a1 n1 c1 xs) := ⟨HB.out.below h3.out⟩)
    | (go_at_call 17; go_must (refine (more_calls _ _ _ _ _ _ h2.out.C h2.out.hc h2.out.hr).mono ?_); rintro e w' ⟨rfl, h4⟩; have H4 := Hd.mk h4; have HB2 := Hd.mk (HB1.out.below h4); have HL2 := Hd.mk (h2.out.below h4); clear h4)
    | (go_at_call 18; go_must (refine (rmore_calls _ _ _ _ _ _ HB2.out.C HB2.out.hc HB2.out.hr).mono ?_); rintro e w' ⟨rfl, rfl⟩)
    | (go_at_call 19; go_must (refine (same_yes _ _ _ _ _ _ _ _ HL2.out HB2.out).mono ?_); rintro e w' ⟨rfl, rfl⟩))
  go_ret
  exact ⟨rfl, h3.out.trans (H4.out.mono h3.out.size)⟩
end Go.Proofs.Ytelmkcbakeccoaa
