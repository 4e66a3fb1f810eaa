/- vcd: the walk of VcdNames. -/
import Derived.Test.YtmfnjmecnhagmaaAw
import Derived.Test.YtmfnjmecnhagmaaE3
namespace Go.Proofs.Ytmfnjmecnhagmaa
open Go.RowKit Go.ChangeShapes Go.WideShapes Go.Shelf Go.Maps Go.Proofs.YtmfnjmecnhagmaaW.PrintWords Go.Proofs.YtmfnjmecnhagmaaW.PrintLast Go.Proofs.YtmfnjmecnhagmaaW.PrintMore Go.Proofs.Ytmfnjmecnhagmaa.Pr
set_option linter.unusedVariables false
set_option linter.unusedSimpArgs false
theorem errnum_c (v : Int) (w : World) : Calls Try.prog 22 #[.int .i64 v] w fun e w' => e = .returned (.int .i64 v) ∧ w' = w := by
  go_enter Try.func22, Try.ntmps22
  go_wp2
  go_ret
  exact ⟨rfl, rfl⟩
def four : List Int := [186, 239, 154, 21]
theorem int_four : vcd_Int.f 20 123456789 = some (four, 0) := by decide +kernel
set_option maxRecDepth 100000 in
set_option maxHeartbeats 16000000 in
theorem walk_vcdNames (w : World) : Calls Try.prog 6 #[] w fun e w' => e = .returned (.bool true) ∧ Below w.heap.size w w' := by
  have HI := Hd.mk (vcd_Int.calls 20 123456789 four 0 w int_four)
  go_enter Try.func6, Try.ntmps6
  go_wp2_with fail
  refine HI.out.mono ?_
  rintro e w1 ⟨v1, rfl, hr, hb1⟩
  have ho : OB w1 w.heap.size v1 four := Kd.own_of_R hr
  obtain ⟨A1, c1, rfl⟩ := own_slice ho
  have HO1 := Hd.mk ho
  have HB1 := Hd.mk hb1
  clear hr ho hb1 HI
  go_wp2_with fail
  refine (errnum_c _ _).mono ?_
  rintro e w2 ⟨rfl, rfl⟩
  go_wp2_with fail
  refine (errnum_c _ _).mono ?_
  rintro e w2 ⟨rfl, rfl⟩
  go_wp2_with fail
  refine (errnum_c _ _).mono ?_
  rintro e w2 ⟨rfl, rfl⟩
  go_wp2_with fail
  refine (errnum_c _ _).mono ?_
  rintro e w2 ⟨rfl, rfl⟩
  have hl := litC w2 four 4 5 (0, 0) rfl (by omega)
  have hb3 := (Below.refl w2.heap.size w2).alloc (Nat.le_refl _) (.cells (nums .u8 four).toArray 5)
  change (Kd.int .u8).C (w2.alloc (.cells #[.int .u8 186, .int .u8 239, .int .u8 154, .int .u8 21] 5)) _ _ _ at hl
  change Below _ w2 (w2.alloc (.cells #[.int .u8 186, .int .u8 239, .int .u8 154, .int .u8 21] 5)) at hb3
  have HL := Hd.mk hl
  have HB3 := Hd.mk (below_step HB1.out hb3)
  have HO3 := Hd.mk (OB.C (pw_own_below HO1.out hb3) rfl)
  clear hl hb3 HO1
  go_wp2_with fail
  refine (same_c (n := 4) HO3.out.1 HO3.out.2 HL.out (Nat.le_refl _)).mono ?_
  rintro e w4 ⟨rfl, hb4⟩
  have HB4 := Hd.mk (below_step HB3.out hb4)
  clear hb4
  go_wp2_with fail
  refine (awake_c _).mono ?_
  rintro e w5 ⟨rfl, hb5⟩
  have HB5 := Hd.mk (below_step HB4.out hb5)
  clear hb5
  go_wp2
  go_ret
  exact ⟨rfl, HB5.out⟩
end Go.Proofs.Ytmfnjmecnhagmaa
