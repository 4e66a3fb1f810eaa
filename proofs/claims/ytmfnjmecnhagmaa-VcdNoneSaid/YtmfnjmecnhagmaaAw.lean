/- vcd: awake. -/
import Derived.Test.YtmfnjmecnhagmaaEn
namespace Go.Proofs.Ytmfnjmecnhagmaa
open Go.RowKit Go.ChangeShapes Go.WideShapes Go.Shelf Go.Maps Go.Proofs.YtmfnjmecnhagmaaW.PrintWords Go.Proofs.YtmfnjmecnhagmaaW.PrintLast Go.Proofs.YtmfnjmecnhagmaaW.PrintMore Go.Proofs.Ytmfnjmecnhagmaa.Pr
set_option linter.unusedVariables false
set_option linter.unusedSimpArgs false
theorem make8 (w : World) : (Instr.makeSlice 34 (.int .i64 8) (.int .i64 8)).run Try.prog w = .ok (.slice (some ⟨w.heap.size, 0, none⟩) 8 8) (w.alloc (.cells (nums .u8 zer8).toArray 5)) := by kernel_rfl
theorem same_c {W : World} {A : Option Addr} {n c : Nat} {l : List Int} {B : Option Addr} {d : Nat} (h : (Kd.int .u8).C W A n l) (hc : n ≤ c) (g : (Kd.int .u8).C W B n l) (hd : n ≤ d) :
    Calls Try.prog 25 #[.slice A n c, .slice B n d] W fun e w' => e = .returned (.bool true) ∧ Below W.heap.size W w' := by
  obtain rfl : l.length = n := h.1
  refine (sapperlaw30_same.calls A c l B d l true W h hc g hd (by simp [sapperlaw30_same.f])).mono ?_
  rintro e w' ⟨rfl, hb⟩
  exact ⟨rfl, Drawn0.below hb⟩
set_option maxRecDepth 100000 in
set_option maxHeartbeats 16000000 in
theorem awake_c (w : World) : Calls Try.prog 17 #[] w fun e w' => e = .returned (.bool true) ∧ Below w.heap.size w w' := by
  have hcv := conv_lit w #[.int .u8 97, .int .u8 98, .int .u8 99, .int .u8 100, .int .u8 101, .int .u8 102, .int .u8 103, .int .u8 104] 8 8
  have es : #[Value.int .u8 97, Value.int .u8 98, Value.int .u8 99, Value.int .u8 100, Value.int .u8 101, Value.int .u8 102, Value.int .u8 103, Value.int .u8 104].size = 8 := rfl
  rw [es] at hcv
  have hl := litC w made8 8 5 (8, 8 + 1) rfl (by omega)
  have hb1 := (Below.refl w.heap.size w).alloc (Nat.le_refl _) (.cells (nums .u8 made8).toArray 5 (8, 8 + 1))
  change (Kd.int .u8).C (w.alloc (.cells #[.int .u8 97, .int .u8 98, .int .u8 99, .int .u8 100, .int .u8 101, .int .u8 102, .int .u8 103, .int .u8 104] 5 (8, 8 + 1))) _ _ _ at hl
  change Below _ w (w.alloc (.cells #[.int .u8 97, .int .u8 98, .int .u8 99, .int .u8 100, .int .u8 101, .int .u8 102, .int .u8 103, .int .u8 104] 5 (8, 8 + 1))) at hb1
  obtain ⟨w1, hw1⟩ : ∃ v, w.alloc (.cells #[.int .u8 97, .int .u8 98, .int .u8 99, .int .u8 100, .int .u8 101, .int .u8 102, .int .u8 103, .int .u8 104] 5 (8, 8 + 1)) = v := ⟨_, rfl⟩
  rw [hw1] at hcv hl hb1
  obtain ⟨g0, hg0⟩ : ∃ g, w.heap.size = g := ⟨_, rfl⟩
  rw [hg0] at hl hcv
  have hb2 := (Below.refl w1.heap.size w1).alloc (Nat.le_refl _) (.cells #[.int .i64 8, .int .i64 0, .int .i64 0] 100)
  have hg2 := blk_new w1 (.cells #[.int .i64 8, .int .i64 0, .int .i64 0] 100)
  obtain ⟨w2, hw2⟩ : ∃ v, w1.alloc (.cells #[.int .i64 8, .int .i64 0, .int .i64 0] 100) = v := ⟨_, rfl⟩
  obtain ⟨g1, hg1⟩ : ∃ g, w1.heap.size = g := ⟨_, rfl⟩
  rw [hw2] at hb2 hg2
  rw [hg1] at hg2
  have hmk := make8 w2
  have hb3 := (Below.refl w2.heap.size w2).alloc (Nat.le_refl _) (.cells (nums .u8 zer8).toArray 5)
  have hz := litC w2 zer8 8 5 (0, 0) rfl (by omega)
  obtain ⟨w3, hw3⟩ : ∃ v, w2.alloc (.cells (nums .u8 zer8).toArray 5) = v := ⟨_, rfl⟩
  obtain ⟨gz, hgz⟩ : ∃ g, w2.heap.size = g := ⟨_, rfl⟩
  rw [hw3] at hb3 hz hmk
  rw [hgz] at hz hmk
  have hst : Kd.C k100 w2 (some ⟨g1, 0, none⟩) 1 [⟨8, 0, 0⟩] := C100_lit (l := [⟨8, 0, 0⟩]) hg2 (by decide)
  have HE3 : Hd (EdC w3 (some ⟨g1, 0, none⟩) 1 [⟨8, 0, 0⟩] (some ⟨gz, 0, none⟩) 8 zer8 none 0 []) := ⟨⟨Kd.C_below hst hb3, hz, nilC _, by decide, by decide, by decide⟩⟩
  have HO3 := Hd.mk (Kd.C_below (Kd.C_below hl hb2) hb3)
  have HB3 := Hd.mk (below_step (below_step hb1 hb2) hb3)
  have HG1 := Hd.mk hg1
  have HG0 := Hd.mk hg0
  rw [← hw2] at hmk
  clear hl hb1 hb2 hg2 hb3 hz hst es hw1 hw2 hw3 hg1 hgz
  go_enter Try.func17, Try.ntmps17
  go_wp2_with fail
  simp only [HG1.out]
  clear hmk hcv
  refine (encode8 (A0 := some ⟨g1, 0, none⟩) (c0 := 1) (A1 := some ⟨gz, 0, none⟩) (c1 := 8) HO3.out (by decide) HE3.out).mono ?_
  rintro e w4 ⟨A4, c4, rfl, ho4, hb4⟩
  have hcv := conv_lit w4 #[.int .u8 214, .int .u8 195, .int .u8 196, .int .u8 0, .int .u8 0, .int .u8 1, .int .u8 8, .int .u8 0, .int .u8 7, .int .u8 8, .int .u8 0, .int .u8 0, .int .u8 1, .int .u8 1, .int .u8 120, .int .u8 0] 16 16
  have es : #[Value.int .u8 214, Value.int .u8 195, Value.int .u8 196, Value.int .u8 0, Value.int .u8 0, Value.int .u8 1, Value.int .u8 8, Value.int .u8 0, Value.int .u8 7, Value.int .u8 8, Value.int .u8 0, Value.int .u8 0, Value.int .u8 1, Value.int .u8 1, Value.int .u8 120, Value.int .u8 0].size = 16 := rfl
  rw [es] at hcv
  have hl := litC w4 delta8 16 5 (16, 16 + 1) rfl (by omega)
  have hb5 := (Below.refl w4.heap.size w4).alloc (Nat.le_refl _) (.cells (nums .u8 delta8).toArray 5 (16, 16 + 1))
  change (Kd.int .u8).C (w4.alloc (.cells #[.int .u8 214, .int .u8 195, .int .u8 196, .int .u8 0, .int .u8 0, .int .u8 1, .int .u8 8, .int .u8 0, .int .u8 7, .int .u8 8, .int .u8 0, .int .u8 0, .int .u8 1, .int .u8 1, .int .u8 120, .int .u8 0] 5 (16, 16 + 1))) _ _ _ at hl
  change Below _ w4 (w4.alloc (.cells #[.int .u8 214, .int .u8 195, .int .u8 196, .int .u8 0, .int .u8 0, .int .u8 1, .int .u8 8, .int .u8 0, .int .u8 7, .int .u8 8, .int .u8 0, .int .u8 0, .int .u8 1, .int .u8 1, .int .u8 120, .int .u8 0] 5 (16, 16 + 1))) at hb5
  obtain ⟨w5, hw5⟩ : ∃ v, w4.alloc (.cells #[.int .u8 214, .int .u8 195, .int .u8 196, .int .u8 0, .int .u8 0, .int .u8 1, .int .u8 8, .int .u8 0, .int .u8 7, .int .u8 8, .int .u8 0, .int .u8 0, .int .u8 1, .int .u8 1, .int .u8 120, .int .u8 0] 5 (16, 16 + 1)) = v := ⟨_, rfl⟩
  rw [hw5] at hcv hl hb5
  have HO4 := Hd.mk (OB.C (pw_own_below ho4 hb5) rfl)
  have HL5 := Hd.mk hl
  have HB5 := Hd.mk (below_step (below_step HB3.out hb4) hb5)
  clear ho4 hb4 hl hb5 hw5 es HO3 HE3 HB3
  go_wp2_with fail
  refine (same_c HO4.out.1 HO4.out.2 HL5.out (Nat.le_refl _)).mono ?_
  rintro e w6 ⟨rfl, hb6⟩
  have HB6 := Hd.mk (below_step HB5.out hb6)
  clear hb6 hcv
  go_wp2
  go_ret
  exact ⟨rfl, HB6.out⟩
end Go.Proofs.Ytmfnjmecnhagmaa
