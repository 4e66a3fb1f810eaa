/- crc: the walk of CrcResidue. -/
import Derived.Test.YtelmkcbakeccoaaSm
namespace Go.Proofs.Ytelmkcbakeccoaa
open Go.RowKit Go.Proofs.YtelmkcbakeccoaaW.PrintWords Go.Proofs.YtelmkcbakeccoaaW.PrintLast Go.Proofs.YtelmkcbakeccoaaW.PrintMore
set_option linter.unusedVariables false
set_option linter.unusedSimpArgs false
theorem residue_eq (xs : List Int) : W (sumOf [xs, word (sumOf [xs])]) = 558161692 := by
  have := residue (runB (BitVec.allOnes 32) xs)
  exact this
set_option maxHeartbeats 2000000 in
theorem walk_crcResidue (a1 : Option Addr) (n1 c1 : Nat) (z1 : List Int) (w : World) (h1 : IsRow .u8 w a1 n1 c1 z1) (y1 : n1 * 1 ≤ 140737488351232) :
    Calls Try.prog 9 #[.slice a1 n1 c1] w fun e w' => e = .returned (.bool true) ∧ Below w.heap.size w w' := by
  obtain ⟨xs, hB⟩ := h1.bytes
  have HB := Hd.mk hB
  have HP := Hd.mk (Ps.one 23 hB)
  have hq := residue_eq xs
  have hr := word_range (sumOf [xs])
  have hS := sum_calls (some ⟨w.heap.size, 0, none⟩) 1 1 [xs] (w.alloc (.cells #[.slice a1 n1 c1] 23)) HP.out (Nat.le_refl _)
  obtain ⟨s, es⟩ : ∃ s, sumOf [xs] = s := ⟨_, rfl⟩
  rw [es] at hq hr hS
  have HS := Hd.mk hS
  clear hS es HP hB h1
  unfold word at hq hr
  obtain ⟨x0, e0⟩ : ∃ x, W s % 256 = x := ⟨_, rfl⟩
  obtain ⟨x1, e1⟩ : ∃ x, W s / 256 % 256 = x := ⟨_, rfl⟩
  obtain ⟨x2, e2⟩ : ∃ x, W s / 65536 % 256 = x := ⟨_, rfl⟩
  obtain ⟨x3, e3⟩ : ∃ x, W s / 16777216 % 256 = x := ⟨_, rfl⟩
  rw [e0, e1, e2, e3] at hq hr
  have HQ := Hd.mk hq
  have HR := Hd.mk hr
  clear hq hr
  go_enter Try.func9, Try.ntmps9
  go_wp2_with fail
  go_at_call 22
  refine HS.out.mono ?_
  rintro e w1 ⟨rfl, h1⟩
  have H1 := Hd.mk (below_step ((Below.refl w.heap.size w).alloc (Nat.le_refl _) (.cells #[.slice a1 n1 c1] 23)) h1)
  clear h1 HS
  go_wp2_with fail
  go_at_call 21
  refine (awake_calls _).mono ?_
  rintro e w2 ⟨rfl, h2⟩
  have H2 := Hd.mk (below_step H1.out h2)
  clear h2 H1
  have HB0 := Hd.mk (HB.out.below H2.out)
  have HA := Hd.mk ((H2.out.alloc H2.out.size (.cells #[.int .u8 x0, .int .u8 x1, .int .u8 x2, .int .u8 x3] 5)))
  have HL := Hd.mk (bs_lit w2 [x0, x1, x2, x3] 4 5 rfl HR.out (by omega))
  have HX := Hd.mk (HB.out.below HA.out)
  have HP2 := Hd.mk (Ps.two 23 HX.out HL.out)
  have HA2 := Hd.mk (HA.out.alloc HA.out.size (.cells #[.slice a1 n1 c1, .slice (some ⟨w2.heap.size, 0, none⟩) 4 4] 23))
  have hS2 := sum_calls _ 2 2 [xs, [x0, x1, x2, x3]] _ HP2.out (Nat.le_refl _)
  rw [HQ.out] at hS2
  have hsz : (w2.alloc (.cells #[.int .u8 x0, .int .u8 x1, .int .u8 x2, .int .u8 x3] 5)).heap.size = w2.heap.size + 1 := by simp
  rw [hsz] at hS2
  have HS2 := Hd.mk hS2
  clear hS2 hsz
  rw [← e0, ← e1, ← e2, ← e3] at HS2 HA2
  clear e0 e1 e2 e3
  go_wp2_with fail
  go_at_call 22
  refine HS2.out.mono ?_
  rintro e w3 ⟨rfl, h3⟩
  have H3 := Hd.mk h3
  clear h3
  go_wp2
  go_ret
  exact ⟨rfl, below_step HA2.out H3.out⟩
end Go.Proofs.Ytelmkcbakeccoaa
