/- crc: the walk of CrcTurns. -/
import Derived.Test.YtelmkcbakeccoaaTu
namespace Go.Proofs.Ytelmkcbakeccoaa
open Go.RowKit Go.Proofs.YtelmkcbakeccoaaW.PrintWords Go.Proofs.YtelmkcbakeccoaaW.PrintLast Go.Proofs.YtelmkcbakeccoaaW.PrintMore
set_option linter.unusedVariables false
set_option linter.unusedSimpArgs false
/-- both answer alike, whatever the arguments -/
theorem turned_both (c : R) (s a m : Int) (s0 : -9223372036854775808 ≤ s) (s1 : s ≤ 9223372036854775807) (m0 : 0 ≤ m) (m1 : m ≤ 255) : ∃ (v n : Int),
    (∀ w : World, Calls Try.prog 34 #[.int .u32 (W c), .int .i64 s, .int .i64 a, .int .u8 m] w fun e w' => e = .returned (.tuple #[.int .u32 v, .int .i64 n]) ∧ Below w.heap.size w w') ∧
    (∀ w : World, Calls Try.prog 35 #[.int .u32 (W c), .int .i64 s, .int .i64 a, .int .u8 m] w fun e w' => e = .returned (.tuple #[.int .u32 v, .int .i64 n]) ∧ Below w.heap.size w w') := by
  by_cases hs : s < 0
  · exact ⟨0, 1, turned_neg c s a m hs, rturned_neg c s a m hs⟩
  by_cases ha : a < 0 ∨ s ≤ a
  · exact ⟨0, 20, turned_out c s a m hs ha, rturned_out c s a m hs ha⟩
  obtain ⟨n, rfl⟩ : ∃ n : Nat, s = n := ⟨s.toNat, by omega⟩
  obtain ⟨i, rfl⟩ : ∃ i : Nat, a = i := ⟨a.toNat, by omega⟩
  exact ⟨_, 0, turned_ok c n i m (by omega) s1 m0 m1, rturned_ok c n i m (by omega) s1 m0 m1⟩
set_option maxHeartbeats 2000000 in
theorem walk_crcTurns (a0 a1 a2 a3 : Int) (w : World) (w0 : (Lit.int .u32 a0).wf = true) (w1 : (Lit.int .i64 a1).wf = true) (w2 : (Lit.int .i64 a2).wf = true) (w3 : (Lit.int .u8 a3).wf = true) :
    Calls Try.prog 13 #[.agg #[.int .u32 a0, .int .i64 a1, .int .i64 a2, .int .u8 a3]] w fun e w' => e = .returned (.bool true) ∧ Below w.heap.size w w' := by
  obtain ⟨b0, b1⟩ := bounds_u32 w0
  obtain ⟨c0, c1⟩ := bounds_i64 w1
  obtain ⟨m0, m1⟩ := bounds_u8 w3
  obtain ⟨c, rfl⟩ := exists_W a0 b0 b1
  obtain ⟨v, n, hT, hR⟩ := turned_both c a1 a2 a3 c0 c1 m0 m1
  have HT := Hd.mk hT
  have HR := Hd.mk hR
  clear hT hR w0 w1 w2 w3 b0 b1 c0 c1 m0 m1
  go_enter Try.func13, Try.ntmps13
  go_wp2_with fail
  go_at_call 34
  refine (HT.out _).mono ?_
  rintro e w1 ⟨rfl, h1⟩
  have hc : ∀ k, k < 4 → w1.cell? ⟨w.heap.size, k, none⟩ = (#[.int .u32 (W c), .int .i64 a1, .int .i64 a2, .int .u8 a3] : Array Value)[k]? := fun k hk => (h1.cell (by simp)).trans (blk_cell (blk_new w _) k)
  have g0 : w1.cell? ⟨w.heap.size, 0, none⟩ = some (.int .u32 (W c)) := hc 0 (by omega)
  have g1 : w1.cell? ⟨w.heap.size, 1, none⟩ = some (.int .i64 a1) := hc 1 (by omega)
  have g2 : w1.cell? ⟨w.heap.size, 2, none⟩ = some (.int .i64 a2) := hc 2 (by omega)
  have g3 : w1.cell? ⟨w.heap.size, 3, none⟩ = some (.int .u8 a3) := hc 3 (by omega)
  have H1 := Hd.mk (below_step ((Below.refl w.heap.size w).alloc (Nat.le_refl _) _) h1)
  clear hc h1
  go_wp2_with fail
  go_at_call 35
  refine (HR.out _).mono ?_
  rintro e w2 ⟨rfl, h2⟩
  have H2 := Hd.mk (below_step H1.out h2)
  clear h2 g0 g1 g2 g3
  go_wp2_with (first
    | (go_at_call 20; go_must (refine (num_calls _ _).mono ?_); rintro e w' ⟨rfl, rfl⟩))
  go_ret
  exact ⟨rfl, H2.out⟩
end Go.Proofs.Ytelmkcbakeccoaa
