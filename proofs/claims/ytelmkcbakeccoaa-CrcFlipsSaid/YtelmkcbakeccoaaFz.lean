/- crc: the walk of CrcFlips. -/
import Derived.Test.YtelmkcbakeccoaaFw
namespace Go.Proofs.Ytelmkcbakeccoaa
open Go.RowKit Go.Proofs.YtelmkcbakeccoaaW.PrintWords Go.Proofs.YtelmkcbakeccoaaW.PrintLast Go.Proofs.YtelmkcbakeccoaaW.PrintMore
set_option linter.unusedVariables false
set_option linter.unusedSimpArgs false
set_option maxHeartbeats 2000000 in
theorem walk_crcFlips (a0 : Option Addr) (n0 c0 : Nat) (z0 : List Int) (b0 b1 b2 : Int) (w : World) (h0 : IsRow .u8 w a0 n0 c0 z0) (y0 : n0 * 1 ≤ 140737488351232)
    (f : (Lit.int .u64 b0).wf = true ∧ (Lit.int .u64 b1).wf = true ∧ (Lit.int .u64 b2).wf = true) :
    Calls Try.prog 6 #[.slice a0 n0 c0, .agg #[.int .u64 b0, .int .u64 b1, .int .u64 b2]] w fun e w' => e = .returned (.bool true) ∧ Below w.heap.size w w' := by
  obtain ⟨w0, w1, w2⟩ := f
  obtain ⟨p0, _⟩ := bounds_u64 w0
  obtain ⟨p1, _⟩ := bounds_u64 w1
  obtain ⟨p2, _⟩ := bounds_u64 w2
  obtain ⟨xs, hB⟩ := h0.bytes
  obtain ⟨bs, hbs⟩ : ∃ bs : Nat → Int, bs = fun j => if j = 0 then b0 else if j = 1 then b1 else b2 := ⟨_, rfl⟩
  have HP : Hd (∀ j, 0 ≤ bs j) := ⟨fun j => by rw [hbs]; simp only; split; exact p0; split; exact p1; exact p2⟩
  have HW0 : Hd (Below w.heap.size w (w.alloc (.cells #[.int .u64 b0, .int .u64 b1, .int .u64 b2] 37))) := ⟨(Below.refl _ _).alloc (Nat.le_refl _) _⟩
  have HC0 : Hd (∀ j, j < 3 → (w.alloc (.cells #[.int .u64 b0, .int .u64 b1, .int .u64 b2] 37)).cell? ⟨w.heap.size, j, none⟩ = some (.int .u64 (bs j))) := ⟨fun j hj => by
    rw [hbs, blk_cell (blk_new w _)]
    match j, hj with
    | 0, _ => rfl
    | 1, _ => rfl
    | 2, _ => rfl⟩
  have HB := Hd.mk hB
  clear hB hbs h0 p0 p1 p2 w0 w1 w2
  go_enter Try.func6, Try.ntmps6
  go_wp2_with fail
  go_at_call 21
  refine (awake_calls _).mono ?_
  rintro e w1 ⟨rfl, h1⟩
  have H1 := Hd.mk (below_step HW0.out h1)
  have HB1 := Hd.mk (HB.out.below (below_step HW0.out h1))
  have HC1 : Hd (∀ j, j < 3 → w1.cell? ⟨w.heap.size, j, none⟩ = some (.int .u64 (bs j))) := ⟨fun j hj => (h1.cell (p := ⟨w.heap.size, j, none⟩) (by simp)).trans (HC0.out j hj)⟩
  have hsz : w.heap.size < w1.heap.size := by have := h1.size; simp at this; omega
  clear h1 HW0 HC0
  obtain ⟨v, ev⟩ : ∃ v, W (sumOf [xs]) = v := ⟨_, rfl⟩
  have EV := Hd.mk ev
  clear ev
  go_wp2_with fail
  go_at_call 22
  refine (sum_one HB1.out _ EV.out).mono ?_
  rintro e w2 ⟨rfl, h2⟩
  have H2 := Hd.mk (below_step H1.out h2)
  have HB2 := Hd.mk (HB1.out.below h2)
  have HC2 : Hd (∀ j, j < 3 → w2.cell? ⟨w.heap.size, j, none⟩ = some (.int .u64 (bs j))) := ⟨fun j hj => (h2.cell (p := ⟨w.heap.size, j, none⟩) hsz).trans (HC1.out j hj)⟩
  have hsz2 : w.heap.size < w2.heap.size := by have := h2.size; omega
  clear h2 H1 HB1 HC1 hsz
  go_wp2_with fail
  go_loopg [6] 3 (fun g y w'' => ∃ (k : Nat), y = .int .i64 k ∧ k + g = 4 ∧ 1 ≤ k ∧ Hd (Below w.heap.size w w'') ∧ Hd (Below w2.heap.size w2 w''))
  case atStart => exact ⟨1, rfl, rfl, by omega, H2, ⟨Below.refl _ _⟩⟩
  case round =>
    obtain ⟨k, rfl, hk, hk1, HW, HZ⟩ := hrel
    by_cases hin : k ≤ 3
    · obtain ⟨g, rfl⟩ : ∃ g, gk = g + 1 := ⟨gk - 1, by omega⟩
      have HBr := Hd.mk (HB2.out.below HZ.out)
      have HCr : Hd (∀ j, j < k → wr.cell? ⟨w.heap.size, j, none⟩ = some (.int .u64 (bs j))) := ⟨fun j hj => (HZ.out.cell (p := ⟨w.heap.size, j, none⟩) hsz2).trans (HC2.out j (by omega))⟩
      have hszr : w.heap.size < wr.heap.size := by have := HZ.out.size; omega
      go_wp2_with fail
      go_at_call 26
      refine (flipped_calls _ _ _ xs _ _ _ bs _ HBr.out y0 hin HCr.out HP.out hszr).mono ?_
      rintro e w3 ⟨A, c, ys, ats, rfl, h3, h4, h5, h6⟩
      have HNE := Hd.mk (flp_ne h4)
      have HY := Hd.mk h3
      have H3 := Hd.mk (below_step HW.out h6)
      have HZ3 := Hd.mk (below_step HZ.out h6)
      obtain ⟨na, ena⟩ : ∃ na, ats.length = na := ⟨_, rfl⟩
      rw [ena] at HNE h5
      simp only [ena]
      clear h3 h4 h6 HBr HCr hszr ena HW HZ
      rcases (show na = 0 ∨ na = 1 ∨ na = 2 ∨ na = 3 by omega) with rfl | rfl | rfl | rfl
      · clear HNE HY
        go_wp2_with fail
        go_roundg g
        case measure => omega
        case rel => exact ⟨k + 1, by go_num, by omega, by omega, H3, HZ3⟩
      · by_cases hz : n0 ≤ 268435456
        · have HNE' := Hd.mk (HNE.out (by omega) (by omega) (by omega) (by omega))
          clear HNE
          obtain ⟨u, eu⟩ : ∃ u, W (sumOf [ys]) = u := ⟨_, rfl⟩
          rw [eu, EV.out] at HNE'
          have EU := Hd.mk eu
          have hne := HNE'.out
          clear eu HNE'
          go_wp2_with fail
          go_at_call 22
          refine (sum_one HY.out _ EU.out).mono ?_
          rintro e w4 ⟨rfl, h7⟩
          have H4 := Hd.mk (below_step H3.out h7)
          have HZ4 := Hd.mk (below_step HZ3.out h7)
          clear h7 H3 HZ3 HY
          go_wp2_with fail
          go_roundg g
          case measure => omega
          case rel => exact ⟨k + 1, by go_num, by omega, by omega, H4, HZ4⟩
        · have hz' : 268435456 < n0 := by omega
          clear HNE HY
          go_wp2_with fail
          go_roundg g
          case measure => omega
          case rel => exact ⟨k + 1, by go_num, by omega, by omega, H3, HZ3⟩
      · by_cases hz : n0 ≤ 268435456
        · have HNE' := Hd.mk (HNE.out (by omega) (by omega) (by omega) (by omega))
          clear HNE
          obtain ⟨u, eu⟩ : ∃ u, W (sumOf [ys]) = u := ⟨_, rfl⟩
          rw [eu, EV.out] at HNE'
          have EU := Hd.mk eu
          have hne := HNE'.out
          clear eu HNE'
          go_wp2_with fail
          go_at_call 22
          refine (sum_one HY.out _ EU.out).mono ?_
          rintro e w4 ⟨rfl, h7⟩
          have H4 := Hd.mk (below_step H3.out h7)
          have HZ4 := Hd.mk (below_step HZ3.out h7)
          clear h7 H3 HZ3 HY
          go_wp2_with fail
          go_roundg g
          case measure => omega
          case rel => exact ⟨k + 1, by go_num, by omega, by omega, H4, HZ4⟩
        · have hz' : 268435456 < n0 := by omega
          clear HNE HY
          go_wp2_with fail
          go_roundg g
          case measure => omega
          case rel => exact ⟨k + 1, by go_num, by omega, by omega, H3, HZ3⟩
      · by_cases hz : n0 ≤ 11454
        · have HNE' := Hd.mk (HNE.out (by omega) (by omega) (by omega) (by omega))
          clear HNE
          obtain ⟨u, eu⟩ : ∃ u, W (sumOf [ys]) = u := ⟨_, rfl⟩
          rw [eu, EV.out] at HNE'
          have EU := Hd.mk eu
          have hne := HNE'.out
          clear eu HNE'
          go_wp2_with fail
          go_at_call 22
          refine (sum_one HY.out _ EU.out).mono ?_
          rintro e w4 ⟨rfl, h7⟩
          have H4 := Hd.mk (below_step H3.out h7)
          have HZ4 := Hd.mk (below_step HZ3.out h7)
          clear h7 H3 HZ3 HY
          go_wp2_with fail
          go_roundg g
          case measure => omega
          case rel => exact ⟨k + 1, by go_num, by omega, by omega, H4, HZ4⟩
        · have hz' : 11454 < n0 := by omega
          clear HNE HY
          go_wp2_with fail
          go_roundg g
          case measure => omega
          case rel => exact ⟨k + 1, by go_num, by omega, by omega, H3, HZ3⟩
    · have hk4 : ¬ ((k : Int) ≤ 3) := by omega
      go_wp2
      go_ret
      exact ⟨rfl, HW.out⟩
end Go.Proofs.Ytelmkcbakeccoaa
