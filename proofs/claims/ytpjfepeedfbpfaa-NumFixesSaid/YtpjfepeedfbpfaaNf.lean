/- num: the law NumFixes: its walk. -/
import Derived.Test.YtpjfepeedfbpfaaNe
import Derived.Test.YtpjfepeedfbpfaaFx
namespace Go.Proofs.Ytpjfepeedfbpfaa
open Go.RowKit Go.Proofs.YtpjfepeedfbpfaaW.PrintWords Go.Proofs.YtpjfepeedfbpfaaW.PrintLast Go.Proofs.YtpjfepeedfbpfaaW.PrintMore
set_option linter.unusedVariables false
set_option linter.unusedSimpArgs false

theorem fixS_len (v size : Int) : (fixS v size).1.length ≤ 8 := by
  unfold fixS
  split
  · simp
  · split
    · simp
    · rw [leB_len]; omega
theorem fixS_range (v size : Int) : ∀ x ∈ (fixS v size).1, 0 ≤ x ∧ x ≤ 255 := by
  unfold fixS
  split
  · simp
  · split
    · simp
    · exact leB_range _ _

set_option maxHeartbeats 2000000 in
theorem walk_numFixes (v : Int) (size : Int) (a : Option Addr) (n c : Nat) (zs : List Int) (w : World) (hv : (Lit.int .u64 v).wf = true) (hs : (Lit.int .i64 size).wf = true) (h : IsRow .u8 w a n c zs) (y : n * 1 ≤ 140737488351232) :
    Calls Try.prog 4 #[.int .u64 v, .int .i64 size, .slice a n c] w fun e w' => e = .returned (.bool true) ∧ Below w.heap.size w w' := by
  obtain ⟨xs, hB⟩ := h.bytes
  have HB := Hd.mk hB
  obtain ⟨v0, v1⟩ := bounds_u64 hv
  obtain ⟨s0, s1⟩ := bounds_i64 hs
  have HL := Hd.mk (show (xs ++ tail5).take n = xs by rw [← hB.len]; exact List.take_left)
  have HR := Hd.mk (fixS_range v size)
  have HLn := Hd.mk (fixS_len v size)
  obtain ⟨l, er⟩ : ∃ q, fixS v size = q := ⟨_, rfl⟩
  have F1 := Hd.mk (fun W => fixed_calls v size W v0 v1 s0 s1)
  have F2 := Hd.mk (fun W => rfixed_calls v size W v0 v1 s0 s1)
  rw [er] at HR HLn F1 F2
  obtain ⟨l, er⟩ := l
  have F3 := Hd.mk (fun W => fixed_calls 258 2 W (by omega) (by omega) (by omega) (by omega))
  rw [show fixS 258 2 = ([2, 1], 0) by decide] at F3
  obtain ⟨⟨u, e2⟩, eu⟩ : ∃ q, unfS xs size = q := ⟨_, rfl⟩
  have HU := Hd.mk eu
  clear h hB hv hs eu
  go_enter Try.func4, Try.ntmps4
  go_wp2_with fail
  go_at_call 15
  refine (F1.out _).mono ?_
  rintro e w1 ⟨vx, rfl, h1, h2⟩
  have HX1 := Hd.mk h1
  have HB1 := Hd.mk h2
  obtain ⟨Ax, cx, ex, _⟩ := OB.bs h1 HR.out
  subst ex
  have hz1 := h2.size
  clear h1 h2
  dsimp only
  go_wp2_with fail
  go_at_call 16
  refine (F2.out _).mono ?_
  rintro e w2 ⟨vy, rfl, h1, h2⟩
  have HY2 := Hd.mk h1
  have HX2 := Hd.mk (HX1.out.below h2)
  have HB2 := Hd.mk (below_step HB1.out h2)
  obtain ⟨Ay, cy, ey, _⟩ := OB.bs h1 HR.out
  subst ey
  have hz2 := h2.size
  clear h1 h2
  dsimp only
  go_wp2_with fail
  go_at_call 15
  refine (F1.out _).mono ?_
  rintro e w3 ⟨vz, rfl, h1, h2⟩
  have HZ3 := Hd.mk h1
  have HX3 := Hd.mk (HX2.out.below h2)
  have HY3 := Hd.mk (HY2.out.below h2)
  have HB3 := Hd.mk (below_step HB2.out h2)
  obtain ⟨Az, cz, ez, _⟩ := OB.bs h1 HR.out
  subst ez
  have hz3 := h2.size
  clear h1 h2
  dsimp only
  go_wp2_with fail
  go_at_call 17
  refine (same_yes _ _ _ l _ _ _ _ (HX3.out.bs1 HR.out) (HY3.out.bs1 HR.out)).mono ?_
  rintro e w' ⟨rfl, rfl⟩
  have HOWN := Hd.mk (own2_calls _ _ _ _ _ _ w' HX3.out HZ3.out (Nat.le_trans HLn.out (by omega)) (Nat.le_trans HLn.out (by omega)) (Dj.of HX1.out HZ3.out (by omega)))
  go_wp2_with fail
  go_at_call 18
  refine HOWN.out.mono ?_
  rintro e w4 ⟨rfl, h1⟩
  have HB4 := Hd.mk (HB3.out.trans (h1.below HB3.out.size (fun k hk h => by
    rcases h with h | h
    · have := own_base HX1.out k h; omega
    · have := own_base HZ3.out k h; omega)))
  clear h1
  go_wp2_with fail
  go_at_call 19
  refine (lend_calls _ _ _ xs _ (HB.out.below HB4.out) (by omega)).mono ?_
  rintro e w5 ⟨g, q, rfl, h1, h2⟩
  have HW := Hd.mk (lent_bs h1 HB.out)
  have HB5 := Hd.mk (below_step HB4.out h2)
  clear h1 h2
  go_wp2_with fail
  go_at_call 20
  refine (unfix_calls _ _ _ _ size _ (HW.out.pre n (by omega)) s0 s1).mono ?_
  rw [HL.out, HU.out]
  dsimp only
  rintro e w' ⟨rfl, rfl⟩
  go_wp2_with fail
  go_at_call 21
  refine (runfix_calls _ _ _ _ size _ (HB.out.below HB5.out) s0 s1).mono ?_
  rw [HU.out]
  dsimp only
  rintro e w' ⟨rfl, rfl⟩
  go_wp2_with fail
  go_at_call 22
  refine (kept_calls _ _ _ (xs ++ tail5) _ _ _ xs _ HW.out (HB.out.below HB5.out) (by omega)).mono ?_
  rintro e w6 ⟨rfl, h1⟩
  have HB6 := Hd.mk (below_step HB5.out h1)
  clear h1
  go_wp2_with fail
  go_at_call 15
  refine (F3.out _).mono ?_
  rintro e w7 ⟨vt, rfl, h1, h2⟩
  have HB7 := Hd.mk (below_step HB6.out h2)
  obtain ⟨gt, ct, rfl, hg1, hg2⟩ := World.ownsRow.form h1 (by decide)
  obtain ⟨hc0, _⟩ := own_at h1 0 (by decide) (by decide)
  obtain ⟨hc1, _⟩ := own_at h1 1 (by decide) (by decide)
  rw [show rd [2, 1] 0 = 2 from rfl] at hc0
  rw [show rd [2, 1] 1 = 1 from rfl] at hc1
  simp only [Int.toNat_zero, Int.toNat_one] at hc0 hc1
  dsimp only [List.length_cons, List.length_nil]
  clear h1 h2
  go_wp2_with fail
  go_ret
  exact ⟨rfl, HB7.out⟩
end Go.Proofs.Ytpjfepeedfbpfaa
