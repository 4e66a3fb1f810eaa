/- num: the laws NumNames and NumDecodes: their walks. -/
import Derived.Test.YtpjfepeedfbpfaaRw
import Derived.Test.YtpjfepeedfbpfaaDc
namespace Go.Proofs.Ytpjfepeedfbpfaa
open Go.RowKit Go.Proofs.YtpjfepeedfbpfaaW.PrintWords Go.Proofs.YtpjfepeedfbpfaaW.PrintLast Go.Proofs.YtpjfepeedfbpfaaW.PrintMore
set_option linter.unusedVariables false
set_option linter.unusedSimpArgs false

theorem u64s_lit (w : World) (l : List Int) (n : Nat) (hl : l.length = n) (hr : ∀ x ∈ l, 0 ≤ x ∧ x ≤ 18446744073709551615) (hn : n * 8 ≤ 140737488351232) : U64s (w.alloc (.cells (nums .u64 l).toArray 22)) (some ⟨w.heap.size, 0, none⟩) n n l := by
  subst hl
  refine ⟨?_, Nat.le_refl _, hr, hn⟩
  refine Kd.C_of_reads (enc := Value.int .u64) (d := (0 : Int)) (h1 := fun _ => rfl) ⟨rfl, by omega, fun _ => ⟨_, rfl, fun j hj => ?_⟩⟩
  rw [add_plain, blk_cell (blk_new w _)]
  simp [nums, hj]
theorem bytes_range : ∀ (k : Nat) (x : Int), 0 ≤ x → ∀ b ∈ encN k x, 0 ≤ b ∧ (x < 2 * 128 ^ k → b ≤ 255)
  | 0, x, h0, b, hb => by
    simp [encN] at hb
    omega
  | k + 1, x, h0, b, hb => by
    unfold encN at hb
    split at hb
    · rcases List.mem_cons.1 hb with rfl | hb
      · omega
      · have := bytes_range k (x / 128) (by omega) b hb
        refine ⟨this.1, fun h => this.2 ?_⟩
        rw [Int.pow_succ] at h
        omega
    · simp at hb
      omega
theorem bytesN_range {x : Int} (h0 : 0 ≤ x) (h1 : x ≤ 18446744073709551615) : ∀ b ∈ bytesN x, 0 ≤ b ∧ b ≤ 255 := by
  intro b hb
  refine ⟨(bytes_range 9 x h0 b hb).1, (bytes_range 9 x h0 b hb).2 ?_⟩
  have : (128 : Int) ^ 9 = 9223372036854775808 := by decide
  omega
theorem bytesL_range {l : List Int} (h : ∀ x ∈ l, 0 ≤ x ∧ x ≤ 18446744073709551615) : ∀ b ∈ bytesL l, 0 ≤ b ∧ b ≤ 255 := by
  intro b hb
  obtain ⟨x, hx, hb⟩ := List.mem_flatMap.1 hb
  exact bytesN_range (h x hx).1 (h x hx).2 b hb

set_option maxHeartbeats 1000000 in
theorem lives_calls (w : World) : Calls Try.prog 29 #[] w fun e w' => e = .returned (.bool true) ∧ Below w.heap.size w w' := by
  have HU := Hd.mk (u64s_lit w [300] 1 rfl (by decide) (by omega))
  have HR := Hd.mk (show rdN (bytesL [300]) = (300, 2, 0) by decide)
  go_enter Try.func29, Try.ntmps29
  go_wp2_with (first
    | (go_at_call 32; go_must (refine (encode_calls _ _ _ _ _ HU.out).mono ?_); rintro e w' ⟨v1, rfl, h1, h2⟩; obtain ⟨A1, c1, e1, hB⟩ := OB.bs h1 (bytesL_range HU.out.hr); subst e1; have HB := Hd.mk hB; have H2 := Hd.mk h2; clear h1 h2 hB)
    | (go_at_call 30; go_must (refine (decode_calls _ _ _ _ _ HB.out.C HB.out.hc HB.out.hr).mono ?_); rw [HR.out]; dsimp only [ret3]; rintro e w' ⟨rfl, h3⟩; have H3 := Hd.mk h3; clear h3))
  go_ret
  refine ⟨rfl, ?_⟩
  have a1 : Below w.heap.size w (w.alloc (.cells (nums .u64 [300]).toArray 22)) := (Below.refl _ _).alloc (Nat.le_refl _) _
  exact below_step (below_step a1 H2.out) H3.out

theorem walk_numNames (w : World) : Calls Try.prog 7 #[] w fun e w' => e = .returned (.bool true) ∧ Below w.heap.size w w' := by
  go_enter Try.func7, Try.ntmps7
  go_wp2_with (first
    | (go_at_call 29; go_must (refine (lives_calls _).mono ?_); rintro e w' ⟨rfl, h1⟩; have H1 := Hd.mk h1; clear h1))
  go_ret
  exact ⟨rfl, H1.out⟩

set_option maxHeartbeats 1000000 in
theorem walk_numDecodes (a : Option Addr) (n c : Nat) (zs : List Int) (w : World) (h : IsRow .u8 w a n c zs) (y : n * 1 ≤ 140737488351232) :
    Calls Try.prog 8 #[.slice a n c] w fun e w' => e = .returned (.bool true) ∧ Below w.heap.size w w' := by
  obtain ⟨xs, hB⟩ := h.bytes
  have HB := Hd.mk hB
  obtain ⟨⟨v, k, e⟩, hr⟩ : ∃ r, rdN xs = r := ⟨_, rfl⟩
  have HR := Hd.mk hr
  have HL := Hd.mk (show (xs ++ tail5).take n = xs by rw [← hB.len]; exact List.take_left)
  clear h hB hr
  go_enter Try.func8, Try.ntmps8
  go_wp2_with (first
    | (go_at_call 19; go_must (refine (lend_calls _ _ _ xs _ HB.out (by omega)).mono ?_); rintro e w1 ⟨g, q, rfl, h1, h2⟩; have HW := Hd.mk (lent_bs h1 HB.out); have H1 := Hd.mk h2; clear h1 h2)
    | (go_at_call 30; go_must (refine (decode_calls _ n _ ((xs ++ tail5).take n) _ (HW.out.pre n (by omega)).C (HW.out.pre n (by omega)).hc (HW.out.pre n (by omega)).hr).mono ?_); rw [HL.out, HR.out]; dsimp only [ret3]; rintro e w2 ⟨rfl, h3⟩; have H2 := Hd.mk (below_step H1.out h3); have HK := Hd.mk (HW.out.below h3); clear h3)
    | (go_at_call 31; go_must (refine (read_calls _ _ _ xs _ (HB.out.below H2.out).C HB.out.hc HB.out.hr).mono ?_); rw [HR.out]; dsimp only [ret3]; rintro e w3 ⟨rfl, rfl⟩)
    | (go_at_call 22; go_must (refine (kept_calls _ _ _ (xs ++ tail5) _ _ _ xs _ HK.out (HB.out.below H2.out) (by omega)).mono ?_); rintro e w4 ⟨rfl, h3⟩; have H4 := Hd.mk (below_step H2.out h3); clear h3)
    | (go_at_call 29; go_must (refine (lives_calls _).mono ?_); rintro e w5 ⟨rfl, h1⟩; have H5 := Hd.mk (below_step H4.out h1); clear h1))
  go_ret
  exact ⟨rfl, H5.out⟩
end Go.Proofs.Ytpjfepeedfbpfaa
