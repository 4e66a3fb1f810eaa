/- num: Decode. -/
import Derived.Test.YtinlfoblpgpikaaN2
namespace Go.Proofs.Ytinlfoblpgpikaa
open Go.RowKit Go.Proofs.YtinlfoblpgpikaaW.PrintWords Go.Proofs.YtinlfoblpgpikaaW.PrintLast Go.Proofs.YtinlfoblpgpikaaW.PrintMore
set_option linter.unusedVariables false
set_option linter.unusedSimpArgs false

/-! ### Decode (30) -/
theorem tk_wrong {xs : List Int} {j : Nat} (h : j < xs.length) {e : Int} (hw : wrongB (j + 1 : Nat) (gb xs j) = e) (he : e ≠ 0) : (tk (val (xs.take j)) j (gb xs j)).2 = (0, false, e) := by
  unfold wrongB at hw
  unfold tk
  by_cases h1 : (j : Int) = 9 ∧ 1 < gb xs j
  · rw [if_pos (by omega)] at hw
    rw [if_pos h1, ← hw]
  · rw [if_neg (by omega)] at hw
    by_cases h2 : 0 < (j : Int) ∧ gb xs j = 0
    · rw [if_pos (by omega)] at hw
      rw [if_neg h1, if_pos h2, ← hw]
    · rw [if_neg (by omega)] at hw
      exact absurd hw.symm he
theorem tk_more {xs : List Int} {j : Nat} (h : j < xs.length) (hw : wrongB (j + 1 : Nat) (gb xs j) = 0) (hx : ¬ gb xs j < 128) : tk (val (xs.take j)) j (gb xs j) = ((val (xs.take (j + 1)), (j : Int) + 1), (0, false, 0)) := by
  unfold wrongB at hw
  unfold tk
  have h1 : ¬ ((j : Int) = 9 ∧ 1 < gb xs j) := by
    intro h1
    rw [if_pos (by omega)] at hw
    cases hw
  rw [if_neg (by omega)] at hw
  rw [if_neg h1, if_neg (by omega), if_pos (by omega), val_take_succ xs j h, Int.toNat_natCast]
theorem tk_done {xs : List Int} {j : Nat} (h : j < xs.length) (hw : wrongB (j + 1 : Nat) (gb xs j) = 0) (hx : gb xs j < 128) : (tk (val (xs.take j)) j (gb xs j)).2 = (val (xs.take (j + 1)), true, 0) := by
  unfold wrongB at hw
  unfold tk
  have h1 : ¬ ((j : Int) = 9 ∧ 1 < gb xs j) := by
    intro h1
    rw [if_pos (by omega)] at hw
    cases hw
  rw [if_neg (by omega)] at hw
  have h2 : ¬ (0 < (j : Int) ∧ gb xs j = 0) := by
    intro h2
    rw [if_pos (by omega)] at hw
    cases hw
  rw [if_neg h1, if_neg h2, if_neg (by omega), val_take_succ xs j h, Int.toNat_natCast]

set_option maxHeartbeats 1000000 in
theorem decode_calls (A : Option Addr) (n c : Nat) (xs : List Int) (w : World) (hC : (Kd.int .u8).C w A n xs) (hc : n ≤ c) (hb : ∀ x ∈ xs, 0 ≤ x ∧ x ≤ 255) :
    Calls Try.prog 38 #[.slice A n c] w fun e w' => e = .returned (ret3 (rdN xs)) ∧ Below w.heap.size w w' := by
  have hm := Kd.C_max hC
  have HC := Hd.mk hC
  have HB := Hd.mk hb
  clear hC hb
  have HR : Hd (rdA xs n 0 = rdN xs) := ⟨by rw [rdN, HC.out.1]⟩
  go_enter Try.func38, Try.ntmps38
  go_wp2
  go_loopg [13] n (fun k i w' => ∃ j : Nat, i = .int .i64 j ∧ j + k = n ∧ j ≤ 9 ∧ Hd (rdA xs k j = rdN xs) ∧ Hd (Tkr w' w.heap.size (val (xs.take j)) j) ∧ Hd (Below w.heap.size w w'))
  case atStart => exact ⟨0, rfl, by omega, by omega, HR, ⟨blk_new w _⟩, ⟨(Below.refl _ _).alloc (Nat.le_refl _) _⟩⟩
  case round =>
    clear HR
    obtain ⟨j, rfl, hj, h9, HR, HT, HW⟩ := hrel
    rcases Nat.eq_zero_or_pos gk with rfl | hp
    · go_wp2
      go_ret3
      exact ⟨by rw [← HR.out]; rfl, HW.out⟩
    · obtain ⟨k, rfl⟩ : ∃ k, gk = k + 1 := ⟨gk - 1, by omega⟩
      have hl : j < xs.length := by have := HC.out.1; omega
      obtain ⟨ad, hA, hcell⟩ := at_byte (Kd.C_below HC.out HW.out) j (by omega)
      subst hA
      have hr := HR.out
      rw [rdA] at hr
      obtain ⟨x0, x1⟩ := gb_range HB.out j
      have T1 := Hd.mk (fun e => tk_wrong (e := e) hl)
      have T2 := Hd.mk (tk_more hl)
      have T3 := Hd.mk (tk_done hl)
      obtain ⟨v, ev⟩ : ∃ v, val (xs.take j) = v := ⟨_, rfl⟩
      have hv0 := val_nonneg (xs.take j)
      have hv1 := val_lt (xs.take j)
      rw [List.length_take, Nat.min_eq_left (by omega), ev] at hv1
      have HV1 := Hd.mk hv1
      rw [ev] at hv0 T1 T2 T3 HT
      obtain ⟨x, ex⟩ : ∃ x, gb xs j = x := ⟨_, rfl⟩
      rw [ex] at hr hcell x0 x1 T1 T2 T3
      have EX := Hd.mk ex
      clear ex HR hv1 ev
      have hcall := Hd.mk (take_calls w.heap.size v j x wr HT.out h9 x0 x1 hv0 HV1.out)
      have hbelow : ∀ w', Upd (fun k => k = w.heap.size) wr w' → Below w.heap.size w w' := fun w' hu => HW.out.trans (hu.below (HW.out.size) (fun k hk e => by omega))
      have HB' := Hd.mk hbelow
      clear hbelow
      by_cases hw : wrongB (j + 1 : Nat) x = 0
      · rw [if_neg (by simpa using hw)] at hr
        by_cases hx : x < 128
        · rw [if_pos hx] at hr
          have HR := Hd.mk hr
          have E3 := Hd.mk (T3.out hw hx)
          clear hr hw T1 T2 T3
          go_wp2_with (first | (go_at_call 59; refine hcall.out.mono ?_; rw [E3.out]; unfold retT; dsimp only; rintro e w' ⟨rfl, ht, hu⟩; have HT' := Hd.mk ht; have HU := Hd.mk hu; clear ht hu))
          go_ret3
          exact ⟨by rw [← HR.out]; rfl, HB'.out _ HU.out⟩
        · rw [if_neg hx] at hr
          have HR := Hd.mk hr
          have E3 := Hd.mk (show (tk v j x).2 = (0, false, 0) by rw [T2.out hw hx])
          have E4 := Hd.mk (T2.out hw hx)
          have h9' := wrong9 h9 hw hx
          clear hr hw T1 T2 T3
          go_wp2_with (first | (go_at_call 59; refine hcall.out.mono ?_; rw [E3.out]; unfold retT; dsimp only; rintro e w' ⟨rfl, ht, hu⟩; have HT' := Hd.mk ht; have HU := Hd.mk hu; clear ht hu))
          go_roundg k
          case measure => omega
          case rel => exact ⟨j + 1, by go_num, by omega, by omega, HR, ⟨by have := HT'.out; rw [E4.out] at this; exact this⟩, ⟨HB'.out _ HU.out⟩⟩
      · rw [if_pos hw] at hr
        have HR := Hd.mk hr
        have E3 := Hd.mk (T1.out _ rfl hw)
        obtain ⟨e, he⟩ : ∃ e, wrongB (j + 1 : Nat) x = e := ⟨_, rfl⟩
        rw [he] at E3 HR hw
        have hw' : (e == 0) = false := by simpa using hw
        clear hr T1 T2 T3 hw he
        go_wp2_with (first | (go_at_call 59; refine hcall.out.mono ?_; rw [E3.out]; unfold retT; dsimp only; rintro e w' ⟨rfl, ht, hu⟩; have HT' := Hd.mk ht; have HU := Hd.mk hu; clear ht hu))
        go_ret3
        exact ⟨by rw [← HR.out]; rfl, HB'.out _ HU.out⟩
end Go.Proofs.Ytinlfoblpgpikaa
