/- num: the program's Taker (Reset, Take, Waits) and Decode. -/
import Derived.Test.YtinlfoblpgpikaaN1
namespace Go.Proofs.Ytinlfoblpgpikaa
open Go.RowKit Go.Proofs.YtinlfoblpgpikaaW.PrintWords Go.Proofs.YtinlfoblpgpikaaW.PrintLast Go.Proofs.YtinlfoblpgpikaaW.PrintMore
set_option linter.unusedVariables false
set_option linter.unusedSimpArgs false

/-- A Taker at block g. -/
def Tkr (w : World) (g : Nat) (v h : Int) : Prop := w.heap[g]? = some (.cells #[.int .u64 v, .int .i64 h] 120 (0, 0))
theorem Tkr.set {w : World} {g : Nat} {v h : Int} (hg : Tkr w g v h) (x : Int) : Tkr (w.setCell ⟨g, 0, none⟩ (.int .u64 x)) g x h := by
  have := blk_set hg 0 (.int .u64 x)
  simpa [Tkr] using this
theorem Tkr.set1 {w : World} {g : Nat} {v h : Int} (hg : Tkr w g v h) (x : Int) : Tkr (w.setCell ⟨g, 1, none⟩ (.int .i64 x)) g v x := by
  have := blk_set hg 1 (.int .i64 x)
  simpa [Tkr] using this
theorem Tkr.drew {w : World} {g : Nat} {v h : Int} (hg : Tkr w g v h) : Tkr w.drew g v h := hg

set_option maxHeartbeats 400000 in
theorem reset_calls (g : Nat) (v h : Int) (w : World) (hg : Tkr w g v h) :
    Calls Try.prog 69 #[.pointer (some ⟨g, 0, none⟩)] w fun e w' => e = .returned (.tuple #[]) ∧ w' = (w.setCell ⟨g, 0, none⟩ (.int .u64 0)).setCell ⟨g, 1, none⟩ (.int .i64 0) := by
  have c0 := (blk_cell hg 0)
  have c1 := (blk_cell hg 1)
  have f0 := (blk_frozen hg 0)
  have f1 := (blk_frozen hg 1)
  simp at c0 c1
  clear hg
  go_enter Try.func69, Try.ntmps69
  go_wp2
  go_end0
  exact ⟨rfl, rfl⟩
theorem reset_nil (w : World) :
    Calls Try.prog 69 #[.pointer none] w fun e w' => e = .returned (.tuple #[]) ∧ w' = w := by
  go_enter Try.func69, Try.ntmps69
  go_wp2
  go_end0
  exact ⟨rfl, rfl⟩

/-! ### Take -/
/-- The state behind a byte, and the answer: number, done, error. -/
def tk (v h b : Int) : (Int × Int) × (Int × Bool × Int) :=
  if h = 9 ∧ 1 < b then ((0, 0), (0, false, 10))
  else if 0 < h ∧ b = 0 then ((0, 0), (0, false, 12))
  else if 127 < b then ((v + 128 ^ h.toNat * (b % 128), h + 1), (0, false, 0))
  else ((0, 0), (v + 128 ^ h.toNat * (b % 128), true, 0))
def retT (r : Int × Bool × Int) : Value := .tuple #[.int .u64 r.1, .bool r.2.1, .int .i64 r.2.2]
theorem and127 (b : Int) (b0 : 0 ≤ b) (b1 : b ≤ 255) : bits .and .u8 b 127 = b % 128 :=
  bits_mask .u8 8 (by decide) wraps_u8 7 (by decide) b b0 (by omega)
theorem bits_or_comm (k : IntKind) (x y : Int) : bits .or k x y = bits .or k y x := by
  show k.wrap _ = k.wrap _
  rw [BitVec.or_comm]
theorem take_or (v b : Int) (h : Nat) (h9 : h ≤ 9) (b0 : 0 ≤ b) (b1 : b ≤ 255) (v0 : 0 ≤ v) (v1 : v < 128 ^ h) (hb : h = 9 → b ≤ 1) :
    bits .or .u64 v (IntKind.u64.wrap (IntKind.u64.wrap (bits .and .u8 b 127) * 2 ^ (7 * (h : Int)).toNat)) = v + 128 ^ h * (b % 128) := by
  rw [and127 b b0 b1, IntKind.wrap_u64, IntKind.wrap_u64]
  have e : (2 : Int) ^ (7 * (h : Int)).toNat = 128 ^ h := by
    rw [show (7 * (h : Int)).toNat = 7 * h by omega, Int.pow_mul]
    rfl
  rw [e]
  have hm : (b % 128) % 18446744073709551616 = b % 128 := by omega
  rw [hm]
  have hp : 0 < (128 : Int) ^ h := Int.pow_pos (by decide)
  have hfit : b % 128 * 128 ^ h < 18446744073709551616 := by
    by_cases h' : h = 9
    · have := hb h'
      subst h'
      have e : (128 : Int) ^ 9 = 9223372036854775808 := by decide
      rw [e]
      omega
    · have h8 : h = 0 ∨ h = 1 ∨ h = 2 ∨ h = 3 ∨ h = 4 ∨ h = 5 ∨ h = 6 ∨ h = 7 ∨ h = 8 := by omega
      have e : (128 : Int) ^ h ≤ 72057594037927936 := by
        rcases h8 with rfl | rfl | rfl | rfl | rfl | rfl | rfl | rfl | rfl <;> decide
      have : (b % 128) * (128 : Int) ^ h ≤ 127 * 128 ^ h := Int.mul_le_mul_of_nonneg_right (by omega) (by omega)
      omega
  have hnn : 0 ≤ b % 128 * 128 ^ h := Int.mul_nonneg (by omega) (by omega)
  rw [Int.emod_eq_of_lt hnn hfit, Int.mul_comm (128 ^ h), bits_or_comm, Int.add_comm]
  have e2 : (2 : Int) ^ (7 * h) = 128 ^ h := by rw [Int.pow_mul]; rfl
  exact bits_join .u64 64 (by decide) (by intro n a b; rw [IntKind.wrap_u64]; omega) (7 * h) _ _ hnn (by rw [e2]; exact Int.mul_emod_left _ _) (by omega) v0 (by rw [e2]; exact v1)
    (Int.lt_of_lt_of_le v1 (Int.le_trans (pow_le9 h9) (by decide)))

set_option maxHeartbeats 1000000 in
theorem take_calls (g : Nat) (v : Int) (h : Nat) (b : Int) (w : World) (hg : Tkr w g v h)
    (h9 : h ≤ 9) (b0 : 0 ≤ b) (b1 : b ≤ 255) (v0 : 0 ≤ v) (v1 : v < 128 ^ h) :
    Calls Try.prog 59 #[.pointer (some ⟨g, 0, none⟩), .int .u8 b] w fun e w' => e = .returned (retT (tk v h b).2) ∧ Tkr w' g (tk v h b).1.1 (tk v h b).1.2 ∧ Upd (· = g) w w' := by
  have hlt := blk_lt hg
  have c0 := (blk_cell hg 0)
  have c1 := (blk_cell hg 1)
  have f0 := (blk_frozen hg 0)
  have f1 := (blk_frozen hg 1)
  simp at c0 c1
  have HG := Hd.mk hg
  have HV := Hd.mk v1
  clear hg v1
  by_cases k1 : h = 9 ∧ 1 < b
  · have ht : tk v h b = ((0, 0), (0, false, 10)) := by unfold tk; rw [if_pos (by omega)]
    rw [ht]
    have e1 : ((h : Int) == 9) = true := by simp; omega
    have e2 := k1.2
    clear k1 ht
    go_enter Try.func59, Try.ntmps59
    go_wp2_with (first
      | (go_at_call 69; refine (reset_calls g v h _ HG.out).mono ?_; rintro e w' ⟨rfl, rfl⟩))
    go_ret3
    exact ⟨rfl, (HG.out.set 0).set1 0, ((Upd.refl _ _).set1 _ _).set1 _ _⟩
  · by_cases k2 : 0 < h ∧ b = 0
    · have ht : tk v h b = ((0, 0), (0, false, 12)) := by unfold tk; rw [if_neg (by omega), if_pos (by omega)]
      rw [ht]
      have e1 : (b == 0) = true := by simp; omega
      have e2 := k2.1
      have e3 : b ≤ 1 := by omega
      clear k1 k2 ht
      go_enter Try.func59, Try.ntmps59
      go_wp2_with (first
        | (go_at_call 69; refine (reset_calls g v h _ HG.out).mono ?_; rintro e w' ⟨rfl, rfl⟩))
      all_goals go_ret3
      all_goals exact ⟨rfl, (HG.out.set 0).set1 0, ((Upd.refl _ _).set1 _ _).set1 _ _⟩
    · have E := Hd.mk (take_or v b h h9 b0 b1 v0 HV.out (by omega))
      have k1' : h = 9 → b ≤ 1 := by omega
      by_cases k3 : 127 < b
      · have ht : tk v h b = ((v + 128 ^ h * (b % 128), (h : Int) + 1), (0, false, 0)) := by
          unfold tk
          rw [if_neg (by omega), if_neg (by omega), if_pos k3, Int.toNat_natCast]
        rw [ht]
        have e1 : (b == 0) = false := by simp; omega
        have h8 : ((h : Int) == 9) = false := by simp; omega
        clear k1 k2 k1' ht
        by_cases k4 : 0 < h
        · go_enter Try.func59, Try.ntmps59
          go_wp2_with (fail)
          go_region
          go_wp2_with (fail)
          all_goals go_ret3
          all_goals
            refine ⟨rfl, ?_, by repeat (first | exact Upd.refl _ _ | apply Upd.drew | apply Upd.drewN | apply Upd.set1)⟩
            rw [← E.out]
            repeat (first | exact HG.out | apply Tkr.drew | apply Tkr.set1 (h := (h : Int)) | apply Tkr.set)
        · go_enter Try.func59, Try.ntmps59
          go_wp2_with (fail)
          go_region
          go_wp2_with (fail)
          all_goals go_ret3
          all_goals
            refine ⟨rfl, ?_, by repeat (first | exact Upd.refl _ _ | apply Upd.drew | apply Upd.drewN | apply Upd.set1)⟩
            rw [← E.out]
            repeat (first | exact HG.out | apply Tkr.drew | apply Tkr.set1 (h := (h : Int)) | apply Tkr.set)
      · have ht : tk v h b = ((0, 0), (v + 128 ^ h * (b % 128), true, 0)) := by
          unfold tk
          rw [if_neg (by omega), if_neg (by omega), if_neg k3, Int.toNat_natCast]
        rw [ht]
        by_cases k4 : h = 9
        · have e1 : ((h : Int) == 9) = true := by simp; omega
          have e2 : (b == 0) = false := by simp; omega
          have e3 : b ≤ 1 := by omega
          have e4 : 0 < h := by omega
          clear k1 k2 k1' ht k4
          go_enter Try.func59, Try.ntmps59
          go_wp2_with (fail)
          go_region
          go_wp2_with (first
            | (go_at_call 69; refine (reset_calls g (v + 128 ^ h * (b % 128)) (h + 1) _ (by rw [← E.out]; repeat (first | exact HG.out | apply Tkr.drew | apply Tkr.set1 (h := (h : Int)) | apply Tkr.set))).mono ?_; rintro e w' ⟨rfl, rfl⟩))
          all_goals go_ret3
          all_goals
            refine ⟨by rw [← E.out]; rfl, ?_, by repeat (first | exact Upd.refl _ _ | apply Upd.drew | apply Upd.drewN | apply Upd.set1)⟩
            apply Tkr.set1 (h := (h : Int) + 1)
            apply Tkr.set (v := v + 128 ^ h * (b % 128))
            rw [← E.out]
            repeat (first | exact HG.out | apply Tkr.drew | apply Tkr.set1 (h := (h : Int)) | apply Tkr.set)
        · have e1 : ((h : Int) == 9) = false := by simp; omega
          by_cases k5 : 0 < h
          · have e2 : (b == 0) = false := by simp; omega
            clear k1 k2 k1' ht k4
            go_enter Try.func59, Try.ntmps59
            go_wp2_with (fail)
            go_region
            go_wp2_with (first
              | (go_at_call 69; refine (reset_calls g (v + 128 ^ h * (b % 128)) (h + 1) _ (by rw [← E.out]; repeat (first | exact HG.out | apply Tkr.drew | apply Tkr.set1 (h := (h : Int)) | apply Tkr.set))).mono ?_; rintro e w' ⟨rfl, rfl⟩))
            all_goals go_ret3
            all_goals
              refine ⟨by rw [← E.out]; rfl, ?_, by repeat (first | exact Upd.refl _ _ | apply Upd.drew | apply Upd.drewN | apply Upd.set1)⟩
              apply Tkr.set1 (h := (h : Int) + 1)
              apply Tkr.set (v := v + 128 ^ h * (b % 128))
              rw [← E.out]
              repeat (first | exact HG.out | apply Tkr.drew | apply Tkr.set1 (h := (h : Int)) | apply Tkr.set)
          · clear k1 k2 k1' ht k4
            go_enter Try.func59, Try.ntmps59
            go_wp2_with (fail)
            go_region
            go_wp2_with (first
              | (go_at_call 69; refine (reset_calls g (v + 128 ^ h * (b % 128)) (h + 1) _ (by rw [← E.out]; repeat (first | exact HG.out | apply Tkr.drew | apply Tkr.set1 (h := (h : Int)) | apply Tkr.set))).mono ?_; rintro e w' ⟨rfl, rfl⟩))
            all_goals go_ret3
            all_goals
              refine ⟨by rw [← E.out]; rfl, ?_, by repeat (first | exact Upd.refl _ _ | apply Upd.drew | apply Upd.drewN | apply Upd.set1)⟩
              apply Tkr.set1 (h := (h : Int) + 1)
              apply Tkr.set (v := v + 128 ^ h * (b % 128))
              rw [← E.out]
              repeat (first | exact HG.out | apply Tkr.drew | apply Tkr.set1 (h := (h : Int)) | apply Tkr.set)

end Go.Proofs.Ytinlfoblpgpikaa
