/- crc: bytes: the nibbles' table, through, the reference's run; More, Sum, awake. -/
import Derived.Test.YtelmkcbakeccoaaJn
import Derived.Test.YtelmkcbakeccoaaRd
namespace Go.Proofs.Ytelmkcbakeccoaa
open Go.RowKit Go.Proofs.YtelmkcbakeccoaaW.PrintWords Go.Proofs.YtelmkcbakeccoaaW.PrintLast Go.Proofs.YtelmkcbakeccoaaW.PrintMore
set_option linter.unusedVariables false
set_option linter.unusedSimpArgs false
def tableV : Nat → R := fun k => Sn 4 (BitVec.ofNat 32 k)
set_option maxHeartbeats 1000000 in
theorem nibbles_calls (w : World) : Calls Try.prog 42 #[] w fun e w' => e = .returned (.pointer (some ⟨w.heap.size, 0, none⟩)) ∧ Below w.heap.size w w' ∧ ∀ k : Nat, k < 16 → w'.cell? ⟨w.heap.size, k, none⟩ = some (.int .u32 (W (tableV k))) := by
  go_enter Try.func42, Try.ntmps42
  go_wp2
  go_ret
  refine ⟨rfl, (Below.refl _ _).alloc (Nat.le_refl _) _, ?_⟩
  intro k hk
  rw [blk_cell (blk_new w _)]
  rcases (by omega : k = 0 ∨ k = 1 ∨ k = 2 ∨ k = 3 ∨ k = 4 ∨ k = 5 ∨ k = 6 ∨ k = 7 ∨ k = 8 ∨ k = 9 ∨ k = 10 ∨ k = 11 ∨ k = 12 ∨ k = 13 ∨ k = 14 ∨ k = 15) with rfl | rfl | rfl | rfl | rfl | rfl | rfl | rfl | rfl | rfl | rfl | rfl | rfl | rfl | rfl | rfl
  · exact congrArg (fun x => some (Value.int .u32 x)) (show (0 : Int) = W (tableV 0) by decide)
  · exact congrArg (fun x => some (Value.int .u32 x)) (show (498536548 : Int) = W (tableV 1) by decide)
  · exact congrArg (fun x => some (Value.int .u32 x)) (show (997073096 : Int) = W (tableV 2) by decide)
  · exact congrArg (fun x => some (Value.int .u32 x)) (show (651767980 : Int) = W (tableV 3) by decide)
  · exact congrArg (fun x => some (Value.int .u32 x)) (show (1994146192 : Int) = W (tableV 4) by decide)
  · exact congrArg (fun x => some (Value.int .u32 x)) (show (1802195444 : Int) = W (tableV 5) by decide)
  · exact congrArg (fun x => some (Value.int .u32 x)) (show (1303535960 : Int) = W (tableV 6) by decide)
  · exact congrArg (fun x => some (Value.int .u32 x)) (show (1342533948 : Int) = W (tableV 7) by decide)
  · exact congrArg (fun x => some (Value.int .u32 x)) (show (3988292384 : Int) = W (tableV 8) by decide)
  · exact congrArg (fun x => some (Value.int .u32 x)) (show (4027552580 : Int) = W (tableV 9) by decide)
  · exact congrArg (fun x => some (Value.int .u32 x)) (show (3604390888 : Int) = W (tableV 10) by decide)
  · exact congrArg (fun x => some (Value.int .u32 x)) (show (3412177804 : Int) = W (tableV 11) by decide)
  · exact congrArg (fun x => some (Value.int .u32 x)) (show (2607071920 : Int) = W (tableV 12) by decide)
  · exact congrArg (fun x => some (Value.int .u32 x)) (show (2262029012 : Int) = W (tableV 13) by decide)
  · exact congrArg (fun x => some (Value.int .u32 x)) (show (2685067896 : Int) = W (tableV 14) by decide)
  · exact congrArg (fun x => some (Value.int .u32 x)) (show (3183342108 : Int) = W (tableV 15) by decide)

theorem runB_snoc (xs : List Int) (r : R) (j : Nat) (h : j < xs.length) : runB r (xs.take (j + 1)) = Sn 8 (runB r (xs.take j) ^^^ BitVec.ofInt 32 (gb xs j)) := by
  rw [List.take_add_one, runB_append, List.getElem?_eq_getElem h]
  simp [runB, gb, h]
theorem nib_fact {w : World} {g : Nat} (hT : ∀ k : Nat, k < 16 → w.cell? ⟨g, k, none⟩ = some (.int .u32 (W (tableV k)))) (y : Int) (a : R) (hy : y = W a) :
    0 ≤ bits .and .u32 y 15 ∧ bits .and .u32 y 15 < 16 ∧ w.cell? ⟨g, (bits .and .u32 y 15).toNat, none⟩ = some (.int .u32 (W (Sn 4 (a &&& 15#32)))) ∧ bits .xor .u32 (y / 16) (W (Sn 4 (a &&& 15#32))) = W (nib a) := by
  subst hy
  have e : bits .and .u32 (W a) 15 = W (a &&& 15#32) := by rw [show (15 : Int) = W 15#32 by decide, W_and]
  have hl : (a &&& 15#32).toNat < 16 := by
    rw [BitVec.toNat_and, show (15#32).toNat = 2 ^ 4 - 1 by decide, Nat.and_two_pow_sub_one_eq_mod]
    omega
  rw [e]
  refine ⟨(W_bd _).1, by unfold W; omega, ?_, by rw [W_shr4, W_xor]; rfl⟩
  have := hT (a &&& 15#32).toNat hl
  rw [show (W (a &&& 15#32)).toNat = (a &&& 15#32).toNat by unfold W; omega, this]
  unfold tableV
  rw [BitVec.ofNat_toNat, BitVec.setWidth_eq]
theorem xor_byte (q : R) (x : Int) (h0 : 0 ≤ x) (h1 : x ≤ 255) : bits .xor .u32 (W q) x = W (q ^^^ BitVec.ofInt 32 x) := by
  conv => lhs; rw [show x = W (BitVec.ofInt 32 x) from (W_ofInt x h0 (by omega)).symm]
  rw [W_xor]
set_option maxHeartbeats 1000000 in
theorem through_calls (r : R) (A : Option Addr) (n c : Nat) (xs : List Int) (w : World) (hC : (Kd.int .u8).C w A n xs) (hc : n ≤ c) (hr : ∀ x ∈ xs, 0 ≤ x ∧ x ≤ 255) :
    Calls Try.prog 36 #[.int .u32 (W r), .slice A n c] w fun e w' => e = .returned (.int .u32 (W (runB r xs))) ∧ Below w.heap.size w w' := by
  have hm := Kd.C_max hC
  have HR := Hd.mk hr
  have HC := Hd.mk hC
  clear hC hr
  go_enter Try.func36, Try.ntmps36
  go_wp2_with fail
  go_at_call 42
  refine (nibbles_calls _).mono ?_
  rintro e w' ⟨rfl, hB, hT⟩
  have HB := Hd.mk hB
  have HT := Hd.mk hT
  have HC' := Hd.mk (Kd.C_below HC.out hB)
  clear hB hT
  obtain ⟨g, eg⟩ : ∃ g, w.heap.size = g := ⟨_, rfl⟩
  rw [eg] at HB HT ⊢
  go_wp2
  go_loopg [0, 7, 11] n (fun k u b y w'' => w'' = w' ∧ ∃ j : Nat, y = .int .i64 j ∧ j + k = n ∧ u = .int .u32 (W (runB r (xs.take j))))
  case atStart => exact ⟨rfl, 0, rfl, by omega, rfl⟩
  case round =>
    obtain ⟨rfl, j, rfl, hj, rfl⟩ := hrel
    rcases Nat.eq_zero_or_pos gk with rfl | hp
    · obtain rfl : j = n := by omega
      obtain ⟨m, em⟩ : ∃ m, W (runB r (xs.take j)) = m := ⟨_, rfl⟩
      rw [em]
      have EM := Hd.mk em
      clear em
      go_wp2
      go_ret
      refine ⟨?_, by rw [eg]; exact HB.out⟩
      rw [← EM.out, List.take_of_length_le (by have := HC.out.1; omega)]
      rfl
    · obtain ⟨k, rfl⟩ : ∃ k, gk = k + 1 := ⟨gk - 1, by omega⟩
      obtain ⟨ad, hA, hcell⟩ := at_byte HC'.out j (by omega)
      subst hA
      obtain ⟨x0, x1⟩ := gb_range HR.out j
      have HS := Hd.mk (runB_snoc xs r j (by have := HC.out.1; omega))
      obtain ⟨x, ex⟩ : ∃ x, gb xs j = x := ⟨_, rfl⟩
      obtain ⟨q, eq⟩ : ∃ q, runB r (xs.take j) = q := ⟨_, rfl⟩
      rw [ex] at hcell x0 x1 HS
      rw [eq] at HS ⊢
      clear ex eq
      have hx := xor_byte q x x0 x1
      obtain ⟨ha0, ha1, ha2, ha3⟩ := nib_fact HT.out _ _ hx
      obtain ⟨hb0, hb1, hb2, hb3⟩ := nib_fact HT.out _ _ ha3
      rw [nib2] at hb3
      have HX := Hd.mk hb3
      clear hb3 ha3 hx
      go_wp2
      go_roundg k
      case measure => omega
      case rel => exact ⟨rfl, j + 1, by go_num, by omega, by rw [HS.out, HX.out]⟩
end Go.Proofs.Ytelmkcbakeccoaa
