/- crc: the walk of CrcThird. -/
import Derived.Test.YtelmkcbakeccoaaTh
import Derived.Deep.Heap
namespace Go.Proofs.Ytelmkcbakeccoaa
open Go.RowKit Go.Proofs.YtelmkcbakeccoaaW.PrintWords Go.Proofs.YtelmkcbakeccoaaW.PrintLast Go.Proofs.YtelmkcbakeccoaaW.PrintMore
set_option linter.unusedVariables false
set_option linter.unusedSimpArgs false
theorem turned_next {xs ys : List Int} {j : Nat} (h : ∀ r, runB r ys = runB r xs ^^^ turns j) (hr : ∀ x ∈ ys, 0 ≤ x ∧ x ≤ 255) (hn : ys.length = 11455) (hp : posn j < 91640) :
    ∀ r, runB r (ys.set (posn j / 8) (bits .xor .u8 (gb ys (posn j / 8)) (2 ^ (posn j % 8)))) = runB r xs ^^^ turns (j + 1) := by
  intro r
  rw [flip_run r ys 11455 (posn j) hr hn hp, h r, BitVec.xor_assoc]
  rfl
set_option maxHeartbeats 4000000 in
theorem walk_crcThird (a0 : Option Addr) (n0 c0 : Nat) (z0 : List Int) (w : World) (h0 : IsRow .u8 w a0 n0 c0 z0) (y0 : n0 * 1 ≤ 140737488351232) :
    Calls Try.prog 7 #[.slice a0 n0 c0] w fun e w' => e = .returned (.bool true) ∧ Below w.heap.size w w' := by
  obtain ⟨ps, hB⟩ := h0.bytes
  have HB := Hd.mk hB
  clear hB h0
  go_enter Try.func7, Try.ntmps7
  go_wp2_with (first
    | (refine wpList_copyB rfl _ _ rfl 11455 g0 rfl rfl HB1.out HG.out (by omega) g0 w HW.out HGE.out ?_; intro w2 xs h2 h3)
    | (at_builtin; refine wpList_copy1 rfl _ _ rfl rfl rfl h2.out (by omega) (by omega) ?_; intro g c2 w3 hg hc2 h4 h5)
    | (at_make; go_must (refine wpList_makeB0 rfl _ _ rfl 11455 rfl rfl (by omega) (by omega) ?_); intro w1 h1 hw1; have HB1 := Hd.mk (HB.out.below hw1.out); obtain ⟨g0, eg0⟩ : ∃ g, w.heap.size = g := ⟨_, rfl⟩; have HW : Hd (Below w.heap.size w w1) := hw1; have HG : Hd (w1.heap[g0]? = some (.cells (nums .u8 (List.replicate 11455 0)).toArray 5 (0, 0))) := ⟨by rw [← eg0]; exact h1.out⟩; have HGE : Hd (w.heap.size ≤ g0) := ⟨by omega⟩; rw [eg0] at HW HGE ⊢; clear h1 hw1))
  have h4' := h4.out
  rw [OB, h2.out.len] at h4'
  obtain ⟨_, _, eg, _, hgl⟩ := World.ownsRow.form h4' (by omega)
  cases eg
  have HO := Hd.mk (h4'.alloc (.cells #[.int .i64 91639, .int .i64 41678, .int .i64 0] 3))
  have HW3 := Hd.mk (h5.out.alloc h5.out.size (.cells #[.int .i64 91639, .int .i64 41678, .int .i64 0] 3))
  have HL := Hd.mk (blk_new w3 (.cells #[.int .i64 91639, .int .i64 41678, .int .i64 0] 3))
  have HT : Hd (∀ r, runB r xs = runB r xs ^^^ turns 0) := ⟨fun r => by rw [turns, BitVec.xor_zero]⟩
  have HR := Hd.mk h2.out.hr
  have HN := Hd.mk h2.out.len
  clear h4 h4' h5 hc2
  obtain ⟨g3, eg3⟩ : ∃ g3, w3.heap.size = g3 := ⟨_, rfl⟩
  rw [eg3] at HL hgl ⊢
  go_loopg [16] 3 (fun k y w'' => ∃ (j : Nat) (ys : List Int), y = .int .i64 j ∧ j + k = 3 ∧ Hd (w''.ownsRow w2.heap.size 5 1 (.slice (some ⟨g, 0, none⟩) 11455 c2) 11455 (nums .u8 ys)) ∧ Hd (Below w2.heap.size w2 w'') ∧ Hd (w''.heap[g3]? = some (.cells #[.int .i64 91639, .int .i64 41678, .int .i64 0] 3)) ∧ Hd (∀ r, runB r ys = runB r xs ^^^ turns j) ∧ Hd (∀ x ∈ ys, 0 ≤ x ∧ x ≤ 255) ∧ Hd (ys.length = 11455))
  case atStart => exact ⟨0, xs, rfl, by omega, HO, HW3, HL, HT, HR, HN⟩
  case round =>
    clear HO HW3 HL HT HR HN
    obtain ⟨j, ys, rfl, hj, HO, HWB, HL, HT, HR, HN⟩ := hrel
    rcases Nat.eq_zero_or_pos gk with rfl | hp
    · obtain rfl : j = 3 := by omega
      have hys : sumOf [ys] = sumOf [xs] := by
        show ~~~ runB _ ys = ~~~ runB _ xs
        rw [HT.out, turns3, BitVec.xor_zero]
      have hBY : Bs wr (some ⟨g, 0, none⟩) 11455 c2 ys := by
        have hO : OB wr w2.heap.size (.slice (some ⟨g, 0, none⟩) 11455 c2) ys := by rw [OB, HN.out]; exact HO.out
        obtain ⟨A, c, e, hb⟩ := OB.bs hO HR.out
        rw [HN.out] at e hb
        cases e
        exact hb
      have HBY := Hd.mk hBY
      have HBX := Hd.mk (h2.out.below HWB.out)
      have HS := Hd.mk hys
      have HZ : Hd (Below w.heap.size w wr) := ⟨by rw [eg0]; exact h3.out.trans (HWB.out.mono (by have := h3.out.size; omega))⟩
      have S1 : Hd (∀ (w : World), Bs w (some ⟨g0, 0, none⟩) 11455 11455 xs → Calls Try.prog 22 #[.slice (some ⟨w.heap.size, 0, none⟩) 1 1] (w.alloc (.cells #[.slice (some ⟨g0, 0, none⟩) 11455 11455] 23)) fun e w' => e = .returned (.int .u32 (W (sumOf [xs]))) ∧ Below (w.alloc (.cells #[.slice (some ⟨g0, 0, none⟩) 11455 11455] 23)).heap.size (w.alloc (.cells #[.slice (some ⟨g0, 0, none⟩) 11455 11455] 23)) w') := ⟨fun w hb => sum_calls _ 1 1 [xs] _ (Ps.one 23 hb) (Nat.le_refl _)⟩
      have S2 : Hd (∀ (w : World), Bs w (some ⟨g, 0, none⟩) 11455 c2 ys → Calls Try.prog 22 #[.slice (some ⟨w.heap.size, 0, none⟩) 1 1] (w.alloc (.cells #[.slice (some ⟨g, 0, none⟩) 11455 c2] 23)) fun e w' => e = .returned (.int .u32 (W (sumOf [xs]))) ∧ Below (w.alloc (.cells #[.slice (some ⟨g, 0, none⟩) 11455 c2] 23)).heap.size (w.alloc (.cells #[.slice (some ⟨g, 0, none⟩) 11455 c2] 23)) w') := ⟨fun w hb => HS.out ▸ sum_calls _ 1 1 [ys] _ (Ps.one 23 hb) (Nat.le_refl _)⟩
      obtain ⟨u, eu⟩ : ∃ u, W (sumOf [xs]) = u := ⟨_, rfl⟩
      rw [eu] at S1 S2
      clear eu HS HWB HO HT HL hys hBY h2 h3 HB1 HG HW HGE eg0 eg3 hg hgl hj
      go_wp2_with fail
      go_at_call 21
      refine (awake_calls _).mono ?_
      rintro e w5 ⟨rfl, h5⟩
      have H5 := Hd.mk (below_step HZ.out h5)
      have HX5 := Hd.mk (HBX.out.below h5)
      have HY5 := Hd.mk (HBY.out.below h5)
      clear h5 HZ HBX HBY
      go_wp2_with fail
      go_at_call 22
      refine (S1.out w5 HX5.out).mono ?_
      rintro e w6 ⟨rfl, h6⟩
      have h6' := below_step ((Below.refl w5.heap.size w5).alloc (Nat.le_refl _) (.cells #[.slice (some ⟨g0, 0, none⟩) 11455 11455] 23)) h6
      have H6 := Hd.mk (below_step H5.out h6')
      have HY6 := Hd.mk (HY5.out.below h6')
      clear h6 h6' H5 HY5
      go_wp2_with fail
      go_at_call 22
      refine (S2.out w6 HY6.out).mono ?_
      rintro e w7 ⟨rfl, h7⟩
      have H7 := Hd.mk (below_step (H6.out.alloc H6.out.size (.cells #[.slice (some ⟨g, 0, none⟩) 11455 c2] 23)) h7)
      clear h7 H6
      go_wp2
      go_ret
      exact ⟨rfl, H7.out⟩
    · obtain ⟨k, rfl⟩ : ∃ k, gk = k + 1 := ⟨gk - 1, by omega⟩
      have hv : ∃ (v : Int) (at_ : Nat), wr.cell? ⟨g3, j, none⟩ = some (.int .i64 v) ∧ 0 ≤ v ∧ v ≤ 91639 ∧ 91639 - v = (at_ : Int) ∧ posn j = at_ := by
        rw [blk_cell HL.out]
        rcases (by omega : j = 0 ∨ j = 1 ∨ j = 2) with rfl | rfl | rfl
        · exact ⟨91639, 0, rfl, by omega, by omega, by omega, rfl⟩
        · exact ⟨41678, 49961, rfl, by omega, by omega, by omega, rfl⟩
        · exact ⟨0, 91639, rfl, by omega, by omega, by omega, rfl⟩
      obtain ⟨v, at_, hcell, v0, v1, hat, hpos⟩ := hv
      have hal : at_ < 91640 := by omega
      obtain ⟨q, hq⟩ : ∃ q : Nat, at_ / 8 = q := ⟨_, rfl⟩
      obtain ⟨b, hb⟩ : ∃ b : Nat, at_ % 8 = b := ⟨_, rfl⟩
      have hq' : (at_ : Int) / 8 = q := by omega
      have hb' : (at_ : Int) % 8 = b := by omega
      have hqn : q < 11455 := by omega
      have hb8 : b < 8 := by omega
      have hto := turned_next HT.out HR.out HN.out (by rw [hpos]; exact hal)
      rw [hpos, hq, hb] at hto
      have HTO := Hd.mk hto
      obtain ⟨hc1, hf1⟩ := own_at HO.out (q : Int) (by omega) (by omega)
      rw [Int.toNat_natCast, rd_gb] at hc1
      rw [Int.toNat_natCast] at hf1
      clear hto hpos
      have he : (2 : Int) ^ b % 256 = 2 ^ b := by
        have := pow_byte b hb8
        have h0 : (0 : Int) ≤ 2 ^ b := Int.le_of_lt (Int.pow_pos (by omega))
        omega
      have hst := (own_store HO.out (q : Int) (bits .xor .u8 (gb ys q) (2 ^ b % 256))).1
      rw [Int.toNat_natCast] at hst
      have HST := Hd.mk hst
      have HE := Hd.mk he
      clear hst he hq hb
      go_wp2
      go_roundg k
      case measure => omega
      case rel =>
        have hgr := gb_range HR.out q
        have hpb := pow_byte b hb8
        have h0 : (0 : Int) ≤ 2 ^ b := Int.le_of_lt (Int.pow_pos (by omega))
        obtain ⟨_, u0, u1⟩ := byte_xor (gb ys q) (2 ^ b % 256) hgr.1 hgr.2 (by omega) (by omega)
        have hto := HTO.out
        rw [← HE.out] at hto
        exact ⟨j + 1, ys.set q (bits .xor .u8 (gb ys q) (2 ^ b % 256)), by go_num, by omega, HST, ⟨HWB.out.setCell hg _⟩, ⟨(Go.Deep.blk_setCell_other _ _ _ _ (by simp; omega)).trans HL.out⟩, ⟨hto⟩, ⟨set_range HR.out q _ u0 u1⟩, ⟨by rw [List.length_set]; exact HN.out⟩⟩
end Go.Proofs.Ytelmkcbakeccoaa
