/- crc: bits turned one by one, each once; the walk of CrcFlips. -/
import Derived.Test.YtelmkcbakeccoaaRn
import Derived.Test.YtelmkcbakeccoaaNm
import Derived.Test.YtelmkcbakeccoaaFl
namespace Go.Proofs.Ytelmkcbakeccoaa
open Go.RowKit Go.Proofs.YtelmkcbakeccoaaW.PrintWords Go.Proofs.YtelmkcbakeccoaaW.PrintLast Go.Proofs.YtelmkcbakeccoaaW.PrintMore
set_option linter.unusedVariables false
set_option linter.unusedSimpArgs false
def bitA (xs : List Int) (p : Nat) : Int := gb xs (p / 8) / 2 ^ (p % 8) % 2
theorem byte_bits : ∀ v : Nat, v < 256 → ∀ k, k < 8 → ∀ j, j < 8 → bits .xor .u8 (v : Int) (2 ^ k) / 2 ^ j % 2 = if j = k then 1 - (v : Int) / 2 ^ j % 2 else (v : Int) / 2 ^ j % 2 := by decide +kernel
theorem gb_set (ys : List Int) (i j : Nat) (v : Int) (h : i < ys.length) : gb (ys.set i v) j = if i = j then v else gb ys j := by
  unfold gb
  rw [List.getD_eq_getElem?_getD, List.getD_eq_getElem?_getD, List.getElem?_set]
  split
  · subst_vars; simp [h]
  · rfl
theorem bit_eq {xs : List Int} {q b p : Nat} (hr : ∀ x ∈ xs, 0 ≤ x ∧ x ≤ 255) (hq : p / 8 = q) (hb : p % 8 = b) : bits .and .u8 (gb xs q / 2 ^ b) 1 = bitA xs p := by
  unfold bitA
  rw [hq, hb]
  have hg := gb_range hr q
  have h2 : (0 : Int) < 2 ^ b := Int.pow_pos (by omega)
  have h0 : 0 ≤ gb xs q / 2 ^ b := Int.ediv_nonneg hg.1 (Int.le_of_lt h2)
  have h1 : gb xs q / 2 ^ b ≤ gb xs q := Int.ediv_le_self _ hg.1
  exact bits_mask .u8 8 (by decide) wraps_u8 1 (by decide) _ h0 (by omega)
structure Flp (n0 : Nat) (xs ys : List Int) (ats : List Nat) : Prop where
  run : ∀ r, runB r ys = runB r xs ^^^ FX (31 + 8 * n0) ats
  nd : ats.Nodup
  lt : ∀ a ∈ ats, a < 8 * n0
  bit : ∀ p, p < 8 * n0 → (bitA ys p = bitA xs p ↔ p ∉ ats)
  rng : ∀ x ∈ ys, 0 ≤ x ∧ x ≤ 255
  len : ys.length = n0
theorem Flp.start {n0 : Nat} {xs : List Int} (hr : ∀ x ∈ xs, 0 ≤ x ∧ x ≤ 255) (hl : xs.length = n0) : Flp n0 xs xs [] :=
  ⟨fun r => by simp [FX], by simp, by simp, by simp, hr, hl⟩
theorem Flp.step {n0 p : Nat} {xs ys : List Int} {ats : List Nat} (h : Flp n0 xs ys ats) (hp : p < 8 * n0) (he : bitA ys p = bitA xs p) :
    Flp n0 xs (ys.set (p / 8) (bits .xor .u8 (gb ys (p / 8)) (2 ^ (p % 8)))) (ats ++ [p]) := by
  have hgr := gb_range h.rng (p / 8)
  have hpb := pow_byte (p % 8) (by omega)
  have h0 : (0 : Int) ≤ 2 ^ (p % 8) := Int.le_of_lt (Int.pow_pos (by omega))
  obtain ⟨_, v0, v1⟩ := byte_xor (gb ys (p / 8)) (2 ^ (p % 8)) hgr.1 hgr.2 (by omega) hpb.1
  have hn := (h.bit p hp).1 he
  refine ⟨fun r => ?_, ?_, ?_, ?_, set_range h.rng _ _ v0 v1, by rw [List.length_set]; exact h.len⟩
  · rw [flip_run r ys n0 p h.rng h.len hp, h.run, FX_snoc, BitVec.xor_assoc]
  · rw [List.nodup_append]
    exact ⟨h.nd, by simp, by
      intro a ha b hb
      simp at hb
      subst hb
      rintro rfl
      exact hn ha⟩
  · intro a ha
    rcases List.mem_append.1 ha with ha | ha
    · exact h.lt a ha
    · simp at ha; omega
  · intro q hq
    have hb : bitA (ys.set (p / 8) (bits .xor .u8 (gb ys (p / 8)) (2 ^ (p % 8)))) q = if q = p then 1 - bitA ys q else bitA ys q := by
      unfold bitA
      rw [gb_set _ _ _ _ (by rw [h.len]; omega)]
      by_cases h8 : p / 8 = q / 8
      · rw [if_pos h8]
        obtain ⟨v, hv⟩ : ∃ v : Nat, gb ys (p / 8) = v := ⟨(gb ys (p / 8)).toNat, by omega⟩
        rw [← h8, hv, byte_bits v (by omega) (p % 8) (by omega) (q % 8) (by omega)]
        by_cases hm : q % 8 = p % 8
        · rw [if_pos hm, if_pos (by omega)]
        · rw [if_neg hm, if_neg (by omega)]
      · rw [if_neg h8, if_neg (by omega)]
    rw [hb]
    have h01 : bitA ys q = 0 ∨ bitA ys q = 1 := by unfold bitA; omega
    by_cases hqp : q = p
    · subst hqp
      rw [if_pos rfl]
      simp
      omega
    · rw [if_neg hqp, h.bit q hq]
      simp [hqp]
def FlipPost (w : World) (n0 m : Nat) (xs : List Int) (e : Ending) (w' : World) : Prop :=
  ∃ (A : Option Addr) (c : Nat) (ys : List Int) (ats : List Nat), e = .returned (.tuple #[.slice A n0 c, .int .i64 ats.length]) ∧ Bs w' A n0 c ys ∧ Flp n0 xs ys ats ∧ ats.length ≤ m ∧ Below w.heap.size w w'
theorem FlipPost.mk' {w w' : World} {n0 m : Nat} {xs : List Int} {e : Ending} (A : Option Addr) (c : Nat) (ys : List Int) (ats : List Nat) (h1 : e = .returned (.tuple #[.slice A n0 c, .int .i64 ats.length])) (h2 : Bs w' A n0 c ys) (h3 : Flp n0 xs ys ats) (h4 : ats.length ≤ m) (h5 : Below w.heap.size w w') : FlipPost w n0 m xs e w' :=
  ⟨A, c, ys, ats, h1, h2, h3, h4, h5⟩
set_option maxHeartbeats 2000000 in
theorem flipped_calls (a0 : Option Addr) (n0 c0 : Nat) (xs : List Int) (B m d : Nat) (bs : Nat → Int) (w : World) (hB : Bs w a0 n0 c0 xs) (y0 : n0 * 1 ≤ 140737488351232)
    (hm : m ≤ 3) (hb : ∀ j, j < m → w.cell? ⟨B, j, none⟩ = some (.int .u64 (bs j))) (hbs : ∀ j, 0 ≤ bs j) (hBl : B < w.heap.size) :
    Calls Try.prog 26 #[.slice a0 n0 c0, .slice (some ⟨B, 0, none⟩) m d] w fun e w' => FlipPost w n0 m xs e w' := by
  have HB := Hd.mk hB
  have HC := Hd.mk hb
  have HP := Hd.mk hbs
  clear hB hb hbs
  rcases Nat.eq_zero_or_pos n0 with rfl | hp
  · go_enter Try.func26, Try.ntmps26
    go_wp2_with (first
      | (at_builtin; go_must (refine wpList_copy rfl _ _ rfl rfl rfl HB.out (by omega) ?_); intro A2 c2 w2 h1 h2 h3))
    refine wp_loop_rounds 1 ?_
    rw [rounds_succ]
    rcases Nat.eq_zero_or_pos m with rfl | hm0
    · go_wp2
      go_ret2
      exact FlipPost.mk' A2 c2 xs [] rfl h2.out (.start HB.out.hr HB.out.len) (by simp) h3.out
    · go_wp2
      go_ret2
      exact FlipPost.mk' A2 c2 xs [] rfl h2.out (.start HB.out.hr HB.out.len) (by simp) h3.out
  · have hl := HB.out.len
    go_enter Try.func26, Try.ntmps26
    go_wp2_with (first
      | (at_builtin; go_must (refine wpList_copy1 rfl _ _ rfl rfl rfl HB.out (by omega) hp ?_); intro g c2 w2 hg hc2 h2 h3))
    have h2' := h2.out
    rw [OB, hl] at h2'
    have HO2 := Hd.mk h2'
    have HF0 : Hd (Flp n0 xs xs []) := ⟨.start HB.out.hr hl⟩
    clear h2' h2 hl
    go_loopg [7, 8] m (fun k u y w'' => ∃ (j : Nat) (ys : List Int) (ats : List Nat), y = .int .i64 j ∧ j + k = m ∧ u = .int .i64 ats.length ∧ ats.length ≤ j ∧ Hd (w''.ownsRow w.heap.size 5 1 (.slice (some ⟨g, 0, none⟩) n0 c2) n0 (nums .u8 ys)) ∧ Hd (Below w.heap.size w w'') ∧ Hd (Flp n0 xs ys ats))
    case atStart => exact ⟨0, xs, [], rfl, by omega, rfl, by simp, HO2, h3, HF0⟩
    case round =>
      obtain ⟨j, ys, ats, rfl, hj, rfl, hla, HO, HW, HT⟩ := hrel
      by_cases hin : j < m
      · obtain ⟨k, rfl⟩ : ∃ k, gk = k + 1 := ⟨gk - 1, by omega⟩
        obtain ⟨p, hpn⟩ : ∃ p : Nat, bs j % (8 * (n0 : Int)) = p := ⟨(bs j % (8 * (n0 : Int))).toNat, by have := Int.emod_nonneg (bs j) (show 8 * (n0 : Int) ≠ 0 by omega); omega⟩
        have hp8 : p < 8 * n0 := by have := Int.emod_lt_of_pos (bs j) (show (0 : Int) < 8 * n0 by omega); omega
        have hcb := HW.out.cell (p := ⟨B, j, none⟩) hBl
        rw [HC.out j hin] at hcb
        have hb0 := HP.out j
        go_wp2
        simp only [hpn]
        obtain ⟨q, hq⟩ : ∃ q : Nat, p / 8 = q := ⟨_, rfl⟩
        obtain ⟨b, hb⟩ : ∃ b : Nat, p % 8 = b := ⟨_, rfl⟩
        have hq' : (p : Int) / 8 = q := by omega
        have hb' : (p : Int) % 8 = b := by omega
        have hqn : q < n0 := by omega
        have hb8 : b < 8 := by omega
        obtain ⟨hc1, hf1⟩ := own_at HO.out (q : Int) (by omega) (by omega)
        rw [Int.toNat_natCast, rd_gb] at hc1
        rw [Int.toNat_natCast] at hf1
        obtain ⟨ad, ea, hcx⟩ := at_byte (HB.out.below HW.out).C q hqn
        subst ea
        have HQ := Hd.mk hq
        have HBB := Hd.mk hb
        have HPN := Hd.mk hpn
        clear hq hb hpn hcb
        go_quiet (fail)
        go_wp2
        · rename_i htest
          have he : bitA ys p = bitA xs p := by
            rw [bit_eq HT.out.rng HQ.out HBB.out, bit_eq HB.out.hr HQ.out HBB.out] at htest
            simpa using htest
          clear htest
          have h2b : (2 : Int) ^ b % 256 = 2 ^ b := by
            have := pow_byte b hb8
            have h0 : (0 : Int) ≤ 2 ^ b := Int.le_of_lt (Int.pow_pos (by omega))
            omega
          go_roundg k
          case measure => omega
          case rel =>
            refine ⟨j + 1, ys.set q (bits .xor .u8 (gb ys q) (2 ^ b % 256)), ats ++ [p], by go_num, by omega, by simp, by simp; omega, ?_, ?_, ?_⟩
            · have hst := (own_store (W := wr.drewN nq) HO.out (q : Int) (bits .xor .u8 (gb ys q) (2 ^ b % 256))).1
              rw [Int.toNat_natCast] at hst
              exact ⟨hst⟩
            · exact ⟨(pw_below_drewN HW.out nq).setCell hg _⟩
            · have := HT.out.step hp8 he
              rw [HQ.out, HBB.out] at this
              rw [h2b]
              exact ⟨this⟩
        · rename_i htest
          clear htest
          go_roundg k
          case measure => omega
          case rel => exact ⟨j + 1, ys, ats, by go_num, by omega, rfl, by omega, HO, ⟨pw_below_drewN HW.out nq⟩, HT⟩
      · have hge : ¬ (j < m) := hin
        have hBQ : Bs wr (some ⟨g, 0, none⟩) n0 c2 ys := by
          have hO : OB wr w.heap.size (.slice (some ⟨g, 0, none⟩) n0 c2) ys := by rw [OB, HT.out.len]; exact HO.out
          obtain ⟨A, c, e, hb⟩ := OB.bs hO HT.out.rng
          rw [HT.out.len] at e hb
          cases e
          exact hb
        have HBQ := Hd.mk hBQ
        clear hBQ
        go_wp2
        go_ret2
        exact FlipPost.mk' _ c2 ys ats rfl HBQ.out HT.out (by omega) HW.out
theorem flp_ne {n0 : Nat} {xs ys : List Int} {ats : List Nat} (h : Flp n0 xs ys ats) (h1 : 1 ≤ ats.length) (h3 : ats.length ≤ 3)
    (hN : ats.length < 3 → n0 ≤ 268435456) (hN3 : ats.length = 3 → n0 ≤ 11454) : (W (sumOf [ys]) == W (sumOf [xs])) = false := by
  have hne := turnd_ne (k := 0) (Y := FX (31 + 8 * n0) ats) (fun r => h.run r) (fx_ne n0 ats h.nd h.lt h1 h3 hN hN3)
  simpa [W_inj] using hne
end Go.Proofs.Ytelmkcbakeccoaa
