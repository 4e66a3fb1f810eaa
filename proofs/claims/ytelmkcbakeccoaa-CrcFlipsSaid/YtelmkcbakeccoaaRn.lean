/- crc: bits turned; the walk of CrcRuns. -/
import Derived.Test.YtelmkcbakeccoaaTb
namespace Go.Proofs.Ytelmkcbakeccoaa
open Go.RowKit Go.Proofs.YtelmkcbakeccoaaW.PrintWords Go.Proofs.YtelmkcbakeccoaaW.PrintLast Go.Proofs.YtelmkcbakeccoaaW.PrintMore
set_option linter.unusedVariables false
set_option linter.unusedSimpArgs false
theorem pow_byte : ∀ b : Nat, b < 8 → (2 : Int) ^ b ≤ 255 ∧ Sn 8 (BitVec.ofInt 32 ((2 : Int) ^ b)) = X (39 - b) := by decide
theorem flip_run (r : R) (xs : List Int) (n at_ : Nat) (hr : ∀ x ∈ xs, 0 ≤ x ∧ x ≤ 255) (hl : xs.length = n) (ha : at_ < 8 * n) :
    runB r (xs.set (at_ / 8) (bits .xor .u8 (gb xs (at_ / 8)) (2 ^ (at_ % 8)))) = runB r xs ^^^ X (31 + 8 * n - at_) := by
  obtain ⟨p1, p2⟩ := pow_byte (at_ % 8) (Nat.mod_lt _ (by omega))
  have p0 : (0 : Int) ≤ 2 ^ (at_ % 8) := Int.le_of_lt (Int.pow_pos (by omega))
  rw [runB_set r xs (at_ / 8) _ hr (by omega) p0 p1, hl]
  congr 1
  rw [runB, runB, BitVec.zero_xor, p2, X, X, ← Sn_add]
  congr 1
  omega
/-- the bits turned so far, as coefficients -/
def LowFree (Y : R) (j : Nat) : Prop := ∀ b, b < 32 - j → Y.getLsbD b = false
theorem low_step {Y : R} {j : Nat} (h : LowFree Y j) (hj : j < 32) (c : Bool) :
    LowFree ((Y >>> 1) ^^^ (if c then e0 else 0#32)) (j + 1) ∧ S Y = Y >>> 1 ∧ (((Y >>> 1) ^^^ (if c then e0 else 0#32) = 0#32) ↔ (Y = 0#32 ∧ c = false)) := by
  have h0 : Y.getLsbD 0 = false := h 0 (by omega)
  have he : ∀ i, i < 32 → e0.getLsbD i = decide (i = 31) := by decide
  refine ⟨?_, S_even h0, ?_⟩
  · intro b hb
    rw [BitVec.getLsbD_xor, BitVec.getLsbD_ushiftRight, h (1 + b) (by omega)]
    cases c
    · simp
    · rw [if_pos rfl, he b (by omega), decide_eq_false (by omega)]
      rfl
  · constructor
    · intro h1
      cases c
      · refine ⟨?_, rfl⟩
        rw [if_neg (by simp), BitVec.xor_zero] at h1
        apply BitVec.eq_of_getLsbD_eq
        intro i hi
        rcases i with _ | i
        · rw [h0]; simp
        · have := congrArg (fun x => BitVec.getLsbD x i) h1
          simp only [BitVec.getLsbD_ushiftRight] at this
          rw [Nat.add_comm i 1, this]
          simp
      · exfalso
        have := congrArg (fun x => BitVec.getLsbD x 31) h1
        simp only [BitVec.getLsbD_xor, BitVec.getLsbD_ushiftRight, if_true] at this
        rw [BitVec.getLsbD_of_ge Y (1 + 31) (by omega), he 31 (by omega)] at this
        exact absurd this (by decide)
    · rintro ⟨rfl, rfl⟩
      decide
/-- a text with bits turned -/
def Turnd (xs ys : List Int) (k : Nat) (Y : R) : Prop := ∀ r, runB r ys = runB r xs ^^^ Sn k Y
theorem turnd_zero {xs ys : List Int} {k : Nat} {Y : R} (h : Turnd xs ys (k + 1) Y) {j : Nat} (hl : LowFree Y j) (hj : j < 32) : Turnd xs ys k ((Y >>> 1) ^^^ (if false then e0 else 0#32)) := by
  intro r
  rw [h r, if_neg (by simp), BitVec.xor_zero, ← (low_step hl hj false).2.1]
  rfl
theorem turnd_one {xs ys : List Int} {k n at_ : Nat} {Y : R} (h : Turnd xs ys (k + 1) Y) {j : Nat} (hl : LowFree Y j) (hj : j < 32) (hr : ∀ x ∈ ys, 0 ≤ x ∧ x ≤ 255) (hn : ys.length = n) (ha : at_ < 8 * n) (hk : k = 31 + 8 * n - at_) :
    Turnd xs (ys.set (at_ / 8) (bits .xor .u8 (gb ys (at_ / 8)) (2 ^ (at_ % 8)))) k ((Y >>> 1) ^^^ (if true then e0 else 0#32)) := by
  intro r
  rw [flip_run r ys n at_ hr hn ha, h r, if_pos rfl, ← (low_step hl hj false).2.1, Sn_xor, BitVec.xor_assoc, ← hk]
  rfl
theorem turnd_ne {xs ys : List Int} {k : Nat} {Y : R} (h : Turnd xs ys k Y) (hY : Y ≠ 0#32) : sumOf [ys] ≠ sumOf [xs] := by
  intro e
  have e1 : ~~~ runB (BitVec.allOnes 32) ys = ~~~ runB (BitVec.allOnes 32) xs := e
  have e2 : runB (BitVec.allOnes 32) ys = runB (BitVec.allOnes 32) xs := by
    have := congrArg (fun x => ~~~ x) e1
    simpa using this
  rw [h] at e2
  have e3 : Sn k Y = 0#32 := by
    have := congrArg (fun x => runB (BitVec.allOnes 32) xs ^^^ x) e2
    simpa [xcl] using this
  exact hY (Sn_inj k (e3.trans (Sn_zero k).symm))
def RunPost (w : World) (n0 : Nat) (xs : List Int) (e : Ending) (w' : World) : Prop :=
  ∃ (A : Option Addr) (c : Nat) (ys : List Int) (any : Bool) (k : Nat) (Y : R), e = .returned (.tuple #[.slice A n0 c, .bool any]) ∧ Bs w' A n0 c ys ∧ Turnd xs ys k Y ∧ (any = true → Y ≠ 0#32) ∧ Below w.heap.size w w'
theorem RunPost.mk' {w w' : World} {n0 : Nat} {xs ys : List Int} {e : Ending} (A : Option Addr) (c : Nat) (any : Bool) (k : Nat) (Y : R) (h1 : e = .returned (.tuple #[.slice A n0 c, .bool any])) (h2 : Bs w' A n0 c ys) (h3 : Turnd xs ys k Y) (h4 : any = true → Y ≠ 0#32) (h5 : Below w.heap.size w w') : RunPost w n0 xs e w' :=
  ⟨A, c, ys, any, k, Y, h1, h2, h3, h4, h5⟩
set_option maxHeartbeats 2000000 in
theorem run_calls (a0 : Option Addr) (n0 c0 : Nat) (xs : List Int) (a1 : Int) (x : R) (w : World) (hB : Bs w a0 n0 c0 xs) (y0 : n0 * 1 ≤ 140737488351232) (b0 : 0 ≤ a1) (b1 : a1 ≤ 18446744073709551615) :
    Calls Try.prog 27 #[.slice a0 n0 c0, .int .u64 a1, .int .u32 (W x)] w fun e w' => RunPost w n0 xs e w' := by
  have HB := Hd.mk hB
  clear hB
  rcases Nat.eq_zero_or_pos n0 with rfl | hp
  · go_enter Try.func27, Try.ntmps27
    go_wp2_with (first
      | (at_builtin; go_must (refine wpList_copy rfl _ _ rfl rfl rfl HB.out (by omega) ?_); intro A2 c2 w2 h1 h2 h3))
    go_ret2
    exact RunPost.mk' A2 c2 false 0 0#32 rfl h2.out (fun r => by simp [Sn]) (by simp) h3.out
  · obtain ⟨f, hf⟩ : ∃ f : Nat, a1 % (8 * (n0 : Int)) = f := ⟨(a1 % (8 * (n0 : Int))).toNat, by have := Int.emod_nonneg a1 (show 8 * (n0 : Int) ≠ 0 by omega); omega⟩
    have hfn : f < 8 * n0 := by have := Int.emod_lt_of_pos a1 (show (0 : Int) < 8 * n0 by omega); omega
    have hl := HB.out.len
    go_enter Try.func27, Try.ntmps27
    go_wp2_with (first
      | (at_builtin; go_must (refine wpList_copy1 rfl _ _ rfl rfl rfl HB.out (by omega) hp ?_); intro g c2 w2 hg hc2 h2 h3))
    have HL := Hd.mk HB.out.hr
    have HT0 : Hd (Turnd xs xs (8 * n0 - f - 0 + 32) 0#32) := ⟨fun r => by rw [Sn_zero]; simp⟩
    have h2' := h2.out
    rw [OB, hl] at h2'
    have HO2 := Hd.mk h2'
    have hz0 : ((n0 : Int) == 0) = false := by simp; omega
    simp only [hf, hz0]
    clear h2' h2 hf b0 b1
    go_loopg [9, 10] 32 (fun k u y w'' => ∃ (j : Nat) (any : Bool) (ys : List Int) (Y : R), y = .int .u64 j ∧ j + k = 32 ∧ u = .bool any ∧ f + j ≤ 8 * n0 ∧ Hd (w''.ownsRow w.heap.size 5 1 (.slice (some ⟨g, 0, none⟩) n0 c2) n0 (nums .u8 ys)) ∧ Hd (Below w.heap.size w w'') ∧ Hd (Turnd xs ys (8 * n0 - f - j + 32) Y) ∧ Hd (LowFree Y j) ∧ Hd (any = true → Y ≠ 0#32) ∧ Hd (∀ x ∈ ys, 0 ≤ x ∧ x ≤ 255) ∧ Hd (ys.length = n0))
    case atStart => exact ⟨0, false, xs, 0#32, rfl, by omega, rfl, by omega, HO2, h3, HT0, ⟨fun b _ => by simp⟩, ⟨by simp⟩, HL, ⟨hl⟩⟩
    case round =>
      obtain ⟨j, any, ys, Y, rfl, hj, rfl, hfj, HO, HW, HT, HF, HA, HR, HN⟩ := hrel
      by_cases hin : j < 32 ∧ f + j < 8 * n0
      · obtain ⟨k, rfl⟩ : ∃ k, gk = k + 1 := ⟨gk - 1, by omega⟩
        obtain ⟨hj32, hfn'⟩ := hin
        have ht := shr_bit x j hj32
        obtain ⟨q, hq⟩ : ∃ q : Nat, (f + j) / 8 = q := ⟨_, rfl⟩
        obtain ⟨b, hb⟩ : ∃ b : Nat, (f + j) % 8 = b := ⟨_, rfl⟩
        have hq' : ((f : Int) + (j : Int)) / 8 = q := by omega
        have hb' : ((f : Int) + (j : Int)) % 8 = b := by omega
        have hqn : q < n0 := by omega
        have hb8 : b < 8 := by omega
        have hk' : 8 * n0 - f - j + 32 = (8 * n0 - f - (j + 1) + 32) + 1 := by omega
        have hT := HT.out
        rw [hk'] at hT
        have HT' := Hd.mk hT
        have HK := Hd.mk (show 8 * n0 - f - (j + 1) + 32 = 31 + 8 * n0 - (f + j) by omega)
        clear hT hk' HT
        cases hbit : x.getLsbD j
        · rw [hbit] at ht
          clear hbit hq' hb' hq hb
          go_wp2
          go_roundg k
          case measure => omega
          case rel =>
            obtain ⟨l1, l2, l3⟩ := low_step HF.out hj32 false
            exact ⟨j + 1, any, ys, _, by go_num, by omega, rfl, by omega, HO, HW, ⟨turnd_zero HT'.out HF.out hj32⟩, ⟨l1⟩, ⟨fun h0 h1 => HA.out h0 (l3.1 h1).1⟩, HR, HN⟩
        · rw [hbit] at ht
          obtain ⟨hc1, hf1⟩ := own_at HO.out (q : Int) (by omega) (by omega)
          rw [Int.toNat_natCast, rd_gb] at hc1
          rw [Int.toNat_natCast] at hf1
          have HX := Hd.mk hbit
          clear hbit
          have HQ := Hd.mk hq
          have HBB := Hd.mk hb
          have he : (2 : Int) ^ b % 256 = 2 ^ b := by
            have := pow_byte b hb8
            have h0 : (0 : Int) ≤ 2 ^ b := Int.le_of_lt (Int.pow_pos (by omega))
            omega
          have hst := (own_store HO.out (q : Int) (bits .xor .u8 (gb ys q) (2 ^ b % 256))).1
          rw [Int.toNat_natCast] at hst
          have HST := Hd.mk hst
          have HE := Hd.mk he
          clear hst he hq hb
          go_wp2
          go_roundg k
          case measure => omega
          case rel =>
            obtain ⟨l1, l2, l3⟩ := low_step HF.out hj32 true
            have hto := turnd_one HT'.out HF.out hj32 HR.out HN.out (show f + j < 8 * n0 from hfn') HK.out
            rw [HQ.out, HBB.out, ← HE.out] at hto
            have hgr := gb_range HR.out q
            have hpb := pow_byte b hb8
            have h0 : (0 : Int) ≤ 2 ^ b := Int.le_of_lt (Int.pow_pos (by omega))
            obtain ⟨_, v0, v1⟩ := byte_xor (gb ys q) (2 ^ b % 256) hgr.1 hgr.2 (by omega) (by omega)
            exact ⟨j + 1, true, ys.set q (bits .xor .u8 (gb ys q) (2 ^ b % 256)), _, by go_num, by omega, rfl, by omega, HST, ⟨HW.out.setCell hg _⟩, ⟨hto⟩, ⟨l1⟩, ⟨fun _ h1 => absurd (l3.1 h1).2 (by simp)⟩, ⟨set_range HR.out q _ v0 v1⟩, ⟨by rw [List.length_set]; exact HN.out⟩⟩
      · have hBQ : Bs wr (some ⟨g, 0, none⟩) n0 c2 ys := by
          have hO : OB wr w.heap.size (.slice (some ⟨g, 0, none⟩) n0 c2) ys := by rw [OB, HN.out]; exact HO.out
          obtain ⟨A, c, e, hb⟩ := OB.bs hO HR.out
          rw [HN.out] at e hb
          cases e
          exact hb
        have HBQ := Hd.mk hBQ
        clear hBQ
        by_cases hj32 : j < 32
        · have hge : ¬ ((f : Int) + (j : Int) < 8 * (n0 : Int)) := by omega
          clear hin
          go_wp2
          go_ret2
          exact RunPost.mk' _ c2 any _ Y rfl HBQ.out HT.out HA.out HW.out
        · obtain rfl : j = 32 := by omega
          clear hin
          go_wp2
          go_ret2
          exact RunPost.mk' _ c2 any _ Y rfl HBQ.out HT.out HA.out HW.out
set_option maxHeartbeats 2000000 in
theorem walk_crcRuns (a0 : Option Addr) (n0 c0 : Nat) (z0 : List Int) (a1 a2 : Int) (w : World) (h0 : IsRow .u8 w a0 n0 c0 z0) (y0 : n0 * 1 ≤ 140737488351232) (w1 : (Lit.int .u64 a1).wf = true) (w2 : (Lit.int .u32 a2).wf = true) :
    Calls Try.prog 8 #[.slice a0 n0 c0, .int .u64 a1, .int .u32 a2] w fun e w' => e = .returned (.bool true) ∧ Below w.heap.size w w' := by
  obtain ⟨b0, b1⟩ := bounds_u64 w1
  obtain ⟨m0, m1⟩ := bounds_u32 w2
  obtain ⟨x, rfl⟩ := exists_W a2 m0 m1
  obtain ⟨xs, hB⟩ := h0.bytes
  have HB := Hd.mk hB
  clear hB h0 w1 w2
  go_enter Try.func8, Try.ntmps8
  go_wp2_with fail
  go_at_call 27
  refine (run_calls _ _ _ xs _ _ _ HB.out y0 b0 b1).mono ?_
  rintro e w1 ⟨A, c, ys, any, k, Y, rfl, h1, h2, h3, h4⟩
  have H1 := Hd.mk h4
  have HY := Hd.mk h1
  have HX := Hd.mk (HB.out.below h4)
  have HN := Hd.mk (fun h => turnd_ne h2 (h3 h))
  clear h1 h2 h3 h4
  go_wp2_with fail
  go_at_call 21
  refine (awake_calls _).mono ?_
  rintro e w2 ⟨rfl, h1⟩
  have H2 := Hd.mk (below_step H1.out h1)
  have HY2 := Hd.mk (HY.out.below h1)
  have HX2 := Hd.mk (HX.out.below h1)
  clear h1 H1 HY HX
  cases any
  · clear HN
    go_wp2
    go_ret
    exact ⟨rfl, H2.out⟩
  · have hne : (W (sumOf [ys]) != W (sumOf [xs])) = true := by
      have := HN.out rfl
      simpa [bne_iff_ne, W_inj] using this
    have S1 : Hd (∀ (w : World), Bs w A n0 c ys → Calls Try.prog 22 #[.slice (some ⟨w.heap.size, 0, none⟩) 1 1] (w.alloc (.cells #[.slice A n0 c] 23)) fun e w' => e = .returned (.int .u32 (W (sumOf [ys]))) ∧ Below (w.alloc (.cells #[.slice A n0 c] 23)).heap.size (w.alloc (.cells #[.slice A n0 c] 23)) w') := ⟨fun w hb => sum_calls _ 1 1 [ys] _ (Ps.one 23 hb) (Nat.le_refl _)⟩
    have S2 : Hd (∀ (w : World), Bs w a0 n0 c0 xs → Calls Try.prog 22 #[.slice (some ⟨w.heap.size, 0, none⟩) 1 1] (w.alloc (.cells #[.slice a0 n0 c0] 23)) fun e w' => e = .returned (.int .u32 (W (sumOf [xs]))) ∧ Below (w.alloc (.cells #[.slice a0 n0 c0] 23)).heap.size (w.alloc (.cells #[.slice a0 n0 c0] 23)) w') := ⟨fun w hb => sum_calls _ 1 1 [xs] _ (Ps.one 23 hb) (Nat.le_refl _)⟩
    obtain ⟨u, eu⟩ : ∃ u, W (sumOf [ys]) = u := ⟨_, rfl⟩
    obtain ⟨v, ev⟩ : ∃ v, W (sumOf [xs]) = v := ⟨_, rfl⟩
    rw [eu] at hne S1
    rw [ev] at hne S2
    clear eu ev HN
    go_wp2_with fail
    go_at_call 22
    refine (S1.out w2 HY2.out).mono ?_
    rintro e w3 ⟨rfl, h3⟩
    have H3 := Hd.mk (below_step (H2.out.alloc H2.out.size (.cells #[.slice A n0 c] 23)) h3)
    have HX3 := Hd.mk (HX2.out.below (below_step ((Below.refl w2.heap.size w2).alloc (Nat.le_refl _) (.cells #[.slice A n0 c] 23)) h3))
    clear h3
    go_wp2_with fail
    go_at_call 22
    refine (S2.out w3 HX3.out).mono ?_
    rintro e w4 ⟨rfl, h4⟩
    have H4 := Hd.mk (below_step (H3.out.alloc H3.out.size (.cells #[.slice a0 n0 c0] 23)) h4)
    clear h4
    go_wp2
    go_ret
    exact ⟨rfl, H4.out⟩
end Go.Proofs.Ytelmkcbakeccoaa
