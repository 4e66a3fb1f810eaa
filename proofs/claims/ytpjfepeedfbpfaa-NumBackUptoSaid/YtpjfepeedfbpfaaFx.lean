/- num: Fixed, Unfix, the program's and the reference's. -/
import Derived.Test.YtpjfepeedfbpfaaLk
namespace Go.Proofs.Ytpjfepeedfbpfaa
open Go.RowKit Go.Proofs.YtpjfepeedfbpfaaW.PrintWords Go.Proofs.YtpjfepeedfbpfaaW.PrintLast Go.Proofs.YtpjfepeedfbpfaaW.PrintMore
set_option linter.unusedVariables false
set_option linter.unusedSimpArgs false

theorem below_ap {w0 w w' : World} {base : Nat} {e : TypeId} {size n : Nat} {v : Value} {xs : List Value} (hb : Below w0.heap.size w0 w) (ho : w.ownsRow base e size v n xs) (hg : w.grownBy w' v.ownBlock) (hbase : w0.heap.size ≤ base) : Below w0.heap.size w0 w' :=
  hb.grown hg hb.size (fun k hk => Nat.le_trans hbase (own_base ho k hk))
/-- A number's first bytes, the least first. -/
def leB (n : Nat) (v : Int) : List Int := (List.range n).map fun j => v / 256 ^ j % 256
theorem leB_len (n : Nat) (v : Int) : (leB n v).length = n := by simp [leB]
theorem leB_snoc (n : Nat) (v : Int) : leB (n + 1) v = leB n v ++ [v / 256 ^ n % 256] := by simp [leB, List.range_succ]
theorem leB_range (n : Nat) (v : Int) : ∀ x ∈ leB n v, 0 ≤ x ∧ x ≤ 255 := by
  intro x hx
  obtain ⟨j, _, rfl⟩ := List.mem_map.1 hx
  omega
theorem leB_set (n j : Nat) (v : Int) (h : j < n) : (leB j v ++ List.replicate (n - j) 0).set j (v / 256 ^ j % 256) = leB (j + 1) v ++ List.replicate (n - (j + 1)) 0 := by
  rw [List.set_append_right _ _ (by rw [leB_len]; exact Nat.le_refl _), leB_len, Nat.sub_self, leB_snoc, List.append_assoc]
  rw [show n - j = (n - (j + 1)) + 1 by omega, List.replicate_succ, List.set_cons_zero]
  rfl
def fixS (v size : Int) : List Int × Int :=
  if size < 1 ∨ 8 < size then ([], 1) else if size < 8 ∧ 256 ^ size.toNat ≤ v then ([], 10) else (leB size.toNat v, 0)
theorem pow8 (n : Nat) : (2 : Int) ^ (8 * n) = 256 ^ n := by
  rw [Int.pow_mul]
  rfl
theorem fits8 {n : Nat} {v : Int} (v0 : 0 ≤ v) (h : 256 ^ n ≤ v) : (v / 2 ^ (8 * n) != 0) = true := by
  rw [pow8]
  have hp : (0 : Int) < 256 ^ n := Int.pow_pos (by decide)
  have := Int.le_ediv_of_mul_le hp (show 1 * 256 ^ n ≤ v by omega)
  simp
  omega
theorem fits8' {n : Nat} {v : Int} (v0 : 0 ≤ v) (h : v < 256 ^ n) : (v / 2 ^ (8 * n) != 0) = false := by
  rw [pow8, Int.ediv_eq_zero_of_lt v0 h]
  rfl

set_option maxHeartbeats 1000000 in
theorem fixed_calls (v size : Int) (w : World) (v0 : 0 ≤ v) (v1 : v ≤ 18446744073709551615) (s0 : -9223372036854775808 ≤ size) (s1 : size ≤ 9223372036854775807) :
    Calls Try.prog 15 #[.int .u64 v, .int .i64 size] w fun e w' => ∃ u, e = .returned (.tuple #[u, .int .i64 (fixS v size).2]) ∧ OB w' w.heap.size u (fixS v size).1 ∧ Below w.heap.size w w' := by
  obtain ⟨i0, hi, hz0, hz1, hz2⟩ := info_parts eltB.hi
  have HI := Hd.mk (And.intro hi (And.intro hz0 (And.intro hz1 hz2)))
  clear hi hz0 hz1 hz2
  by_cases hb : size < 1 ∨ 8 < size
  · have hf : fixS v size = ([], 1) := by unfold fixS; rw [if_pos hb]
    rw [hf]
    have HF := Hd.mk hf
    clear hf
    by_cases hs : size < 1
    · go_enter Try.func15, Try.ntmps15
      go_wp2
      go_ret2
      exact ⟨_, rfl, own_nil _ _ _ _, Below.refl _ _⟩
    · have hs' : 8 < size := by omega
      clear hb
      go_enter Try.func15, Try.ntmps15
      go_wp2
      go_ret2
      exact ⟨_, rfl, own_nil _ _ _ _, Below.refl _ _⟩
  · obtain ⟨n, rfl⟩ : ∃ n : Nat, size = n := ⟨size.toNat, by omega⟩
    have hn1 : 1 ≤ n := by omega
    have hn8 : n ≤ 8 := by omega
    by_cases hl : n < 8 ∧ 256 ^ n ≤ v
    · have hf : fixS v n = ([], 10) := by
        unfold fixS
        rw [if_neg hb, if_pos (by rw [Int.toNat_natCast]; omega)]
      rw [hf]
      have hs := fits8 v0 hl.2
      have h8 := hl.1
      clear hf hb hl
      go_enter Try.func15, Try.ntmps15
      go_wp2
      go_ret2
      exact ⟨_, rfl, own_nil _ _ _ _, Below.refl _ _⟩
    · have hf : fixS v n = (leB n v, 0) := by
        unfold fixS
        rw [if_neg hb, if_neg (by rw [Int.toNat_natCast]; omega), Int.toNat_natCast]
      rw [hf]
      clear hf hb
      by_cases h8 : n < 8
      · have hs := fits8' (n := n) v0 (by omega)
        clear hl
        go_enter Try.func15, Try.ntmps15
        go_wp2_with (first | (at_make; go_must (refine wpList_make_full _ rfl _ _ _ rfl w.heap.size 5 i0 (.int .u8 0) 1 Try.underlying26 HI.out.1 HI.out.2.1 HI.out.2.2.1 .i64 .i64 _ _ n rfl rfl rfl rfl (by rw [HI.out.2.2.2]; omega) (by simp only [maxLen]; omega) (Nat.le_refl _) ?_); intro w1 h1 h2; have H1 := Hd.mk h1; have HU0 := Hd.mk (show Below w.heap.size w w1 from (Below.refl _ _).grown h2 (Nat.le_refl _) (fun k e => by cases e)); clear h1 h2))
        go_loopg [29] n (fun k y w'' => ∃ j : Nat, y = .int .i64 j ∧ j + k = n ∧ Hd (w''.ownsRow w.heap.size 5 1 (.slice (some ⟨w.heap.size, 0, none⟩) n n) n (nums .u8 (leB j v ++ List.replicate (n - j) 0))) ∧ Hd (Below w.heap.size w w''))
        case atStart =>
          refine ⟨0, rfl, by omega, ⟨?_⟩, HU0⟩
          have e : (madeCells (Value.int .u8 0).cells (n * 1)).toList = nums .u8 (leB 0 v ++ List.replicate (n - 0) 0) := by
            apply List.ext_getElem
            · simp [madeCells, nums, leB]
            · intro i h1 h2
              simp [madeCells, Value.cells, Nat.mod_one, nums, leB]
          rw [← e]
          exact H1.out
        case round =>
          obtain ⟨j, rfl, hj, HO, HU⟩ := hrel
          rcases Nat.eq_zero_or_pos gk with rfl | hp
          · obtain rfl : n = j := by omega
            clear hs hj
            go_wp2
            go_ret2
            refine ⟨_, rfl, ?_, HU.out⟩
            have := HO.out
            rw [Nat.sub_self, List.replicate_zero, List.append_nil] at this
            rwa [OB, leB_len]
          · obtain ⟨k, rfl⟩ : ∃ k, gk = k + 1 := ⟨gk - 1, by omega⟩
            have hjn : j < n := by omega
            obtain ⟨c1, f1⟩ := own_at HO.out (j : Int) (by omega) (by omega)
            rw [Int.toNat_natCast] at c1 f1
            have hst := (own_store HO.out (j : Int) (v / 2 ^ (8 * j) % 256)).1
            rw [Int.toNat_natCast, pow8, leB_set n j v hjn, ← pow8] at hst
            have HST := Hd.mk hst
            clear hst hs
            go_wp2
            go_roundg k
            case measure => omega
            case rel => exact ⟨j + 1, by go_num, by omega, HST, ⟨HU.out.setCell (Nat.le_refl _) _⟩⟩
      · have hs : True := trivial
        clear hl
        go_enter Try.func15, Try.ntmps15
        go_wp2_with (first | (at_make; go_must (refine wpList_make_full _ rfl _ _ _ rfl w.heap.size 5 i0 (.int .u8 0) 1 Try.underlying26 HI.out.1 HI.out.2.1 HI.out.2.2.1 .i64 .i64 _ _ n rfl rfl rfl rfl (by rw [HI.out.2.2.2]; omega) (by simp only [maxLen]; omega) (Nat.le_refl _) ?_); intro w1 h1 h2; have H1 := Hd.mk h1; have HU0 := Hd.mk (show Below w.heap.size w w1 from (Below.refl _ _).grown h2 (Nat.le_refl _) (fun k e => by cases e)); clear h1 h2))
        go_loopg [29] n (fun k y w'' => ∃ j : Nat, y = .int .i64 j ∧ j + k = n ∧ Hd (w''.ownsRow w.heap.size 5 1 (.slice (some ⟨w.heap.size, 0, none⟩) n n) n (nums .u8 (leB j v ++ List.replicate (n - j) 0))) ∧ Hd (Below w.heap.size w w''))
        case atStart =>
          refine ⟨0, rfl, by omega, ⟨?_⟩, HU0⟩
          have e : (madeCells (Value.int .u8 0).cells (n * 1)).toList = nums .u8 (leB 0 v ++ List.replicate (n - 0) 0) := by
            apply List.ext_getElem
            · simp [madeCells, nums, leB]
            · intro i h1 h2
              simp [madeCells, Value.cells, Nat.mod_one, nums, leB]
          rw [← e]
          exact H1.out
        case round =>
          obtain ⟨j, rfl, hj, HO, HU⟩ := hrel
          rcases Nat.eq_zero_or_pos gk with rfl | hp
          · obtain rfl : n = j := by omega
            clear hs hj
            go_wp2
            go_ret2
            refine ⟨_, rfl, ?_, HU.out⟩
            have := HO.out
            rw [Nat.sub_self, List.replicate_zero, List.append_nil] at this
            rwa [OB, leB_len]
          · obtain ⟨k, rfl⟩ : ∃ k, gk = k + 1 := ⟨gk - 1, by omega⟩
            have hjn : j < n := by omega
            obtain ⟨c1, f1⟩ := own_at HO.out (j : Int) (by omega) (by omega)
            rw [Int.toNat_natCast] at c1 f1
            have hst := (own_store HO.out (j : Int) (v / 2 ^ (8 * j) % 256)).1
            rw [Int.toNat_natCast, pow8, leB_set n j v hjn, ← pow8] at hst
            have HST := Hd.mk hst
            clear hst hs
            go_wp2
            go_roundg k
            case measure => omega
            case rel => exact ⟨j + 1, by go_num, by omega, HST, ⟨HU.out.setCell (Nat.le_refl _) _⟩⟩

theorem div_succ (v : Int) (j : Nat) : v / 256 ^ j / 256 = v / 256 ^ (j + 1) := by
  rw [Int.ediv_ediv_of_nonneg (Int.pow_nonneg (by decide)), Int.pow_succ]
theorem div_pos_iff {v : Int} (n : Nat) (v0 : 0 ≤ v) : 0 < v / 256 ^ n ↔ 256 ^ n ≤ v := by
  have hp : (0 : Int) < 256 ^ n := Int.pow_pos (by decide)
  constructor
  · intro h
    by_cases hlt : v < 256 ^ n
    · rw [Int.ediv_eq_zero_of_lt v0 hlt] at h
      omega
    · omega
  · intro h
    have := Int.le_ediv_of_mul_le hp (show 1 * 256 ^ n ≤ v by omega)
    omega

set_option maxHeartbeats 1000000 in
theorem rfixed_calls (v size : Int) (w : World) (v0 : 0 ≤ v) (v1 : v ≤ 18446744073709551615) (s0 : -9223372036854775808 ≤ size) (s1 : size ≤ 9223372036854775807) :
    Calls Try.prog 16 #[.int .u64 v, .int .i64 size] w fun e w' => ∃ u, e = .returned (.tuple #[u, .int .i64 (fixS v size).2]) ∧ OB w' w.heap.size u (fixS v size).1 ∧ Below w.heap.size w w' := by
  by_cases hb : size < 1 ∨ 8 < size
  · have hf : fixS v size = ([], 1) := by unfold fixS; rw [if_pos hb]
    rw [hf]
    clear hf
    by_cases hs : size < 1
    · go_enter Try.func16, Try.ntmps16
      go_wp2
      go_ret2
      exact ⟨_, rfl, own_nil _ _ _ _, Below.refl _ _⟩
    · have hs' : 8 < size := by omega
      clear hb
      go_enter Try.func16, Try.ntmps16
      go_wp2
      go_ret2
      exact ⟨_, rfl, own_nil _ _ _ _, Below.refl _ _⟩
  · obtain ⟨n, rfl⟩ : ∃ n : Nat, size = n := ⟨size.toNat, by omega⟩
    have hn1 : 1 ≤ n := by omega
    have hn8 : n ≤ 8 := by omega
    have HE : Hd (fixS v n = if 256 ^ n ≤ v then ([], 10) else (leB n v, 0)) := ⟨by
      unfold fixS
      rw [if_neg hb, Int.toNat_natCast]
      by_cases h8 : n < 8
      · by_cases h : 256 ^ n ≤ v
        · rw [if_pos ⟨by omega, h⟩, if_pos h]
        · rw [if_neg (by omega), if_neg h]
      · have e : n = 8 := by omega
        subst e
        have : (256 : Int) ^ 8 = 18446744073709551616 := by decide
        rw [if_neg (by omega), if_neg (by omega)]⟩
    have HV1 := Hd.mk v1
    clear hb v1
    go_enter Try.func16, Try.ntmps16
    go_wp2
    go_loopg [0, 6, 7] n (fun k x u y w' => ∃ j : Nat, y = .int .i64 j ∧ j + k = n ∧ x = .int .u64 (v / 256 ^ j) ∧ Hd (w'.ownsRow w.heap.size 5 1 u j (nums .u8 (leB j v))) ∧ Hd (Below w.heap.size w w'))
    case atStart => exact ⟨0, rfl, by omega, by simp, ⟨own_nil _ _ _ _⟩, ⟨Below.refl _ _⟩⟩
    case round =>
      obtain ⟨j, rfl, hj, rfl, HO, HU⟩ := hrel
      have hws := HU.out.size
      rcases Nat.eq_zero_or_pos gk with rfl | hp
      · obtain rfl : n = j := by omega
        have HI := Hd.mk (div_pos_iff n v0)
        obtain ⟨q, hq⟩ : ∃ q, v / 256 ^ n = q := ⟨_, rfl⟩
        have HQ := Hd.mk hq
        have hq0 : 0 ≤ q := by rw [← hq]; exact Int.ediv_nonneg v0 (Int.pow_nonneg (by decide))
        rw [hq]
        clear hq hj
        by_cases h : 0 < q
        · have HE' := Hd.mk (HE.out.trans (if_pos (HI.out.1 (by rw [HQ.out]; exact h))))
          go_wp2
          go_ret2
          refine ⟨_, by rw [HE'.out]; rfl, by rw [HE'.out]; exact own_nil _ _ _ _, HU.out⟩
        · have HE' := Hd.mk (HE.out.trans (if_neg (fun hh => h (by rw [← HQ.out]; exact HI.out.2 hh))))
          go_wp2
          go_ret2
          refine ⟨u6, by rw [HE'.out]; rfl, ?_, HU.out⟩
          rw [HE'.out]
          have := HO.out
          rwa [OB, leB_len]
      · obtain ⟨k, rfl⟩ : ∃ k, gk = k + 1 := ⟨gk - 1, by omega⟩
        have hq0 : 0 ≤ v / 256 ^ j := Int.ediv_nonneg v0 (Int.pow_nonneg (by decide))
        have hq1 : v / 256 ^ j ≤ 18446744073709551615 := Int.le_trans (Int.ediv_le_self _ v0) HV1.out
        have HS := Hd.mk (div_succ v j)
        have HL := Hd.mk (leB_snoc j v)
        obtain ⟨q, hq⟩ : ∃ q, v / 256 ^ j = q := ⟨_, rfl⟩
        rw [hq] at hq0 hq1 HS HL ⊢
        clear hq
        go_wp2_with (first | (at_builtin; refine wpList_app (v := u6) (n := j) (xs := nums .u8 (leB j v)) rfl _ _ _ rfl w.heap.size eltB rfl rfl (HO.out.alloc _) (Src.one _ _ _ rfl) (by omega) (by simp; omega) ?_; intro v1 w1 h1 h2 h3 _))
        go_roundg k
        case measure => omega
        case rel =>
          refine ⟨j + 1, by go_num, by omega, by rw [HS.out], ⟨?_⟩, ⟨below_ap (HU.out.alloc hws _) (HO.out.alloc _) h2.out (Nat.le_refl _)⟩⟩
          rw [HL.out, nums_append]
          exact h1.out

/-! ### Unfix -/
def leV : List Int → Int
  | [] => 0
  | x :: xs => x + 256 * leV xs
theorem leV_bd : ∀ {xs : List Int}, (∀ x ∈ xs, 0 ≤ x ∧ x ≤ 255) → 0 ≤ leV xs ∧ leV xs < 256 ^ xs.length
  | [], _ => by simp [leV]
  | x :: xs, h => by
    have h1 := leV_bd (fun y hy => h y (List.mem_cons_of_mem _ hy))
    have h2 := h x List.mem_cons_self
    simp only [leV, List.length_cons, Int.pow_succ]
    omega
theorem leV_drop : ∀ (xs : List Int) (i : Nat), i < xs.length → leV (xs.drop i) = gb xs i + 256 * leV (xs.drop (i + 1))
  | [], i, h => by simp at h
  | x :: xs, 0, _ => by simp [leV, gb]
  | x :: xs, i + 1, h => by
    have := leV_drop xs i (by simpa using h)
    have e : gb (x :: xs) (i + 1) = gb xs i := by simp [gb]
    rw [e]
    simpa using this
def unfS (xs : List Int) (size : Int) : Int × Int :=
  if size < 1 ∨ 8 < size then (0, 1) else if (xs.length : Int) < size then (0, 11) else (leV (xs.take size.toNat), 0)
theorem or256 (y x : Int) (h0 : 0 ≤ y) (h1 : y * 256 + x ≤ 18446744073709551615) (x0 : 0 ≤ x) (x1 : x ≤ 255) : bits .or .u64 (y * 256) x = y * 256 + x :=
  bits_join .u64 64 (by decide) (by intro n a b; rw [IntKind.wrap_u64]; omega) 8 _ _ (by omega) (Int.mul_emod_left _ _) (by omega) x0 (by omega) (by omega)
theorem pow256_le {i : Nat} (h : i ≤ 8) : (256 : Int) ^ i ≤ 18446744073709551616 := by
  have : i = 0 ∨ i = 1 ∨ i = 2 ∨ i = 3 ∨ i = 4 ∨ i = 5 ∨ i = 6 ∨ i = 7 ∨ i = 8 := by omega
  rcases this with rfl | rfl | rfl | rfl | rfl | rfl | rfl | rfl | rfl <;> decide
theorem leV_fits {xs : List Int} {n : Nat} (hr : ∀ x ∈ xs, 0 ≤ x ∧ x ≤ 255) (h8 : n ≤ 8) (i : Nat) : 0 ≤ leV ((xs.take n).drop i) ∧ leV ((xs.take n).drop i) ≤ 18446744073709551615 := by
  have h := leV_bd (xs := (xs.take n).drop i) (fun x hx => hr x (List.mem_of_mem_take (List.mem_of_mem_drop hx)))
  have hl : ((xs.take n).drop i).length ≤ 8 := by rw [List.length_drop, List.length_take]; omega
  have := pow256_le hl
  omega
theorem gb_take' (xs : List Int) (n i : Nat) (h : i < n) : gb (xs.take n) i = gb xs i := by
  unfold gb
  simp [List.getD_eq_getElem?_getD, List.getElem?_take, h]

set_option maxHeartbeats 1000000 in
theorem unfix_calls (A : Option Addr) (m c : Nat) (xs : List Int) (size : Int) (w : World) (hB : Bs w A m c xs) (s0 : -9223372036854775808 ≤ size) (s1 : size ≤ 9223372036854775807) :
    Calls Try.prog 20 #[.slice A m c, .int .i64 size] w fun e w' => e = .returned (.tuple #[.int .u64 (unfS xs size).1, .int .i64 (unfS xs size).2]) ∧ w' = w := by
  have hm := Kd.C_max hB.C
  have HB := Hd.mk hB
  have hlen := hB.len
  clear hB
  by_cases hb : size < 1 ∨ 8 < size
  · have hf : unfS xs size = (0, 1) := by unfold unfS; rw [if_pos hb]
    rw [hf]
    clear hf
    by_cases hs : size < 1
    · go_enter Try.func20, Try.ntmps20
      go_wp2
      go_ret2
      exact ⟨rfl, rfl⟩
    · have hs' : 8 < size := by omega
      clear hb
      go_enter Try.func20, Try.ntmps20
      go_wp2
      go_ret2
      exact ⟨rfl, rfl⟩
  · obtain ⟨n, rfl⟩ : ∃ n : Nat, size = n := ⟨size.toNat, by omega⟩
    have hn1 : 1 ≤ n := by omega
    have hn8 : n ≤ 8 := by omega
    by_cases hl : (m : Int) < n
    · have hf : unfS xs n = (0, 11) := by unfold unfS; rw [if_neg hb, if_pos (by omega)]
      rw [hf]
      clear hf hb
      go_enter Try.func20, Try.ntmps20
      go_wp2
      go_ret2
      exact ⟨rfl, rfl⟩
    · have hf : unfS xs n = (leV (xs.take n), 0) := by unfold unfS; rw [if_neg hb, if_neg (by omega), Int.toNat_natCast]
      rw [hf]
      clear hf hb
      go_enter Try.func20, Try.ntmps20
      go_wp2
      go_loopg [6, 7] n (fun k v i w' => w' = w ∧ k ≤ n ∧ v = .int .u64 (leV ((xs.take n).drop k)) ∧ i = .int .i64 ((k : Int) - 1))
      case atStart =>
        refine ⟨rfl, Nat.le_refl _, ?_, rfl⟩
        rw [List.drop_eq_nil_of_le (by rw [List.length_take]; omega)]
        rfl
      case round =>
        obtain ⟨rfl, hk, rfl, rfl⟩ := hrel
        rcases Nat.eq_zero_or_pos gk with rfl | hp
        · go_wp2
          go_ret2
          exact ⟨rfl, rfl⟩
        · obtain ⟨k, rfl⟩ : ∃ k, gk = k + 1 := ⟨gk - 1, by omega⟩
          obtain ⟨ad, hA, hcell⟩ := at_byte HB.out.C k (by omega)
          subst hA
          obtain ⟨hx0, hx1⟩ := gb_range HB.out.hr k
          have hd := leV_drop (xs.take n) k (by rw [List.length_take]; omega)
          rw [gb_take' xs n k (by omega)] at hd
          obtain ⟨hq0, hq1⟩ := leV_fits HB.out.hr hn8 k
          obtain ⟨hy0, hy1⟩ := leV_fits HB.out.hr hn8 (k + 1)
          rw [hd] at hq1
          rw [show ((k + 1 : Nat) : Int) - 1 = k by omega]
          obtain ⟨x, ex⟩ : ∃ x, gb xs k = x := ⟨_, rfl⟩
          obtain ⟨y, ey⟩ : ∃ x, leV ((xs.take n).drop (k + 1)) = x := ⟨_, rfl⟩
          rw [ex, ey] at hd hq1
          rw [ex] at hx0 hx1 hcell
          rw [ey] at hy0 hy1
          rw [ey]
          have HD := Hd.mk hd
          have he := or256 y x hy0 (by omega) hx0 hx1
          clear hd ex ey hq0
          go_wp2
          go_roundg k
          case measure => omega
          case rel => exact ⟨rfl, by omega, by rw [HD.out, show y * 256 + x = x + 256 * y by omega], rfl⟩

set_option maxHeartbeats 1000000 in
theorem runfix_calls (A : Option Addr) (m c : Nat) (xs : List Int) (size : Int) (w : World) (hB : Bs w A m c xs) (s0 : -9223372036854775808 ≤ size) (s1 : size ≤ 9223372036854775807) :
    Calls Try.prog 21 #[.slice A m c, .int .i64 size] w fun e w' => e = .returned (.tuple #[.int .u64 (unfS xs size).1, .int .i64 (unfS xs size).2]) ∧ w' = w := by
  have hm := Kd.C_max hB.C
  have HB := Hd.mk hB
  have hlen := hB.len
  clear hB
  by_cases hb : size < 1 ∨ 8 < size
  · have hf : unfS xs size = (0, 1) := by unfold unfS; rw [if_pos hb]
    rw [hf]
    clear hf
    by_cases hs : size < 1
    · go_enter Try.func21, Try.ntmps21
      go_wp2
      go_ret2
      exact ⟨rfl, rfl⟩
    · have hs' : 8 < size := by omega
      clear hb
      go_enter Try.func21, Try.ntmps21
      go_wp2
      go_ret2
      exact ⟨rfl, rfl⟩
  · obtain ⟨n, rfl⟩ : ∃ n : Nat, size = n := ⟨size.toNat, by omega⟩
    have hn1 : 1 ≤ n := by omega
    have hn8 : n ≤ 8 := by omega
    by_cases hl : (m : Int) < n
    · have hf : unfS xs n = (0, 11) := by unfold unfS; rw [if_neg hb, if_pos (by omega)]
      rw [hf]
      clear hf hb
      go_enter Try.func21, Try.ntmps21
      go_wp2
      go_ret2
      exact ⟨rfl, rfl⟩
    · have hf : unfS xs n = (leV (xs.take n), 0) := by unfold unfS; rw [if_neg hb, if_neg (by omega), Int.toNat_natCast]
      rw [hf]
      clear hf hb
      go_enter Try.func21, Try.ntmps21
      go_wp2
      go_loopg [6, 7] n (fun k v i w' => w' = w ∧ k ≤ n ∧ v = .int .u64 (leV ((xs.take n).drop k)) ∧ i = .int .i64 ((k : Int) - 1))
      case atStart =>
        refine ⟨rfl, Nat.le_refl _, ?_, rfl⟩
        rw [List.drop_eq_nil_of_le (by rw [List.length_take]; omega)]
        rfl
      case round =>
        obtain ⟨rfl, hk, rfl, rfl⟩ := hrel
        rcases Nat.eq_zero_or_pos gk with rfl | hp
        · go_wp2
          go_ret2
          exact ⟨rfl, rfl⟩
        · obtain ⟨k, rfl⟩ : ∃ k, gk = k + 1 := ⟨gk - 1, by omega⟩
          obtain ⟨ad, hA, hcell⟩ := at_byte HB.out.C k (by omega)
          subst hA
          obtain ⟨hx0, hx1⟩ := gb_range HB.out.hr k
          have hd := leV_drop (xs.take n) k (by rw [List.length_take]; omega)
          rw [gb_take' xs n k (by omega)] at hd
          obtain ⟨hq0, hq1⟩ := leV_fits HB.out.hr hn8 k
          obtain ⟨hy0, hy1⟩ := leV_fits HB.out.hr hn8 (k + 1)
          rw [hd] at hq1
          rw [show ((k + 1 : Nat) : Int) - 1 = k by omega]
          obtain ⟨x, ex⟩ : ∃ x, gb xs k = x := ⟨_, rfl⟩
          obtain ⟨y, ey⟩ : ∃ x, leV ((xs.take n).drop (k + 1)) = x := ⟨_, rfl⟩
          rw [ex, ey] at hd hq1
          rw [ex] at hx0 hx1 hcell
          rw [ey] at hy0 hy1
          rw [ey]
          have HD := Hd.mk hd
          clear hd ex ey hq0
          go_wp2
          go_roundg k
          case measure => omega
          case rel => exact ⟨rfl, by omega, by rw [HD.out, show y * 256 + x = x + 256 * y by omega], rfl⟩

end Go.Proofs.Ytpjfepeedfbpfaa
