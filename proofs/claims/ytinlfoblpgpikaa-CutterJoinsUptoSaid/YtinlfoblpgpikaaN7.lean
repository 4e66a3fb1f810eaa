/- cutter: Zig, Zag; how long a number's bytes are. (Zig and Zag turned from the claim NumZigs.) -/
import Derived.Test.YtinlfoblpgpikaaN4
namespace Go.Proofs.Ytinlfoblpgpikaa
open Go.RowKit Go.Proofs.YtinlfoblpgpikaaW.PrintWords Go.Proofs.YtinlfoblpgpikaaW.PrintLast Go.Proofs.YtinlfoblpgpikaaW.PrintMore
set_option linter.unusedVariables false
set_option linter.unusedSimpArgs false
def zig (v : Int) : Int := if 0 ≤ v then 2 * v else -2 * v - 1
def zag (u : Int) : Int := if u % 2 = 1 then -(u / 2) - 1 else u / 2

theorem bits_xor_max (x : Int) (h0 : 0 ≤ x) (h1 : x ≤ 18446744073709551615) : bits .xor .u64 IntKind.u64.max x = 18446744073709551615 - x := by
  obtain ⟨n, rfl⟩ : ∃ n : Nat, x = n := ⟨x.toNat, by omega⟩
  have hn : n ≤ 2 ^ 64 - 1 := by omega
  have hm : IntKind.u64.max = 18446744073709551615 := by decide
  rw [hm]
  have : bits .xor .u64 18446744073709551615 (n : Int) = IntKind.u64.wrap ((BitVec.ofInt 64 18446744073709551615 ^^^ BitVec.ofInt 64 (n : Int)).toNat : Int) := rfl
  rw [this]
  have e : (BitVec.ofInt 64 18446744073709551615 ^^^ BitVec.ofInt 64 (n : Int)) = ~~~ (BitVec.ofNat 64 n) := by
    rw [show BitVec.ofInt 64 18446744073709551615 = BitVec.allOnes 64 by decide, BitVec.allOnes_xor, BitVec.ofInt_natCast]
  rw [e, BitVec.toNat_not, BitVec.toNat_ofNat, Nat.mod_eq_of_lt (by omega : n < 2 ^ 64), IntKind.wrap_u64]
  omega
theorem bits_and_one (x : Int) (h0 : 0 ≤ x) (h1 : x ≤ 18446744073709551615) : bits .and .u64 x 1 = x % 2 :=
  bits_mask .u64 64 (by decide) (by intro n a b; rw [IntKind.wrap_u64]; omega) 1 (by decide) x h0 (by omega)

set_option maxHeartbeats 1000000 in
theorem zig_calls (v : Int) (h0 : -9223372036854775808 ≤ v) (h1 : v ≤ 9223372036854775807) (w : World) :
    Calls Try.prog 51 #[.int .i64 v] w fun e w' => e = .returned (.int .u64 (zig v)) ∧ w' = w := by
  by_cases h : 0 ≤ v
  · go_enter Try.func51, Try.ntmps51
    go_wp2
    go_ret
    exact ⟨by rw [zig, if_pos h, Int.mul_comm]; rfl, rfl⟩
  · have h' : v < 0 := by omega
    go_enter Try.func51, Try.ntmps51
    go_wp2
    go_ret
    refine ⟨?_, rfl⟩
    have e : bits BinOp.xor IntKind.u64 IntKind.u64.max (IntKind.u64.wrap (IntKind.u64.wrap v * 2)) = -2 * v - 1 := by
      rw [bits_xor_max _ (by rw [IntKind.wrap_u64]; omega) (by rw [IntKind.wrap_u64]; omega), IntKind.wrap_u64, IntKind.wrap_u64]
      omega
    have hn : ¬ 0 ≤ v := by omega
    simp [zig, hn, e]

set_option maxHeartbeats 1000000 in
theorem rzig_calls (v : Int) (h0 : -9223372036854775808 ≤ v) (h1 : v ≤ 9223372036854775807) (w : World) :
    Calls Try.prog 53 #[.int .i64 v] w fun e w' => e = .returned (.int .u64 (zig v)) ∧ w' = w := by
  by_cases h : 0 ≤ v
  · go_enter Try.func53, Try.ntmps53
    go_wp2
    go_ret
    refine ⟨?_, rfl⟩
    simp [zig, h]
  · have h' : v < 0 := by omega
    go_enter Try.func53, Try.ntmps53
    go_wp2
    go_ret
    refine ⟨?_, rfl⟩
    have hn : ¬ 0 ≤ v := by omega
    simp [zig, hn]
    omega

set_option maxHeartbeats 1000000 in
theorem zag_calls (u : Int) (h0 : 0 ≤ u) (h1 : u ≤ 18446744073709551615) (w : World) :
    Calls Try.prog 54 #[.int .u64 u] w fun e w' => e = .returned (.int .i64 (zag u)) ∧ w' = w := by
  have hb := bits_and_one u h0 h1
  by_cases h : u % 2 = 1
  · have hd : (bits BinOp.and IntKind.u64 u 1 == 1) = true := by rw [hb, h]; rfl
    have H := Hd.mk h
    clear h hb
    go_enter Try.func54, Try.ntmps54
    go_wp2
    go_ret
    refine ⟨?_, rfl⟩
    have e : wrap64 (bits BinOp.xor IntKind.u64 IntKind.u64.max (u / 2)) = -(u / 2) - 1 := by
      rw [bits_xor_max _ (by omega) (by omega)]
      unfold wrap64
      omega
    simp [zag, H.out, e]
  · have hd : (bits BinOp.and IntKind.u64 u 1 == 1) = false := by rw [hb]; simpa using h
    have H := Hd.mk h
    clear h hb
    go_enter Try.func54, Try.ntmps54
    go_wp2
    go_ret
    refine ⟨?_, rfl⟩
    simp [zag, H.out]

theorem zig_bd (v : Int) (h0 : -9223372036854775808 ≤ v) (h1 : v ≤ 9223372036854775807) : 0 ≤ zig v ∧ zig v ≤ 18446744073709551615 := by
  unfold zig; split <;> omega
theorem zag_bd (u : Int) (h0 : 0 ≤ u) (h1 : u ≤ 18446744073709551615) : -9223372036854775808 ≤ zag u ∧ zag u ≤ 9223372036854775807 := by
  unfold zag; split <;> omega
theorem zag_zig (v : Int) : zag (zig v) = v := by unfold zag zig; split <;> split <;> omega
theorem zig_zag (u : Int) (h0 : 0 ≤ u) : zig (zag u) = u := by unfold zag zig; split <;> split <;> omega

theorem encN_len2 : ∀ (m k : Nat) (x : Int), x < 128 ^ (m + 1) → (encN k x).length ≤ m + 1
  | m, 0, x, _ => by simp [encN]
  | 0, k + 1, x, h => by
    unfold encN
    rw [if_neg (by simp at h; omega)]
    simp
  | m + 1, k + 1, x, h => by
    unfold encN
    split
    · have := encN_len2 m k (x / 128) (by rw [Int.pow_succ] at h; omega)
      simp only [List.length_cons]
      omega
    · simp
theorem bytesN_len (m : Nat) {x : Int} (h : x < 128 ^ (m + 1)) : (bytesN x).length ≤ m + 1 := encN_len2 m 9 x h
theorem bytesL3 (a b c : Int) : bytesL [a, b, c] = bytesN a ++ (bytesN b ++ bytesN c) := by simp [bytesL]
def mayC (s : Pr.S82) : Bool := decide (0 ≤ s.f0 ∧ s.f0 ≤ 65536 ∧ 0 ≤ s.f1 ∧ s.f1 ≤ 65536 ∧ -16777216 ≤ s.f2 ∧ s.f2 ≤ 16777216)
theorem mayC_iff (s : Pr.S82) : mayC s = true ↔ 0 ≤ s.f0 ∧ s.f0 ≤ 65536 ∧ 0 ≤ s.f1 ∧ s.f1 ≤ 65536 ∧ -16777216 ≤ s.f2 ∧ s.f2 ≤ 16777216 := by simp [mayC]
def ctlS (s : Pr.S82) : List Int := bytesL [s.f0, s.f1, zig s.f2]
def ctlL (l : List Pr.S82) : List Int := l.flatMap ctlS
def ctlR (l : List Pr.S82) : List Int × Int := if l.all mayC = true then (ctlL l, 0) else ([], 171)
theorem zig_le {v : Int} (h0 : -16777216 ≤ v) (h1 : v ≤ 16777216) : 0 ≤ zig v ∧ zig v ≤ 33554432 := by unfold zig; split <;> omega
theorem ctlS_len {s : Pr.S82} (h : mayC s = true) : (ctlS s).length ≤ 10 := by
  have h := (mayC_iff s).1 h
  have hz := zig_le h.2.2.2.2.1 h.2.2.2.2.2
  have h0 := bytesN_len 2 (x := s.f0) (by omega)
  have h1 := bytesN_len 2 (x := s.f1) (by omega)
  have h2 := bytesN_len 3 (x := zig s.f2) (by omega)
  rw [ctlS, bytesL3]
  simp only [List.length_append]
  omega
theorem ctlL_len : ∀ {l : List Pr.S82}, l.all mayC = true → (ctlL l).length ≤ 10 * l.length
  | [], _ => by simp [ctlL]
  | s :: l, h => by
    rw [List.all_cons, Bool.and_eq_true] at h
    have h1 := ctlS_len h.1
    have h2 := ctlL_len h.2
    have : ctlL (s :: l) = ctlS s ++ ctlL l := rfl
    rw [this, List.length_append, List.length_cons]
    omega
theorem ctlL_snoc (l : List Pr.S82) (i : Nat) (h : i < l.length) : ctlL (l.take (i + 1)) = ctlL (l.take i) ++ ctlS (Pr.rd_T82 l i) := by
  rw [List.take_succ_eq_append_getElem h, ctlL, List.flatMap_append, List.flatMap_cons, List.flatMap_nil, List.append_nil]
  simp [ctlL, Pr.rd_T82, List.getD_eq_getElem?_getD, List.getElem?_eq_getElem h]
theorem all_snoc (l : List Pr.S82) (i : Nat) (h : i < l.length) : (l.take (i + 1)).all mayC = ((l.take i).all mayC && mayC (Pr.rd_T82 l i)) := by
  rw [List.take_succ_eq_append_getElem h, List.all_append]
  simp [Pr.rd_T82, List.getD_eq_getElem?_getD, List.getElem?_eq_getElem h]
theorem all_no {l : List Pr.S82} {i : Nat} (h : i < l.length) (hn : mayC (Pr.rd_T82 l i) = false) : l.all mayC = false := by
  have hg : Pr.rd_T82 l i = l[i] := by simp [Pr.rd_T82, List.getD_eq_getElem?_getD, List.getElem?_eq_getElem h]
  rw [hg] at hn
  cases hA : l.all mayC with
  | false => rfl
  | true =>
    have := List.all_eq_true.1 hA l[i] (List.getElem_mem h)
    rw [hn] at this
    cases this
end Go.Proofs.Ytinlfoblpgpikaa
