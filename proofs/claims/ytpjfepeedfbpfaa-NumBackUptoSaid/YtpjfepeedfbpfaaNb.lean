/- num: numbers come back: the walk of NumBack. -/
import Derived.Test.YtpjfepeedfbpfaaPl
import Derived.Test.YtpjfepeedfbpfaaFx
import Derived.Test.YtpjfepeedfbpfaaSz
import Derived.Test.YtpjfepeedfbpfaaDc
import Derived.Test.YtpjfepeedfbpfaaOf
import Derived.Test.YtpjfepeedfbpfaaLv
namespace Go.Proofs.Ytpjfepeedfbpfaa
open Go.RowKit Go.Proofs.YtpjfepeedfbpfaaW.PrintWords Go.Proofs.YtpjfepeedfbpfaaW.PrintLast Go.Proofs.YtpjfepeedfbpfaaW.PrintMore
set_option linter.unusedVariables false
set_option linter.unusedSimpArgs false
theorem leB_cons (n : Nat) (v : Int) : leB (n + 1) v = v % 256 :: leB n (v / 256) := by
  unfold leB
  rw [List.range_succ_eq_map, List.map_cons, List.map_map]
  congr 1
  · simp
  · refine List.map_congr_left fun j _ => ?_
    show v / 256 ^ (j + 1) % 256 = v / 256 / 256 ^ j % 256
    rw [Int.pow_succ, Int.mul_comm, Int.ediv_ediv_of_nonneg (by decide)]
theorem leV_leB : ∀ (n : Nat) (v : Int), 0 ≤ v → v < 256 ^ n → leV (leB n v) = v
  | 0, v, h0, h1 => by
    have : v = 0 := by simp at h1; omega
    subst this
    rfl
  | n + 1, v, h0, h1 => by
    rw [leB_cons, leV, leV_leB n (v / 256) (by omega) (by rw [Int.pow_succ] at h1; omega)]
    omega
theorem unf_back (n : Nat) (v : Int) (ys : List Int) (h1 : 1 ≤ n) (h8 : n ≤ 8) (h0 : 0 ≤ v) (hv : v < 256 ^ n) : unfS (leB n v ++ ys) n = (v, 0) := by
  unfold unfS
  rw [if_neg (by omega), if_neg (by rw [List.length_append, leB_len]; omega), Int.toNat_natCast, List.take_left' (leB_len n v), leV_leB n v h0 hv]
theorem bytesL_drop (l : List Int) (j : Nat) (h : j < l.length) (ys : List Int) : (bytesL l ++ ys).drop (bytesL (l.take j)).length = bytesN (gb l j) ++ (bytesL (l.drop (j + 1)) ++ ys) := by
  have e : l = l.take j ++ (gb l j :: l.drop (j + 1)) := by
    conv => lhs; rw [← List.take_append_drop j l]
    congr 1
    rw [List.drop_eq_getElem_cons h]
    simp [gb, List.getD_eq_getElem?_getD, h]
  have e2 : bytesL l = bytesL (l.take j) ++ (bytesN (gb l j) ++ bytesL (l.drop (j + 1))) := by
    conv => lhs; rw [e]
    simp [bytesL]
  conv => lhs; rw [e2]
  rw [List.append_assoc, List.drop_left', List.append_assoc]
  rfl
theorem bytesL_take (l : List Int) (j : Nat) (h : j < l.length) : bytesL (l.take (j + 1)) = bytesL (l.take j) ++ bytesN (gb l j) := by
  rw [take_snoc' l j h]
  simp [bytesL]
end Go.Proofs.Ytpjfepeedfbpfaa
