/- num: Size; the reference's Same, Lend, Kept. -/
import Derived.Test.YtpjfepeedfbpfaaEn
namespace Go.Proofs.Ytpjfepeedfbpfaa
open Go.RowKit Go.Proofs.YtpjfepeedfbpfaaW.PrintWords Go.Proofs.YtpjfepeedfbpfaaW.PrintLast Go.Proofs.YtpjfepeedfbpfaaW.PrintMore
set_option linter.unusedVariables false
set_option linter.unusedSimpArgs false

set_option maxHeartbeats 1000000 in
theorem size_calls (A : Option Addr) (n c : Nat) (l : List Int) (w : World) (hU : U64s w A n c l) :
    Calls Try.prog 34 #[.slice A n c] w fun e w' => e = .returned (.int .i64 (bytesL l).length) ∧ w' = w := by
  have hn := hU.hn
  have hcap := hU.hc
  have HU := Hd.mk hU
  clear hU
  go_enter Try.func34, Try.ntmps34
  go_wp2
  go_loopg [3, 8] n (fun k u y w' => w' = w ∧ ∃ j : Nat, y = .int .i64 j ∧ j + k = n ∧ u = .int .i64 (bytesL (l.take j)).length)
  case atStart => exact ⟨rfl, 0, rfl, by omega, rfl⟩
  case round =>
    obtain ⟨rfl, j, rfl, hj, rfl⟩ := hrel
    rcases Nat.eq_zero_or_pos gk with rfl | hp
    · obtain rfl : j = n := by omega
      have HE := Hd.mk (show l.take j = l from List.take_of_length_le (by have := HU.out.C.1; omega))
      obtain ⟨m, em⟩ : ∃ m, (bytesL (l.take j)).length = m := ⟨_, rfl⟩
      rw [em]
      have EM := Hd.mk em
      clear em hj
      go_wp2
      go_ret
      exact ⟨(by rw [← EM.out, HE.out]; exact rfl), rfl⟩
    · obtain ⟨k, rfl⟩ : ∃ k, gk = k + 1 := ⟨gk - 1, by omega⟩
      have hl : j < l.length := by have := HU.out.C.1; omega
      obtain ⟨ad, hA, hcell⟩ := at_byte HU.out.C j (by omega)
      subst hA
      obtain ⟨x0, x1⟩ := gb_range64 HU.out.hr j
      have hlen := bytesL_len (l.take j)
      rw [List.length_take, Nat.min_eq_left (by omega)] at hlen
      have hS := congrArg List.length (bytesL_snoc l j hl)
      rw [List.length_append] at hS
      obtain ⟨x, ex⟩ : ∃ x, gb l j = x := ⟨_, rfl⟩
      rw [ex] at hcell x0 x1 hS
      have hx10 : (bytesN x).length ≤ 10 := (encN_len 9 x).2
      obtain ⟨B, eB⟩ : ∃ B, (bytesL (l.take j)).length = B := ⟨_, rfl⟩
      rw [eB] at hlen hS ⊢
      have HS := Hd.mk hS
      clear ex eB hS
      go_wp2
      go_loopg [3, 5] 9 (fun q u y w'' => w'' = wr ∧ q ≤ 9 ∧ ∃ (z : Int) (m : Nat), y = .int .u64 z ∧ u = .int .i64 m ∧ 0 ≤ z ∧ z < 2 * 128 ^ q ∧ m ≤ 1 + B + 9 - q ∧ Hd (m + (encN q z).length = B + (bytesN x).length + 1))
      case atStart => exact ⟨rfl, by omega, x, B + 1, rfl, by go_num, x0, by omega, by omega, ⟨by unfold bytesN; omega⟩⟩
      case round =>
        obtain ⟨rfl, hq, z, m, rfl, rfl, z0, z1, hm, HE⟩ := hrel
        by_cases hz : 127 < z
        · obtain ⟨q, rfl⟩ : ∃ k, gk = k + 1 := by
            rcases gk with _ | k
            · simp at z1; omega
            · exact ⟨k, rfl⟩
          have hz9 : z ≤ 18446744073709551615 := by
            have := pow_le9 (show q + 1 ≤ 9 from hq)
            omega
          have hE := HE.out
          rw [encN, if_pos hz, List.length_cons] at hE
          have HE' := Hd.mk hE
          clear hE HE
          go_wp2
          go_roundg q
          case measure => omega
          case rel =>
            refine ⟨rfl, by omega, z / 128, m + 1, rfl, by go_num, by omega, ?_, by omega, ⟨by have := HE'.out; omega⟩⟩
            rw [Int.pow_succ] at z1
            omega
        · have hE : encN gk z = [z] := by
            rcases gk with _ | k
            · simp at z1
              simp [encN]
              omega
            · rw [encN, if_neg hz]
          have hE' := HE.out
          rw [hE] at hE'
          have hmm : m = B + (bytesN x).length := by simpa using hE'
          have HM := Hd.mk hmm
          clear hE hE' HE hmm
          go_wp2
          go_roundg k
          case measure => omega
          case rel => exact ⟨rfl, j + 1, by go_num, by omega, by rw [HS.out, HM.out]⟩
end Go.Proofs.Ytpjfepeedfbpfaa
