/- cutter: slices of slices; Apply by contract. -/
import Derived.Test.YtinlfoblpgpikaaA1
import Derived.Test.YtinlfoblpgpikaaWc
namespace Go.Proofs.Ytinlfoblpgpikaa
open Go.RowKit Go.Shelf Go.Proofs.YtinlfoblpgpikaaW.PrintWords Go.Proofs.YtinlfoblpgpikaaW.PrintLast Go.Proofs.YtinlfoblpgpikaaW.PrintMore Go.Proofs.Ytinlfoblpgpikaa.Pr
set_option linter.unusedVariables false
set_option linter.unusedSimpArgs false
/-- Where what stands behind k elements begins. -/
def suf (A : Option Addr) (c k : Nat) : Option Addr := if c = k then A else A.map (·.add k)
theorem run_suf (A : Option Addr) (n c k : Nat) (w : World) (hk : k ≤ n) : (Instr.slice 24 (.slice A n c) (some (.int .i64 (k : Int))) none none).run Try.prog w = .ok (.slice (suf A c k) (n - k) (c - k)) w := by
  have h24 := Try.underlying24
  have h5 := Try.underlying5
  have hz0 : (0 : Int) ≤ (k : Int) := by omega
  have hz1 : (k : Int) ≤ (n : Int) := by omega
  unfold suf
  go_simp
theorem run_pre (A : Option Addr) (n c k : Nat) (w : World) (hk : k ≤ c) : (Instr.slice 24 (.slice A n c) none (some (.int .i64 (k : Int))) none).run Try.prog w = .ok (.slice A k c) w := by
  have h24 := Try.underlying24
  have h5 := Try.underlying5
  have hz0 : (0 : Int) ≤ (k : Int) := by omega
  have hz1 : (k : Int) ≤ (c : Int) := by omega
  cases A <;> go_simp
theorem C_suf {w : World} {A : Option Addr} {n c m : Nat} {xs : List Int} (h : (Kd.int .u8).C w A n xs) (hc : n ≤ c) (hm : m ≤ n) : (Kd.int .u8).C w (suf A c m) (n - m) (xs.drop m) := by
  have hn : xs.length = n := h.1
  unfold suf
  split
  · have e : xs.drop m = [] := List.drop_eq_nil_of_le (by omega)
    rw [e, show n - m = 0 by omega]
    exact ⟨rfl, by simp, fun h => by simp at h⟩
  · refine Kd.C_of_reads (enc := Value.int .u8) (d := (0 : Int)) (h1 := fun _ => rfl) ⟨by rw [List.length_drop, hn], by have := Kd.C_max h; omega, fun hn => ?_⟩
    obtain ⟨ad, e, _⟩ := at_byte h 0 (by omega)
    subst e
    refine ⟨_, rfl, fun j hj => ?_⟩
    obtain ⟨ad', e', hc'⟩ := at_byte h (m + j) (by omega)
    cases e'
    show w.cell? ((ad.add m).add j) = _
    rw [add_add, hc']
    simp [gb, List.getD_eq_getElem?_getD]
end Go.Proofs.Ytinlfoblpgpikaa
