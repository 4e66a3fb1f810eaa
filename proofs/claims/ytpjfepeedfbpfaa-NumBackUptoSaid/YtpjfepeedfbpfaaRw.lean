/- What a law's row needs: arguments opened. -/
import Derived.Test.YtpjfepeedfbpfaaLk
import Derived.OpenShut
namespace Go.Proofs.Ytpjfepeedfbpfaa
open Go.RowKit Go.Proofs.YtpjfepeedfbpfaaW.PrintWords Go.Proofs.YtpjfepeedfbpfaaW.PrintLast Go.Proofs.YtpjfepeedfbpfaaW.PrintMore
set_option linter.unusedVariables false

def IsRow (k : IntKind) (w : World) (a : Option Addr) (len cap : Nat) (zs : List Int) : Prop :=
  (a = none ∧ len = 0 ∧ cap = 0 ∧ zs = []) ∨
  ∃ x, a = some x ∧ len ≤ cap ∧ cap ≤ maxLen ∧ zs.length = cap ∧ (∀ i, i < zs.length → w.cell? (x.add i) = some (.int k (zs.getD i 0))) ∧ ∀ n ∈ zs, (Lit.int k n).wf = true
theorem IsRow.reads {k : IntKind} {w : World} {a : Option Addr} {len cap : Nat} {zs : List Int} (h : IsRow k w a len cap zs) :
    ∃ xs, (Kd.int k).C w a len xs ∧ len ≤ cap ∧ ∀ x ∈ xs, (Lit.int k x).wf = true := by
  obtain ⟨l0, e, hr0, hm0, hw0, hc0⟩ := ReadsInt.ofRowC h
  subst e
  exact ⟨l0, Kd.C_of_reads (d := (0 : Int)) (h1 := fun _ => rfl) hr0, hc0, hw0⟩
theorem IsRow.bytes {w : World} {a : Option Addr} {len cap : Nat} {zs : List Int} (h : IsRow .u8 w a len cap zs) : ∃ xs, Bs w a len cap xs := by
  obtain ⟨xs, hC, hc, hr⟩ := h.reads
  exact ⟨xs, hC, hc, fun x hx => bounds_u8 (hr x hx)⟩
theorem IsRow.u64 {w : World} {a : Option Addr} {len cap : Nat} {zs : List Int} (h : IsRow .u64 w a len cap zs) (y : len * 8 ≤ 140737488351232) : ∃ xs, U64s w a len cap xs := by
  obtain ⟨xs, hC, hc, hr⟩ := h.reads
  exact ⟨xs, hC, hc, fun x hx => bounds_u64 (hr x hx), y⟩
end Go.Proofs.Ytpjfepeedfbpfaa
