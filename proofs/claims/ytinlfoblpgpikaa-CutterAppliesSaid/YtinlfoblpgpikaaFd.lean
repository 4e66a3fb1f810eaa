/- cutter: a field of an edit that was answered. -/
import Derived.Test.YtinlfoblpgpikaaPc
namespace Go.Proofs.Ytinlfoblpgpikaa
open Go.RowKit Go.Shelf Go.Proofs.YtinlfoblpgpikaaW.PrintWords Go.Proofs.YtinlfoblpgpikaaW.PrintLast Go.Proofs.YtinlfoblpgpikaaW.PrintMore Go.Proofs.Ytinlfoblpgpikaa.Pr
theorem field26_0 (A B C : Option Addr) (n m k c d e : Nat) (w : World) : (Instr.field 26 (.agg #[.slice A n c, .slice B m d, .slice C k e]) 0).run Try.prog w = .ok (.slice A n c) w := by
  have h26 := Try.underlying26
  have h23 := Try.underlying23
  simp only [Instr.field]
  go_simp
  rfl
end Go.Proofs.Ytinlfoblpgpikaa
