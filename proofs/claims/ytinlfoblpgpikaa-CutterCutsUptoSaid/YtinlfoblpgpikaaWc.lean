/- cutter: the walk of CutterChecks. -/
import Derived.Test.YtinlfoblpgpikaaKp
import Derived.Test.YtinlfoblpgpikaaLv
import Derived.Test.YtinlfoblpgpikaaOc
namespace Go.Proofs.Ytinlfoblpgpikaa
open Go.RowKit Go.Shelf Go.Proofs.YtinlfoblpgpikaaW.PrintWords Go.Proofs.YtinlfoblpgpikaaW.PrintLast Go.Proofs.YtinlfoblpgpikaaW.PrintMore Go.Proofs.Ytinlfoblpgpikaa.Pr
set_option linter.unusedVariables false
set_option linter.unusedSimpArgs false
theorem WinI.below {W W' : World} {pos : Int} {A0 : Option Addr} {c0 : Nat} {st : List S81} {A1 : Option Addr} {c1 : Nat} {d : List Int} {A2 : Option Addr} {c2 : Nat} {x : List Int} (h : WinI W pos A0 c0 st A1 c1 d A2 c2 x) (hb : Below W.heap.size W W') : WinI W' pos A0 c0 st A1 c1 d A2 c2 x :=
  ⟨Kd.C_below h.s hb, Kd.C_below h.di hb, Kd.C_below h.ex hb, h.hs, h.hd, h.hx, h.ws, h.hp, h.l0, h.l1, h.l2⟩
end Go.Proofs.Ytinlfoblpgpikaa
