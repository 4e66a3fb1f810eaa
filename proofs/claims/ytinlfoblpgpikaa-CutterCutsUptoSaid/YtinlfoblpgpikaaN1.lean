/- num: reading numbers: the reference's Wrong, value, Read; the program's Taker and Decode. -/
import Derived.Test.YtinlfoblpgpikaaAp
namespace Go.Proofs.Ytinlfoblpgpikaa
open Go.RowKit Go.Proofs.YtinlfoblpgpikaaW.PrintWords Go.Proofs.YtinlfoblpgpikaaW.PrintLast Go.Proofs.YtinlfoblpgpikaaW.PrintMore

set_option linter.unusedVariables false
set_option linter.unusedSimpArgs false
/-! ### plain -/
def gb (xs : List Int) (k : Nat) : Int := xs.getD k 0
/-! ### Wrong (35), value (36) -/
/-! ### Read (31) -/
end Go.Proofs.Ytinlfoblpgpikaa
