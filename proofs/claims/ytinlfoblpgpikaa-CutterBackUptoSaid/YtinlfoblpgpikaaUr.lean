/- cutter: the document's Uncontrol, by contract. -/
import Derived.Test.YtinlfoblpgpikaaUn
namespace Go.Proofs.Ytinlfoblpgpikaa
open Go.RowKit Go.Shelf Go.Proofs.YtinlfoblpgpikaaW.PrintWords Go.Proofs.YtinlfoblpgpikaaW.PrintLast Go.Proofs.YtinlfoblpgpikaaW.PrintMore Go.Proofs.Ytinlfoblpgpikaa.Pr
set_option linter.unusedVariables false
set_option linter.unusedSimpArgs false
attribute [-go_sem] Builtin.append_
end Go.Proofs.Ytinlfoblpgpikaa
