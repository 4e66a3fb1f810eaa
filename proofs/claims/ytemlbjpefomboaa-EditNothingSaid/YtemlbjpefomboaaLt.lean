/- edit: short names for the letters of orders. -/
import Derived.Test.YtemlbjpefomboaaW0
namespace Go.Proofs.Ytemlbjpefomboaa
abbrev T : Bool := true
abbrev F : Bool := false
end Go.Proofs.Ytemlbjpefomboaa
