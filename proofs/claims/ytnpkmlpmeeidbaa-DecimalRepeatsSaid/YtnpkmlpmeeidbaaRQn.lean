/- WALKS OF FRACTIONS, 14: two answers alike; an answer in lowest terms. -/
import Derived.Test.YtnpkmlpmeeidbaaRQm
namespace Go.Proofs.Ytnpkmlpmeeidbaa
set_option linter.unusedVariables false
set_option linter.unusedSimpArgs false
open Go.ChangeShapes Go.WideShapes Go.ChangeAt Go.RowKit Go.NatP

end Go.Proofs.Ytnpkmlpmeeidbaa
