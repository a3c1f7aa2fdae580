/- WALKS, 19: the reference's doubles and halves. -/
import Derived.Test.YtnpkmlpmeeidbaaRWr
namespace Go.Proofs.Ytnpkmlpmeeidbaa
set_option linter.unusedVariables false
open Go.ChangeShapes Go.WideShapes Go.ChangeAt Go.RowKit Go.NatP

end Go.Proofs.Ytnpkmlpmeeidbaa
