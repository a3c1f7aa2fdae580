/- WALKS OF WHOLE NUMBERS, 6: numbers read; equality. -/
import Derived.Test.YtnpkmlpmeeidbaaRZe
namespace Go.Proofs.Ytnpkmlpmeeidbaa
set_option linter.unusedVariables false
set_option linter.unusedSimpArgs false
open Go.ChangeShapes Go.WideShapes Go.ChangeAt Go.RowKit Go.NatP

end Go.Proofs.Ytnpkmlpmeeidbaa
