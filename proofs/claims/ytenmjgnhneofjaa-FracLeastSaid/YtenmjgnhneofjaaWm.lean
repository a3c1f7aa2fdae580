/- WALKS, 13: the shift, any int; the reference's shift. -/
import Derived.Test.YtenmjgnhneofjaaWl
import Derived.StillTailTactics
namespace Go.Proofs.Ytenmjgnhneofjaa
set_option linter.unusedVariables false
open Go.ChangeShapes Go.WideShapes Go.ChangeAt Go.RowKit Go.NatP

end Go.Proofs.Ytenmjgnhneofjaa
