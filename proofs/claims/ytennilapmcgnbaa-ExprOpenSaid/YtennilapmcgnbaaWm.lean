/- WALKS, 13: the shift, any int; the reference's shift. -/
import Derived.Test.YtennilapmcgnbaaWl
import Derived.StillTailTactics
namespace Go.Proofs.Ytennilapmcgnbaa
set_option linter.unusedVariables false
open Go.ChangeShapes Go.WideShapes Go.ChangeAt Go.RowKit Go.NatP

end Go.Proofs.Ytennilapmcgnbaa
