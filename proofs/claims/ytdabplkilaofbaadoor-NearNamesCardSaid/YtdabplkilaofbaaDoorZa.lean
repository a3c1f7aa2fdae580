/- WALKS OF WHOLE NUMBERS, 1: a sign and a size made a number. -/
import Derived.Test.YtdabplkilaofbaaDoorMz
namespace Go.Proofs.YtdabplkilaofbaaDoor
set_option linter.unusedVariables false
open Go.ChangeShapes Go.WideShapes Go.ChangeAt Go.RowKit Go.NatP

end Go.Proofs.YtdabplkilaofbaaDoor
