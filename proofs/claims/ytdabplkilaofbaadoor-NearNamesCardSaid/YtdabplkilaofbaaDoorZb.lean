/- WALKS OF WHOLE NUMBERS, 2: norms, opposites. -/
import Derived.Test.YtdabplkilaofbaaDoorZa
namespace Go.Proofs.YtdabplkilaofbaaDoor
set_option linter.unusedVariables false
set_option linter.unusedSimpArgs false
open Go.ChangeShapes Go.WideShapes Go.ChangeAt Go.RowKit Go.NatP

theorem cell_set2 {w : World} {g g' i : Nat} (h : g' ≠ g) (v0 v1 : Value) : ((w.setCell ⟨g, 0, none⟩ v0).setCell ⟨g, 1, none⟩ v1).cell? ⟨g', i, none⟩ = w.cell? ⟨g', i, none⟩ :=
  World.cell?_of_block ((heap_setCell_other _ _ g' v1 h).trans (heap_setCell_other _ _ g' v0 h))

end Go.Proofs.YtdabplkilaofbaaDoor
