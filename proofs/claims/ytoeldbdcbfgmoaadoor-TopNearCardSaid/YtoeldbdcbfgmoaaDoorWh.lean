/- WALKS, 8: sums, differences, products, of the program and of the reference. -/
import Derived.Test.YtoeldbdcbfgmoaaDoorWg
import Derived.Test.YtoeldbdcbfgmoaaDoorPP
namespace Go.Proofs.YtoeldbdcbfgmoaaDoor
set_option linter.unusedVariables false
open Go.ChangeShapes Go.WideShapes Go.ChangeAt Go.RowKit Go.NatP

theorem Own.setI {B g n c : Nat} {w : World} {l : List Nat} {X : Int} (h : Own B w (some ⟨g, 0, none⟩) n c l) (i x : Nat) (hX : X = (x : Int)) (hx : x < 4294967296) :
    Own B (w.setCell ⟨g, i, none⟩ (.int .u32 X)) (some ⟨g, 0, none⟩) n c (l.set i x) := by
  subst hX; exact h.set i x hx

end Go.Proofs.YtoeldbdcbfgmoaaDoor
