/- WALKS OF FRACTIONS, 8: the reference's fractions of two numbers, sums. -/
import Derived.Test.YtennilapmcgnbaaQ1
import Derived.Test.YtennilapmcgnbaaQ2
namespace Go.Proofs.Ytennilapmcgnbaa
set_option linter.unusedVariables false
set_option linter.unusedSimpArgs false
open Go.ChangeShapes Go.WideShapes Go.ChangeAt Go.RowKit Go.NatP

/-- a fraction beside no error -/
def RetQK (w : World) (q : Rat) (e : Ending) (w' : World) : Prop :=
  ∃ a n c b m d, e = .returned (.tuple #[.agg #[.bool (decide (q.num < 0)), .slice a n c, .slice b m d], .int .i64 0]) ∧ Own w.heap.size w' a n c (lm q.num.natAbs) ∧ Own w.heap.size w' b m d (lm q.den) ∧ Diff a b ∧ Below w.heap.size w w'
theorem retqe_ok {w w' : World} {q : Rat} {er : Int} {e : Ending} (h : RetQE w q er e w') (he : er = 0) : RetQK w q e w' := by
  subst he; exact h

end Go.Proofs.Ytennilapmcgnbaa
/- WALKS OF FRACTIONS, 9: the reference's texts; two fractions held against each other. -/
namespace Go.Proofs.Ytennilapmcgnbaa
set_option linter.unusedVariables false
set_option linter.unusedSimpArgs false
end Go.Proofs.Ytennilapmcgnbaa
