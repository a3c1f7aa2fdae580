/- WALKS, 10: the reference's sums and differences. -/
import Derived.Test.YtennilapmcgnbaaWi
namespace Go.Proofs.Ytennilapmcgnbaa
set_option linter.unusedVariables false
open Go.ChangeShapes Go.WideShapes Go.ChangeAt Go.RowKit Go.NatP

theorem own_lt {B : Nat} {w : World} {a : Option Addr} {n c : Nat} {l : List Nat} (hO : Own B w a n c l) : ∀ k, k < B → ¬ (a = some ⟨k, 0, none⟩) := by
  intro j hj e
  subst e
  have := hO.lt
  omega

theorem val_snoc (l : List Nat) (x : Nat) : val (l ++ [x]) = val l + x * 4294967296 ^ l.length := by
  rw [val_append]; simp [val, Nat.mul_comm]

end Go.Proofs.Ytennilapmcgnbaa
