/- WALKS, 20: the reference's division. -/
import Derived.Test.YtennilapmcgnbaaWs
import Derived.Test.YtennilapmcgnbaaPP
import Derived.StillTailTactics
import Derived.OwnWalk
namespace Go.Proofs.Ytennilapmcgnbaa
set_option linter.unusedVariables false
set_option maxRecDepth 100000
open Go.ChangeShapes Go.WideShapes Go.ChangeAt Go.RowKit Go.NatP

/-- two rows that are not the same block -/
def Diff (a b : Option Addr) : Prop := ∀ g, a = some ⟨g, 0, none⟩ → b ≠ some ⟨g, 0, none⟩
theorem Diff.symm {a b : Option Addr} (h : Diff a b) : Diff b a := fun g e e2 => h g e2 e
theorem diff_nil (a : Option Addr) : Diff none a := fun _ e => by cases e
theorem diff_nil' (a : Option Addr) : Diff a none := fun _ _ e => by cases e

/-- two slices of the call's own, apart, and an error -/
def RetD (w : World) (q r : List Nat) (er : Int) (e : Ending) (w' : World) : Prop :=
  ∃ a n c a' n' c', e = .returned (.tuple #[.slice a n c, .slice a' n' c', .int .i64 er]) ∧ Own w.heap.size w' a n c q ∧ Own w.heap.size w' a' n' c' r ∧ Diff a a' ∧ Below w.heap.size w w'

theorem u32_shl1 (i : Nat) : (2 : Int) ^ (i % 32) = ((2 ^ (i % 32) : Nat) : Int) := by simp

end Go.Proofs.Ytennilapmcgnbaa
