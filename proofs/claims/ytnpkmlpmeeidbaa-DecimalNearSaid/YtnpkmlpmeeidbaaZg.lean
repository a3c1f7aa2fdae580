/- WALKS OF WHOLE NUMBERS, 7: numbers of ints; ints of numbers; texts. -/
import Derived.Test.YtnpkmlpmeeidbaaZf
namespace Go.Proofs.Ytnpkmlpmeeidbaa
set_option linter.unusedVariables false
set_option linter.unusedSimpArgs false
open Go.ChangeShapes Go.WideShapes Go.ChangeAt Go.RowKit Go.NatP

theorem txt_size {n k : Nat} (h : (dl n).length ≤ k) : (txt (tx n)).size ≤ k + 1 := by
  unfold txt
  rw [strOfNums_size, List.length_map]
  unfold tx
  split
  · simp
  · simp; omega
theorem RetUint.small {w : World} {n : Nat} {e : Ending} {w' : World} (h : RetUint w n e w') (hn : n < 18446744073709551616) : e = .returned (.tuple #[.int .u64 n, .bool true]) ∧ Below w.heap.size w w' := by
  refine ⟨?_, h.2⟩
  rw [h.1, uv, if_pos (by unfold two64; omega), decide_eq_true (by unfold two64; omega)]

end Go.Proofs.Ytnpkmlpmeeidbaa
