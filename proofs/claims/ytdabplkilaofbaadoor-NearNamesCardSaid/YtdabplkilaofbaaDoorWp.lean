/- WALKS, 16: numbers written. -/
import Derived.Test.YtdabplkilaofbaaDoorWo
namespace Go.Proofs.YtdabplkilaofbaaDoor
set_option linter.unusedVariables false
open Go.ChangeShapes Go.WideShapes Go.ChangeAt Go.RowKit Go.NatP

/-- ONE TEXT, old memory as it was. -/
def RetT (w : World) (t : ByteArray) (e : Ending) (w' : World) : Prop := e = .returned (.string t) ∧ Below w.heap.size w w'

theorem length_lm_div {n d k : Nat} (h : (lm n).length ≤ k) : (lm (n / d)).length ≤ k :=
  length_lm_le (Nat.lt_of_le_of_lt (Nat.div_le_self _ _) (Nat.lt_of_lt_of_le (lt_pow_length n) (Nat.pow_le_pow_right (by decide) h)))

theorem dl_len_le {n k : Nat} (h : (lm n).length ≤ k) : (dl n).length ≤ 10 * k := by
  refine length_dl_le (Nat.lt_of_lt_of_le (lt_pow_length n) ?_)
  rw [Nat.pow_mul]
  exact Nat.le_trans (Nat.pow_le_pow_right (by decide) h) (Nat.pow_le_pow_left (by decide) _)

set_option maxRecDepth 100000 in
theorem digit_index (r : Nat) (h : r < 10) (w : World) :
    (Instr.index 9 (.string ⟨#[48, 49, 50, 51, 52, 53, 54, 55, 56, 57]⟩) (.int .i64 (r : Int))).run Tryd.prog w = .ok (.int .u8 ((48 + r : Nat) : Int)) w := by
  have h10 : r = 0 ∨ r = 1 ∨ r = 2 ∨ r = 3 ∨ r = 4 ∨ r = 5 ∨ r = 6 ∨ r = 7 ∨ r = 8 ∨ r = 9 := by omega
  rcases h10 with rfl | rfl | rfl | rfl | rfl | rfl | rfl | rfl | rfl | rfl
  all_goals rfl

end Go.Proofs.YtdabplkilaofbaaDoor
