/- WALKS OF WHOLE NUMBERS, 7: numbers of ints; ints of numbers; texts. -/
import Derived.Test.YtdabplkilaofbaaDoorZf
namespace Go.Proofs.YtdabplkilaofbaaDoor
set_option linter.unusedVariables false
set_option linter.unusedSimpArgs false
open Go.ChangeShapes Go.WideShapes Go.ChangeAt Go.RowKit Go.NatP

theorem txt_size {n k : Nat} (h : (dl n).length ≤ k) : (txt (tx n)).size ≤ k + 1 := by
  unfold txt
  rw [strOfNums_size, List.length_map]
  unfold tx
  split
  · simp
  · simp; omega
/-- the text of a whole number -/
def ztx (z : Int) : ByteArray := if z < 0 then ⟨#[45]⟩ ++ txt (tx z.natAbs) else txt (tx z.natAbs)

/-- is a whole number an int? -/
def isI (z : Int) : Bool := decide (-9223372036854775808 ≤ z ∧ z ≤ 9223372036854775807)
def ivI (z : Int) : Int := if isI z then z else 0
def RetIn (w : World) (z : Int) (e : Ending) (w' : World) : Prop := e = .returned (.tuple #[.int .i64 (ivI z), .bool (isI z)]) ∧ Below w.heap.size w w'
theorem isI_yes {z : Int} (h : -9223372036854775808 ≤ z ∧ z ≤ 9223372036854775807) : isI z = true := decide_eq_true h
theorem ivI_yes {z : Int} (h : -9223372036854775808 ≤ z ∧ z ≤ 9223372036854775807) : ivI z = z := by unfold ivI; rw [isI_yes h]; rfl
theorem isI_no {z : Int} (h : ¬ (-9223372036854775808 ≤ z ∧ z ≤ 9223372036854775807)) : isI z = false := decide_eq_false h
theorem RetUint.big {w : World} {n : Nat} {e : Ending} {w' : World} (h : RetUint w n e w') (hn : 18446744073709551616 ≤ n) : e = .returned (.tuple #[.int .u64 0, .bool false]) ∧ Below w.heap.size w w' := by
  refine ⟨?_, h.2⟩
  rw [h.1, uv, if_neg (by unfold two64; omega), decide_eq_false (by unfold two64; omega)]; rfl
theorem RetUint.small {w : World} {n : Nat} {e : Ending} {w' : World} (h : RetUint w n e w') (hn : n < 18446744073709551616) : e = .returned (.tuple #[.int .u64 n, .bool true]) ∧ Below w.heap.size w w' := by
  refine ⟨?_, h.2⟩
  rw [h.1, uv, if_pos (by unfold two64; omega), decide_eq_true (by unfold two64; omega)]

end Go.Proofs.YtdabplkilaofbaaDoor
