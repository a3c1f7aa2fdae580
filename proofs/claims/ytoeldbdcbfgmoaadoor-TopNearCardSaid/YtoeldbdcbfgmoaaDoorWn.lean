/- WALKS, 14: numbers read. -/
import Derived.Test.YtoeldbdcbfgmoaaDoorWm
import Derived.Test.YtoeldbdcbfgmoaaDoorPP
import Derived.Test.YtoeldbdcbfgmoaaDoorMc
namespace Go.Proofs.YtoeldbdcbfgmoaaDoor
set_option linter.unusedVariables false
open Go.ChangeShapes Go.WideShapes Go.ChangeAt Go.RowKit Go.NatP

/-- the bytes of a text, as numbers -/
def by' (s : ByteArray) : List Nat := s.data.toList.map UInt8.toNat
theorem by_len (s : ByteArray) : (by' s).length = s.size := by simp [by']
theorem by_get (s : ByteArray) (k : Nat) (h : k < s.size) : (by' s).getD k 0 = s[k].toNat := by
  have h2 : k < s.data.toList.length := by simpa using h
  simp [by', List.getD_eq_getElem?_getD, List.getElem?_eq_getElem h2]
  rfl
theorem by_lt (s : ByteArray) (k : Nat) : (by' s).getD k 0 < 256 := by
  by_cases h : k < s.size
  · rw [by_get s k h]; exact UInt8.toNat_lt _
  · rw [getD_ge _ _ (by rw [by_len]; omega)]; decide

theorem paN_sz (s : ByteArray) {K : Nat} (h : s.size ≤ K) : Sz (paN (by' s)) K := by
  unfold paN
  split
  · rename_i hc
    refine Nat.lt_of_lt_of_le (numD_lt (by' s) fun c hcm => ?_) (Nat.pow_le_pow_right (by decide) (by rw [by_len]; exact h))
    have := hc.2
    simp only [okD, List.all_eq_true, Bool.and_eq_true, decide_eq_true_eq] at this
    exact (this c hcm).2
  · exact Nat.pow_pos (by decide)

end Go.Proofs.YtoeldbdcbfgmoaaDoor
