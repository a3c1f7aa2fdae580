/- WALKS OF WHOLE NUMBERS, 5: texts cut. -/
import Derived.Test.YtoeldbdcbfgmoaaDoorZd
import Derived.Test.YtoeldbdcbfgmoaaDoorWp
namespace Go.Proofs.YtoeldbdcbfgmoaaDoor
set_option linter.unusedVariables false
open Go.ChangeShapes Go.WideShapes Go.ChangeAt Go.RowKit Go.NatP

/-- does a text begin with a stroke? -/
def pzB (s : ByteArray) : Bool := decide (0 < s.size ∧ (by' s).getD 0 0 = 45)
/-- what is behind the stroke -/
def pzR (s : ByteArray) : ByteArray := if pzB s then s.extract 1 s.size else s

theorem by_inj {s t : ByteArray} (h : by' s = by' t) : s = t := by
  have h1 : s.data.toList = t.data.toList := by
    refine List.ext_getElem (by have := congrArg List.length h; simpa [by'] using this) fun i h1 h2 => ?_
    have h3 := congrArg (fun l => l[i]?) h
    simp only [by', List.getElem?_map, List.getElem?_eq_getElem h1, List.getElem?_eq_getElem h2, Option.map_some, Option.some.injEq] at h3
    exact UInt8.toNat_inj.1 h3
  exact ByteArray.ext (Array.ext' h1)
theorem by_take1 (s : ByteArray) (h : 0 < s.size) : by' (s.extract 0 1) = [(by' s).getD 0 0] := by
  have hl : 0 < (by' s).length := by rw [by_len]; exact h
  have e : by' (s.extract 0 1) = (by' s).take 1 := by
    unfold by'
    rw [ByteArray.data_extract, Array.toList_extract, List.extract_eq_take_drop, ← List.map_take]
    rfl
  rw [e]
  cases hs : by' s with
  | nil => rw [hs] at hl; simp at hl
  | cons x l => simp
theorem stroke_eq (s : ByteArray) (h : 0 < s.size) : (s.extract 0 1 = ⟨#[45]⟩) ↔ (by' s).getD 0 0 = 45 := by
  constructor
  · intro e
    have := by_take1 s h
    rw [e] at this
    have h2 : by' (⟨#[45]⟩ : ByteArray) = [45] := rfl
    rw [h2] at this
    simpa using this.symm
  · intro e
    refine by_inj ?_
    rw [by_take1 s h, e]; rfl

def RetS2 (w : World) (b : Bool) (e : Ending) (w' : World) : Prop := e = .returned (.bool b) ∧ w = w'

theorem stroke_b (s : ByteArray) (h : 0 < s.size) : ((s.extract 0 1).toList == [45]) = pzB s := by
  have e : ((s.extract 0 1).toList = [45]) ↔ (s.extract 0 1 = ⟨#[45]⟩) := by
    rw [ByteArray.toList_eq]
    constructor
    · intro h; exact ByteArray.ext (Array.ext' h)
    · intro h; rw [h]
  rw [Bool.eq_iff_iff, beq_iff_eq, e, stroke_eq s h, pzB, decide_eq_true_iff]
  exact ⟨fun h2 => ⟨h, h2⟩, fun h2 => h2.2⟩

def RetCutP (w : World) (r : ByteArray) (b : Bool) (e : Ending) (w' : World) : Prop := e = .returned (.tuple #[.string r, .bool b]) ∧ w = w'

theorem pzR_size (s : ByteArray) : (pzR s).size ≤ s.size := by
  unfold pzR; split
  · rw [ByteArray.size_extract]; omega
  · exact Nat.le_refl _

end Go.Proofs.YtoeldbdcbfgmoaaDoor
