/- WALKS OF WHOLE NUMBERS, 6: numbers read; equality. -/
import Derived.Test.YtoeldbdcbfgmoaaDoorZe
namespace Go.Proofs.YtoeldbdcbfgmoaaDoor
set_option linter.unusedVariables false
set_option linter.unusedSimpArgs false
open Go.ChangeShapes Go.WideShapes Go.ChangeAt Go.RowKit Go.NatP

/-- one whole number and an error -/
def RetZE (w : World) (z er : Int) (e : Ending) (w' : World) : Prop :=
  ∃ a n c, e = .returned (.tuple #[.agg #[.bool (decide (z < 0)), .slice a n c], .int .i64 er]) ∧ Own w.heap.size w' a n c (lm z.natAbs) ∧ Below w.heap.size w w'
theorem retze_set {w w2 : World} {z er : Int} {B g : Nat} {a : Option Addr} {n c : Nat} {v0 v1 : Value} (hO : Own B w2 a n c (lm z.natAbs)) (hB : Below w.heap.size w w2) (hg : w.heap.size ≤ g) (hgB : g < B) :
    RetZE w z er (.returned (.tuple #[.agg #[.bool (decide (z < 0)), .slice a n c], .int .i64 er])) ((w2.setCell ⟨g, 0, none⟩ v0).setCell ⟨g, 1, none⟩ v1) := by
  obtain ⟨a', n', c', he, h1, h2⟩ := retz_set (z := z) (v0 := v0) (v1 := v1) hO hB hg hgB
  cases he
  exact ⟨a, n, c, rfl, h1, h2⟩
theorem retze_nil {w w2 : World} {er : Int} {g : Nat} {v0 v1 : Value} (hB : Below w.heap.size w w2) (hg : w.heap.size ≤ g) :
    RetZE w 0 er (.returned (.tuple #[.agg #[.bool false, .slice none 0 0], .int .i64 er])) ((w2.setCell ⟨g, 0, none⟩ v0).setCell ⟨g, 1, none⟩ v1) :=
  ⟨none, 0, 0, rfl, own_nil _ _, (hB.setCell (p := ⟨g, 0, none⟩) hg v0).setCell (p := ⟨g, 1, none⟩) hg v1⟩

theorem pa_cases (l : List Nat) : paE l = 0 ∨ (paE l = 10 ∧ paN l = 0) := by
  unfold paE paN
  split
  · exact .inl rfl
  · exact .inr ⟨rfl, rfl⟩
/-- the number of a text, 0 where there is none -/
def pzZ (s : ByteArray) : Int := zv (pzB s) (paN (by' (pzR s)))
def pzE (s : ByteArray) : Int := paE (by' (pzR s))

end Go.Proofs.YtoeldbdcbfgmoaaDoor
