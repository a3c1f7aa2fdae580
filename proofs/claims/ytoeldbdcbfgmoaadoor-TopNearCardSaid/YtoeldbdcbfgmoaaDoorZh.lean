/- WALKS OF WHOLE NUMBERS, 8: quotients rounded towards 0. -/
import Derived.Test.YtoeldbdcbfgmoaaDoorZg
namespace Go.Proofs.YtoeldbdcbfgmoaaDoor
set_option linter.unusedVariables false
set_option linter.unusedSimpArgs false
open Go.ChangeShapes Go.WideShapes Go.ChangeAt Go.RowKit Go.NatP

/-- two whole numbers, apart, and an error -/
def RetZZ (w : World) (q r er : Int) (e : Ending) (w' : World) : Prop :=
  ∃ a n c b m d, e = .returned (.tuple #[.agg #[.bool (decide (q < 0)), .slice a n c], .agg #[.bool (decide (r < 0)), .slice b m d], .int .i64 er]) ∧ Own w.heap.size w' a n c (lm q.natAbs) ∧ Own w.heap.size w' b m d (lm r.natAbs) ∧ Diff a b ∧ Below w.heap.size w w'
theorem Own.set2 {B : Nat} {w : World} {a : Option Addr} {n c : Nat} {l : List Nat} (h : Own B w a n c l) {g : Nat} (hg : g < B) (v0 v1 : Value) : Own B ((w.setCell ⟨g, 0, none⟩ v0).setCell ⟨g, 1, none⟩ v1) a n c l :=
  (h.set_other v0 (fun g' e => by have := h.lt' g' e; omega)).set_other v1 (fun g' e => by have := h.lt' g' e; omega)
theorem Below.set2 {B g : Nat} {a w : World} (h : Below B a w) (hg : B ≤ g) (v0 v1 : Value) : Below B a ((w.setCell ⟨g, 0, none⟩ v0).setCell ⟨g, 1, none⟩ v1) := (h.setCell (p := ⟨g, 0, none⟩) hg v0).setCell (p := ⟨g, 1, none⟩) hg v1
theorem retzz_set {w w2 : World} {q r er : Int} {B g g' : Nat} {a b : Option Addr} {n c m d : Nat} {v0 v1 u0 u1 : Value} (hO : Own B w2 a n c (lm q.natAbs)) (hO2 : Own B w2 b m d (lm r.natAbs)) (hD : Diff a b) (hB : Below w.heap.size w w2)
    (hg : w.heap.size ≤ g) (hgB : g < B) (hg' : w.heap.size ≤ g') (hgB' : g' < B) :
    RetZZ w q r er (.returned (.tuple #[.agg #[.bool (decide (q < 0)), .slice a n c], .agg #[.bool (decide (r < 0)), .slice b m d], .int .i64 er])) ((((w2.setCell ⟨g, 0, none⟩ v0).setCell ⟨g, 1, none⟩ v1).setCell ⟨g', 0, none⟩ u0).setCell ⟨g', 1, none⟩ u1) :=
  ⟨a, n, c, b, m, d, rfl, ((hO.set2 hgB _ _).set2 hgB' _ _).mono (by omega), ((hO2.set2 hgB _ _).set2 hgB' _ _).mono (by omega), hD, Below.set2 (Below.set2 hB hg _ _) hg' _ _⟩
theorem retzz_nil {w w2 : World} {er : Int} {g g' : Nat} {v0 v1 u0 u1 : Value} (hB : Below w.heap.size w w2) (hg : w.heap.size ≤ g) (hg' : w.heap.size ≤ g') :
    RetZZ w 0 0 er (.returned (.tuple #[.agg #[.bool false, .slice none 0 0], .agg #[.bool false, .slice none 0 0], .int .i64 er])) ((((w2.setCell ⟨g, 0, none⟩ v0).setCell ⟨g, 1, none⟩ v1).setCell ⟨g', 0, none⟩ u0).setCell ⟨g', 1, none⟩ u1) :=
  ⟨none, 0, 0, none, 0, 0, rfl, own_nil _ _, own_nil _ _, diff_nil _, Below.set2 (Below.set2 hB hg _ _) hg' _ _⟩

end Go.Proofs.YtoeldbdcbfgmoaaDoor
