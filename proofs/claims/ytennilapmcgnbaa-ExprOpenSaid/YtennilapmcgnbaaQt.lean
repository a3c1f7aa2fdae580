/- WALKS OF FRACTIONS, 16: Norm; the reference's opposites, differences, products, quotients, comparison. -/
import Derived.Test.YtennilapmcgnbaaQm
namespace Go.Proofs.Ytennilapmcgnbaa
set_option linter.unusedVariables false
set_option linter.unusedSimpArgs false
open Go.ChangeShapes Go.WideShapes Go.ChangeAt Go.RowKit Go.NatP

theorem szMulZ {x y : Int} {j k : Nat} (h : Sz x.natAbs j) (h' : Sz y.natAbs k) : Sz (x * y).natAbs (j + k) := by rw [Int.natAbs_mul]; exact h.mul h'

/-- slot s holds a new block with a fraction of the sign t, the size v (the call's own) and the limbs that lie at b -/
def BoxO (w0 : World) (t : Bool) (v : Nat) (b : Option Addr) (m d : Nat) (s : Value) (wx : World) : Prop :=
  ∃ g qa qn qc, s = .pointer (some ⟨g, 0, none⟩) ∧ Blk wx g #[.bool t, .slice qa qn qc, .slice b m d] ∧ w0.heap.size ≤ g ∧ Own w0.heap.size wx qa qn qc (lm v) ∧ Below w0.heap.size w0 wx
theorem boxO_set {w0 w5 : World} {t : Bool} {v : Nat} {g B : Nat} {qa b : Option Addr} {qn qc m d : Nat} (A : Blk w5 g #[.bool false, .slice none 0 0, .slice none 0 0]) (hO : Own B w5 qa qn qc (lm v)) (hg : w0.heap.size ≤ g) (hgB : g < B) (hB : Below w0.heap.size w0 w5) :
    BoxO w0 t v b m d (.pointer (some ⟨g, 0, none⟩)) (((w5.setCell ⟨g, 0, none⟩ (.bool t)).setCell ⟨g, 1, none⟩ (.slice qa qn qc)).setCell ⟨g, 2, none⟩ (.slice b m d)) :=
  ⟨g, qa, qn, qc, rfl, (show Blk _ _ #[_, _, _] from ((A.setCell (i := 0) (v := .bool t) (by simp)).setCell (i := 1) (v := .slice qa qn qc) (by simp)).setCell (i := 2) (v := .slice b m d) (by simp)), hg, (hO.set3 hgB _ _ _).mono (by omega), Below.set3 hB hg _ _ _⟩
theorem boxO_new {w0 w5 : World} {t : Bool} {v : Nat} {B : Nat} {qa b : Option Addr} {qn qc m d : Nat} {T : TypeId} (hO : Own B w5 qa qn qc (lm v)) (hgB : w0.heap.size ≤ B) (hB : Below w0.heap.size w0 w5) :
    BoxO w0 t v b m d (.pointer (some ⟨w5.heap.size, 0, none⟩)) (w5.alloc (.cells #[.bool t, .slice qa qn qc, .slice b m d] T)) :=
  ⟨_, qa, qn, qc, rfl, blk_new _ _ _, hB.size, (hO.alloc _).mono hgB, hB.alloc hB.size _⟩
theorem qv_inv (t : Bool) {u v : Nat} (hu : u ≠ 0) : qv t (und v) u = (qv t u v)⁻¹ := by
  unfold qv
  rw [und_of hu, ← Rat.divInt_ofNat, ← Rat.divInt_ofNat, Rat.inv_divInt]
  cases t
  · rfl
  · rw [show zv true u = -(u : Int) by simp [zv], show zv true (und v) = -((und v : Nat) : Int) by simp [zv], Rat.divInt_neg']

end Go.Proofs.Ytennilapmcgnbaa
