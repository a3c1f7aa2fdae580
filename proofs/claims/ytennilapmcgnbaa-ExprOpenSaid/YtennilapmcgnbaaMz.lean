/- MEMORY, 3: blocks of a few cells: boxed values, answers. -/
import Derived.Test.YtennilapmcgnbaaWy
import Derived.Test.YtennilapmcgnbaaPP
import Derived.Deep.RegionHeld3
import Derived.Deep.RegionWith
namespace Go.Proofs.Ytennilapmcgnbaa
set_option linter.unusedVariables false
open Go.ChangeShapes Go.WideShapes Go.ChangeAt Go.RowKit Go.NatP

/-- block g holds these cells, and may be written -/
def Blk (W : World) (g : Nat) (cs : Array Value) : Prop := ∃ T, W.heap[g]? = some (.cells cs T (0, 0))
section
variable {W W' : World} {g : Nat} {cs : Array Value}
theorem Blk.cell (h : Blk W g cs) (i : Nat) : W.cell? ⟨g, i, none⟩ = cs[i]? := by obtain ⟨T, h⟩ := h; simp [World.cell?, h]
theorem Blk.free (h : Blk W g cs) (i : Nat) : W.frozen? ⟨g, i, none⟩ = false := by obtain ⟨T, h⟩ := h; simp [World.frozen?, h]
theorem Blk.lt (h : Blk W g cs) : g < W.heap.size := by obtain ⟨T, h⟩ := h; exact (Array.getElem?_eq_some_iff.1 h).1
theorem Blk.next (h : Blk W g cs) (hB : Below W.heap.size W W') : Blk W' g cs := by
  have hl := h.lt
  obtain ⟨T, h⟩ := h; exact ⟨T, (hB.block g hl).trans h⟩
theorem Blk.kp {p : Nat → Prop} (h : Blk W g cs) (hK : Kp p W W') (hp : ¬ p g) : Blk W' g cs := by
  have hl := h.lt
  obtain ⟨T, h⟩ := h; exact ⟨T, (hK.block g hl hp).trans h⟩
theorem Blk.drew (h : Blk W g cs) : Blk W.drew g cs := h
theorem Blk.alloc (h : Blk W g cs) (o : Obj) : Blk (W.alloc o) g cs := h.next ((Below.refl _ _).alloc (Nat.le_refl _) o)
theorem Blk.setCell (h : Blk W g cs) {i : Nat} {v : Value} (hi : i < cs.size) : Blk (W.setCell ⟨g, i, none⟩ v) g (cs.set i v hi) := by
  obtain ⟨T, h⟩ := h
  refine ⟨T, ?_⟩
  have hl := (Array.getElem?_eq_some_iff.1 h).1
  unfold World.setCell
  simp only [Array.getElem?_modify, h, if_pos]
  simp [Array.setIfInBounds, hi]
theorem Blk.set_other (h : Blk W g cs) {g' i : Nat} {v : Value} (hne : g ≠ g') : Blk (W.setCell ⟨g', i, none⟩ v) g cs := by
  obtain ⟨T, h⟩ := h; exact ⟨T, (heap_setCell_other W _ g v hne).trans h⟩
theorem blk_new (W : World) (cs : Array Value) (T : TypeId) : Blk (W.alloc (.cells cs T)) W.heap.size cs := ⟨T, heap_alloc_new W _⟩
theorem blk_new' (W : World) (cs : Array Value) (T : TypeId) {g : Nat} (hg : W.heap.size = g) : Blk (W.alloc (.cells cs T)) g cs := hg ▸ blk_new W cs T
end

theorem bcell {W w1 : World} (hb : Below W.heap.size W w1) : (∀ b o, b < W.heap.size → w1.cell? ⟨b, o, none⟩ = W.cell? ⟨b, o, none⟩) ∧ (∀ b o, b < W.heap.size → w1.frozen? ⟨b, o, none⟩ = W.frozen? ⟨b, o, none⟩) :=
  ⟨fun b o h => hb.cell (p := ⟨b, o, none⟩) h, fun b o h => hb.frozen (p := ⟨b, o, none⟩) h⟩

/-- ONE WHOLE NUMBER, normal, its limbs the call's own. -/
def RetZ (w : World) (z : Int) (e : Ending) (w' : World) : Prop :=
  ∃ a n c, e = .returned (.agg #[.bool (decide (z < 0)), .slice a n c]) ∧ Own w.heap.size w' a n c (lm z.natAbs) ∧ Below w.heap.size w w'

/-- the answer laid into its block -/
theorem retz_set {w w2 : World} {z : Int} {B g : Nat} {a : Option Addr} {n c : Nat} {v0 v1 : Value} (hO : Own B w2 a n c (lm z.natAbs)) (hB : Below w.heap.size w w2) (hg : w.heap.size ≤ g) (hgB : g < B) :
    RetZ w z (.returned (.agg #[.bool (decide (z < 0)), .slice a n c])) ((w2.setCell ⟨g, 0, none⟩ v0).setCell ⟨g, 1, none⟩ v1) :=
  ⟨a, n, c, rfl, ((hO.set_other v0 (fun g' e => by have := hO.lt' g' e; omega)).set_other v1 (fun g' e => by have := (hO.set_other (i := 0) (g := g) v0 (fun g' e => by have := hO.lt' g' e; omega)).lt' g' e; omega)).mono (by omega),
    (hB.setCell (p := ⟨g, 0, none⟩) hg v0).setCell (p := ⟨g, 1, none⟩) hg v1⟩

/-! ### what stands behind a function's entry: boxed parameters, an answer's block -/
theorem ent1 (w : World) (c0 : Array Value) (T0 : TypeId) : Blk (w.alloc (.cells c0 T0)) w.heap.size c0 ∧ Below w.heap.size w (w.alloc (.cells c0 T0)) ∧ w.heap.size + 1 ≤ (w.alloc (.cells c0 T0)).heap.size :=
  ⟨blk_new _ _ _, (Below.refl _ _).alloc (Nat.le_refl _) _, by simp⟩
theorem ent2 (w : World) (c0 c1 : Array Value) (T0 T1 : TypeId) : Blk ((w.alloc (.cells c0 T0)).alloc (.cells c1 T1)) w.heap.size c0 ∧ Blk ((w.alloc (.cells c0 T0)).alloc (.cells c1 T1)) (w.heap.size + 1) c1 ∧
    Below w.heap.size w ((w.alloc (.cells c0 T0)).alloc (.cells c1 T1)) ∧ w.heap.size + 2 ≤ ((w.alloc (.cells c0 T0)).alloc (.cells c1 T1)).heap.size :=
  ⟨(blk_new _ _ _).alloc _, blk_new' _ _ _ (by simp), ((Below.refl _ _).alloc (Nat.le_refl _) _).alloc (by simp) _, by simp⟩
theorem ent3 (w : World) (c0 c1 c2 : Array Value) (T0 T1 T2 : TypeId) : Blk (((w.alloc (.cells c0 T0)).alloc (.cells c1 T1)).alloc (.cells c2 T2)) w.heap.size c0 ∧ Blk (((w.alloc (.cells c0 T0)).alloc (.cells c1 T1)).alloc (.cells c2 T2)) (w.heap.size + 1) c1 ∧
    Blk (((w.alloc (.cells c0 T0)).alloc (.cells c1 T1)).alloc (.cells c2 T2)) (w.heap.size + 1 + 1) c2 ∧
    Below w.heap.size w (((w.alloc (.cells c0 T0)).alloc (.cells c1 T1)).alloc (.cells c2 T2)) ∧ w.heap.size + 3 ≤ (((w.alloc (.cells c0 T0)).alloc (.cells c1 T1)).alloc (.cells c2 T2)).heap.size :=
  ⟨((blk_new _ _ _).alloc _).alloc _, (blk_new' _ _ _ (by simp)).alloc _, blk_new' _ _ _ (by simp), (((Below.refl _ _).alloc (Nat.le_refl _) _).alloc (by simp) _).alloc (by simp; omega) _, by simp⟩
theorem ent4 (w : World) (c0 c1 c2 c3 : Array Value) (T0 T1 T2 T3 : TypeId) : Blk ((((w.alloc (.cells c0 T0)).alloc (.cells c1 T1)).alloc (.cells c2 T2)).alloc (.cells c3 T3)) w.heap.size c0 ∧ Blk ((((w.alloc (.cells c0 T0)).alloc (.cells c1 T1)).alloc (.cells c2 T2)).alloc (.cells c3 T3)) (w.heap.size + 1) c1 ∧
    Blk ((((w.alloc (.cells c0 T0)).alloc (.cells c1 T1)).alloc (.cells c2 T2)).alloc (.cells c3 T3)) (w.heap.size + 1 + 1) c2 ∧ Blk ((((w.alloc (.cells c0 T0)).alloc (.cells c1 T1)).alloc (.cells c2 T2)).alloc (.cells c3 T3)) (w.heap.size + 1 + 1 + 1) c3 ∧
    Below w.heap.size w ((((w.alloc (.cells c0 T0)).alloc (.cells c1 T1)).alloc (.cells c2 T2)).alloc (.cells c3 T3)) ∧ w.heap.size + 4 ≤ ((((w.alloc (.cells c0 T0)).alloc (.cells c1 T1)).alloc (.cells c2 T2)).alloc (.cells c3 T3)).heap.size := by
  obtain ⟨h0, h1, h2, h3, h4⟩ := ent3 w c0 c1 c2 T0 T1 T2
  exact ⟨h0.alloc _, h1.alloc _, h2.alloc _, blk_new' _ _ _ (by simp), h3.alloc (by omega) _, by simp⟩

theorem below_drew {W w' : World} (h : Below W.drew.heap.size W.drew w') : Below W.heap.size W w' := ⟨h.os, h.tape, h.output, h.size, h.block⟩

end Go.Proofs.Ytennilapmcgnbaa
