/- MEMORY, 3b: where slices do not begin. -/
import Derived.Test.YtennilapmcgnbaaZh
namespace Go.Proofs.Ytennilapmcgnbaa
set_option linter.unusedVariables false
open Go.ChangeShapes Go.WideShapes Go.ChangeAt Go.RowKit Go.NatP

/-- a slice does not begin in block g -/
def Aw (a : Option Addr) (g : Nat) : Prop := ∀ g', a = some ⟨g', 0, none⟩ → g' ≠ g
theorem Own.awOld {B : Nat} {w : World} {a : Option Addr} {n c : Nat} {l : List Nat} (h : Own B w a n c l) {g : Nat} (hg : w.heap.size ≤ g) : Aw a g := fun g' e => by have := h.lt' g' e; omega
theorem Own.awNew {B : Nat} {w : World} {a : Option Addr} {n c : Nat} {l : List Nat} (h : Own B w a n c l) {g : Nat} (hg : g < B) : Aw a g := fun g' e => by have := h.lt' g' e; omega
/-- a slice begins in a block before N, or in none -/
def Lt (a : Option Addr) (N : Nat) : Prop := ∀ g, a = some ⟨g, 0, none⟩ → g < N
theorem Own.ltOf {B : Nat} {w : World} {a : Option Addr} {n c : Nat} {l : List Nat} (h : Own B w a n c l) : Lt a w.heap.size := fun g e => (h.lt' g e).2
theorem Lt.aw {a : Option Addr} {N g : Nat} (h : Lt a N) (hg : N ≤ g) : Aw a g := fun g' e => by have := h g' e; omega
theorem Lt.diff {a b : Option Addr} {N C : Nat} {w : World} {n c : Nat} {l : List Nat} (h : Lt a N) (h' : Own C w b n c l) (hC : N ≤ C) : Diff a b := fun g e e2 => by
  have h1 := h g e
  have h2 := h'.lt' g e2
  omega
theorem cell_setAny {w : World} {g g' i j k : Nat} (h : g' ≠ g) (v0 v1 : Value) : ((w.setCell ⟨g, i, none⟩ v0).setCell ⟨g, j, none⟩ v1).cell? ⟨g', k, none⟩ = w.cell? ⟨g', k, none⟩ :=
  World.cell?_of_block ((heap_setCell_other _ _ g' v1 h).trans (heap_setCell_other _ _ g' v0 h))
end Go.Proofs.Ytennilapmcgnbaa
