/- MEMORY, 3b: where slices do not begin. -/
import Derived.Test.YtnpkmlpmeeidbaaRZh
namespace Go.Proofs.Ytnpkmlpmeeidbaa
set_option linter.unusedVariables false
open Go.ChangeShapes Go.WideShapes Go.ChangeAt Go.RowKit Go.NatP

/-- a slice does not begin in block g -/
def Aw (a : Option Addr) (g : Nat) : Prop := ∀ g', a = some ⟨g', 0, none⟩ → g' ≠ g
theorem Own.awOld {B : Nat} {w : World} {a : Option Addr} {n c : Nat} {l : List Nat} (h : Own B w a n c l) {g : Nat} (hg : w.heap.size ≤ g) : Aw a g := fun g' e => by have := h.lt' g' e; omega
theorem Own.awNew {B : Nat} {w : World} {a : Option Addr} {n c : Nat} {l : List Nat} (h : Own B w a n c l) {g : Nat} (hg : g < B) : Aw a g := fun g' e => by have := h.lt' g' e; omega
/-- a slice begins in a block before N, or in none -/
def Lt (a : Option Addr) (N : Nat) : Prop := ∀ g, a = some ⟨g, 0, none⟩ → g < N
theorem Lt.diff {a b : Option Addr} {N C : Nat} {w : World} {n c : Nat} {l : List Nat} (h : Lt a N) (h' : Own C w b n c l) (hC : N ≤ C) : Diff a b := fun g e e2 => by
  have h1 := h g e
  have h2 := h'.lt' g e2
  omega
end Go.Proofs.Ytnpkmlpmeeidbaa
