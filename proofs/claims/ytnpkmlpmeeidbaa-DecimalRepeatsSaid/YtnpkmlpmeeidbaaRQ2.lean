/- WALKS OF FRACTIONS, 4: a text cut at its first stroke '/'. -/
import Derived.Test.YtnpkmlpmeeidbaaRMq
import Derived.Lib.Bytealg
import Derived.Lib.IndexLaws
import Derived.Test.YtnpkmlpmeeidbaaRQ1
import Derived.Deep.Cut
namespace Go.Proofs.Ytnpkmlpmeeidbaa
set_option linter.unusedVariables false
set_option linter.unusedSimpArgs false
open Go.ChangeShapes Go.WideShapes Go.ChangeAt Go.RowKit Go.NatP

end Go.Proofs.Ytnpkmlpmeeidbaa
/- WALKS OF FRACTIONS, 5: texts. -/
namespace Go.Proofs.Ytnpkmlpmeeidbaa
set_option linter.unusedVariables false
set_option linter.unusedSimpArgs false
open Go.ChangeShapes Go.WideShapes Go.ChangeAt Go.RowKit Go.NatP

theorem txt_sz {v : Nat} {k : Nat} (h : Sz v k) : (txt (tx v)).size ≤ 10 * k + 2 := by have := txt_size (dl_len_le h.len); omega

end Go.Proofs.Ytnpkmlpmeeidbaa
/- WALKS OF FRACTIONS, 6: a text read. -/
namespace Go.Proofs.Ytnpkmlpmeeidbaa
set_option linter.unusedVariables false
set_option linter.unusedSimpArgs false
open Go.ChangeShapes Go.WideShapes Go.ChangeAt Go.RowKit Go.NatP

end Go.Proofs.Ytnpkmlpmeeidbaa
/- WALKS OF FRACTIONS, 7: sums of lists. -/
namespace Go.Proofs.Ytnpkmlpmeeidbaa
set_option linter.unusedVariables false
set_option linter.unusedSimpArgs false
open Go.ChangeShapes Go.WideShapes Go.ChangeAt Go.RowKit Go.NatP

/-- an element of a list of fractions, and its value -/
structure QI where
  s : Bool
  a : Option Addr
  n : Nat
  c : Nat
  b : Option Addr
  m : Nat
  d : Nat
  q : Rat
def QI.o : QI := ⟨false, none, 0, 0, none, 0, 0, 0⟩
/-- a list of fractions that can be read -/
def RdQs (K : Nat) (W : World) (sa : Option Addr) (n c : Nat) (xs : List QI) : Prop :=
  xs.length = n ∧ n ≤ c ∧ c ≤ maxLen ∧ ∀ i, i < n → RdQ K W (xs.getD i QI.o).s (xs.getD i QI.o).a (xs.getD i QI.o).n (xs.getD i QI.o).c (xs.getD i QI.o).b (xs.getD i QI.o).m (xs.getD i QI.o).d (xs.getD i QI.o).q ∧
    ∃ g o, sa = some ⟨g, o, none⟩ ∧ W.cell? ⟨g, o + i * 3, none⟩ = some (.bool (xs.getD i QI.o).s) ∧ W.cell? ⟨g, o + i * 3 + 1, none⟩ = some (.slice (xs.getD i QI.o).a (xs.getD i QI.o).n (xs.getD i QI.o).c) ∧ W.cell? ⟨g, o + i * 3 + 2, none⟩ = some (.slice (xs.getD i QI.o).b (xs.getD i QI.o).m (xs.getD i QI.o).d)
theorem RdQs.below {K : Nat} {W W' : World} {sa : Option Addr} {n c : Nat} {xs : List QI} (h : RdQs K W sa n c xs) (hB : Below W.heap.size W W') : RdQs K W' sa n c xs := by
  obtain ⟨h1, h2, h3, h4⟩ := h
  refine ⟨h1, h2, h3, fun i hi => ?_⟩
  obtain ⟨h5, g, o, e, c1, c2, c3⟩ := h4 i hi
  have hl := World.block_lt_of_cell? _ _ c1
  exact ⟨h5.below hB, g, o, e, by rw [hB.cell (p := ⟨g, o + i * 3, none⟩) hl]; exact c1, by rw [hB.cell (p := ⟨g, o + i * 3 + 1, none⟩) hl]; exact c2, by rw [hB.cell (p := ⟨g, o + i * 3 + 2, none⟩) hl]; exact c3⟩
/-- the sum of the first k -/
def qsm (xs : List QI) : Nat → Rat
  | 0 => 0
  | k + 1 => qsm xs k + (xs.getD k QI.o).q
theorem qs_zero : QS 0 1 := ⟨(show 0 < 4294967296 ^ 1 by decide), (show 1 < 4294967296 ^ 1 by decide)⟩
theorem RdQs.sum {K : Nat} {W : World} {sa : Option Addr} {n c : Nat} {xs : List QI} (h : RdQs K W sa n c xs) (hK : 1 ≤ K) : ∀ k, k ≤ n → QS (qsm xs k) (k * (K + 1) + 1)
  | 0, _ => qs_zero.mono (by omega)
  | k + 1, hk => ((h.sum hK k (by omega)).add ((h.2.2.2 k (by omega)).1.qs hK)).mono (by rw [Nat.add_mul]; omega)
theorem RdQs.bnd {K : Nat} {W : World} {sa : Option Addr} {n c : Nat} {xs : List QI} (h : RdQs K W sa n c xs) : n ≤ c ∧ c ≤ 9223372036854775807 := ⟨h.2.1, by have := h.2.2.1; unfold maxLen at this; omega⟩
end Go.Proofs.Ytnpkmlpmeeidbaa
