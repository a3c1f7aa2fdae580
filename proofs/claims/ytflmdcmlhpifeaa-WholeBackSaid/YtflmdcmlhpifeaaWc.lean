/- WALKS, 3: what the statements make and look at: cut, roomy, kept; Of and Uint. -/
import Derived.Test.YtflmdcmlhpifeaaWb
namespace Go.Proofs.Ytflmdcmlhpifeaa
set_option linter.unusedVariables false
open Go.ChangeShapes Go.WideShapes Go.ChangeAt Go.RowKit Go.NatP

/-- The slice itself, cut at k. -/
def RetCut (w : World) (a : Option Addr) (c : Nat) (l : List Nat) (k : Nat) (e : Ending) (w' : World) : Prop :=
  ∃ n, e = .returned (.slice a n c) ∧ w = w' ∧ n ≤ k ∧ Rd w a n c (l.take k)

/-- A copy with five marked limbs of room behind. -/
def RetRoom (w : World) (n : Nat) (l : List Nat) (e : Ending) (w' : World) : Prop :=
  ∃ a c, e = .returned (.slice a n c) ∧ Own w.heap.size w' a (n + 5) c (l ++ List.replicate 5 77) ∧ Below w.heap.size w w'

theorem repl_snoc (l : List Nat) (k : Nat) : l ++ List.replicate k 77 ++ [77] = l ++ List.replicate (k + 1) 77 := by
  rw [List.append_assoc, ← List.replicate_succ']

theorem own_ne {B : Nat} {w wB : World} {a : Option Addr} {n c : Nat} {l : List Nat} (hO : Own B w a n c l) (hb : B ≤ wB.heap.size) : ∀ k, k < B → ¬ (a = some ⟨k, 0, none⟩) := by
  intro j hj e
  have := hO.cases
  rcases this with ⟨h, _⟩ | ⟨g, h, h2⟩
  · rw [h] at e; cases e
  · rw [h] at e; cases e; omega

theorem room_lo (l : List Nat) (r : List Nat) (k : Nat) (h : k < l.length) : (l ++ r).getD k 0 = l.getD k 0 := by
  simp [List.getD_eq_getElem?_getD, List.getElem?_append_left h]
theorem room_hi (l : List Nat) (k : Nat) (h : l.length ≤ k) (h2 : k < l.length + 5) : (l ++ List.replicate 5 77).getD k 0 = 77 := by
  rw [List.getD_eq_getElem?_getD, List.getElem?_append_right h, List.getElem?_replicate, if_pos (by omega)]
  rfl

end Go.Proofs.Ytflmdcmlhpifeaa
