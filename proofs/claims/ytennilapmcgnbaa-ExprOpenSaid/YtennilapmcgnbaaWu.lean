/- WALKS, 21: the reference's greatest common divisor. -/
import Derived.Test.YtennilapmcgnbaaWt
import Derived.Test.YtennilapmcgnbaaPP
namespace Go.Proofs.Ytennilapmcgnbaa
set_option linter.unusedVariables false
open Go.ChangeShapes Go.WideShapes Go.ChangeAt Go.RowKit Go.NatP

/-- the limbs that a slice reads -/
def limbsOf (w : World) : Value → List Nat
  | .slice (some x) n _ => (List.range n).map fun i => match w.cell? (x.add i) with | some (.int _ z) => z.toNat | _ => 0
  | _ => []
def numOf (w : World) (v : Value) : Nat := val (limbsOf w v)

theorem limbsOf_rd {w : World} {a : Option Addr} {n c : Nat} {l : List Nat} (h : Rd w a n c l) : limbsOf w (.slice a n c) = l := by
  cases a with
  | none =>
    have hn : n = 0 := by
      rcases Nat.eq_zero_or_pos n with h0 | h0
      · exact h0
      · obtain ⟨b, o, e, _⟩ := h.get h0; cases e
    have := h.len
    rw [hn, List.length_eq_zero_iff] at this
    rw [this]; rfl
  | some x =>
    apply List.ext_getElem
    · simp [limbsOf, h.len]
    intro i h1 h2
    obtain ⟨b, o, e, hc⟩ := h.get (i := i) (by rw [← h.len]; exact h2)
    cases e
    simp only [limbsOf, List.getElem_map, List.getElem_range]
    rw [show (Addr.add ⟨b, o, none⟩ i) = ⟨b, o + i, none⟩ by simp [Addr.add], hc, ← getD_eq _ _ h2]
    simp
theorem numOf_rd {w : World} {a : Option Addr} {n c v : Nat} (h : Rd w a n c (lm v)) : numOf w (.slice a n c) = v := by
  unfold numOf
  rw [limbsOf_rd h, val_lm]

end Go.Proofs.Ytennilapmcgnbaa
