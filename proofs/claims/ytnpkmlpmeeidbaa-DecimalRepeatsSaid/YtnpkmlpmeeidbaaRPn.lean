/- PLAIN ARITHMETIC, 14: digits written and read. No program in sight. -/
import Derived.Test.YtnpkmlpmeeidbaaRPP
namespace Go.NatP
set_option linter.unusedVariables false

theorem okD_append (l m : List Nat) : okD (l ++ m) = (okD l && okD m) := by simp [okD]
theorem paN_ok {l : List Nat} (h : l ≠ []) (ho : okD l = true) : paN l = numD l ∧ paE l = 0 := by
  unfold paN paE
  rw [if_pos ⟨h, ho⟩, if_pos ⟨h, ho⟩]
  exact ⟨rfl, rfl⟩

theorem okD_get {l : List Nat} (h : okD l = true) {c : Nat} (hc : c ∈ l) : 48 ≤ c ∧ c ≤ 57 := by
  simp only [okD, List.all_eq_true, Bool.and_eq_true, decide_eq_true_eq] at h
  exact h c hc
end Go.NatP
