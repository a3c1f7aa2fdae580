/- PLAIN LAW: the order of floats, and of the fractions that they are. No program in sight. -/
import Derived.Test.YtdjicmpanfnajaaDoorFk
namespace Go.NatP
open Go.FloatP
set_option linter.unusedVariables false

theorem cmpZ_ic (a b : Int) : cmpZ a b = if ic a b = .lt then -1 else if ic a b = .eq then 0 else 1 := by
  unfold cmpZ ic
  by_cases h : a < b
  · simp [h]
  · by_cases h2 : a = b
    · subst h2; simp
    · simp [h, h2]; omega
theorem zv_sgd (s : Bool) (n : Nat) : zv s n = sgd s n := by cases s <;> simp [zv, sgd]
/-- two floats' values stand to each other as their rungs do -/
theorem cmp_fl (s t : Bool) (x y : Nat) : cmpQ (flV s x) (flV t y) = cmpZ (sgd s x) (sgd t y) := by
  have h2 : (2 : Nat) ^ E74 ≠ 0 := two_ne E74
  unfold flV
  rw [← cmpQ_mk h2 h2, zv_sgd, zv_sgd, cmpZ_ic, cmpZ_ic (sgd s x)]
  have e : ∀ K : Nat, ((2 ^ K : Nat) : Int) = (2 : Int) ^ K := fun K => by simp
  rw [e, ic_scale, ic_fg]
end Go.NatP
