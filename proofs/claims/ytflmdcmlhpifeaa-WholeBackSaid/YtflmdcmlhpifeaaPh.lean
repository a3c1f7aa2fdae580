/- PLAIN ARITHMETIC, 8: greatest common divisors. No program in sight. -/
import Derived.Test.YtflmdcmlhpifeaaPg
namespace Go.NatP
set_option linter.unusedVariables false

theorem gcd_half_left {x y : Nat} (hx : x % 2 = 0) (hy : y % 2 = 1) : Nat.gcd (x / 2) y = Nat.gcd x y := by
  have hc : Nat.Coprime 2 y := by show Nat.gcd 2 y = 1; rw [Nat.gcd_rec, hy]; rfl
  have e : x = 2 * (x / 2) := by omega
  have h := Nat.Coprime.gcd_mul_left_cancel (x / 2) hc
  rw [← e] at h
  exact h.symm
theorem gcd_half_right {x y : Nat} (hx : x % 2 = 1) (hy : y % 2 = 0) : Nat.gcd x (y / 2) = Nat.gcd x y := by
  rw [Nat.gcd_comm, Nat.gcd_comm x y]; exact gcd_half_left hy hx
theorem gcd_half_both {x y : Nat} (hx : x % 2 = 0) (hy : y % 2 = 0) : Nat.gcd x y = 2 * Nat.gcd (x / 2) (y / 2) := by
  have e : x = 2 * (x / 2) := by omega
  have e2 : y = 2 * (y / 2) := by omega
  have h := Nat.gcd_mul_left 2 (x / 2) (y / 2)
  rw [← e, ← e2] at h
  exact h

/-- t twos taken out: what is left has the rest of the divisor -/
def GcIn (G t x y : Nat) : Prop := 0 < x ∧ G = 2 ^ t * Nat.gcd x y
theorem gcIn_start {x y : Nat} (hx : 0 < x) : GcIn (Nat.gcd x y) 0 x y := ⟨hx, by simp⟩
theorem gcIn_both {G t x y : Nat} (h : GcIn G t x y) (hx : x % 2 = 0) (hy : y % 2 = 0) : GcIn G (t + 1) (x / 2) (y / 2) := by
  refine ⟨by have := h.1; omega, ?_⟩
  rw [h.2, gcd_half_both hx hy, Nat.pow_succ, Nat.mul_assoc]
theorem gcIn_left {G t x y : Nat} (h : GcIn G t x y) (hx : x % 2 = 0) (hy : y % 2 = 1) : GcIn G t (x / 2) y := by
  refine ⟨by have := h.1; omega, ?_⟩
  rw [h.2, gcd_half_left hx hy]
theorem gcIn_right {G t x y : Nat} (h : GcIn G t x y) (hx : x % 2 = 1) (hy : y % 2 = 0) : GcIn G t x (y / 2) := by
  refine ⟨h.1, ?_⟩
  rw [h.2, gcd_half_right hx hy]
theorem gcIn_sub {G t x y : Nat} (h : GcIn G t x y) (hxy : x ≤ y) : GcIn G t x (y - x) := by
  refine ⟨h.1, ?_⟩
  rw [h.2, Nat.gcd_sub_self_right hxy]
theorem gcIn_swap {G t x y : Nat} (h : GcIn G t x y) (hy : 0 < y) : GcIn G t y x := ⟨hy, by rw [h.2, Nat.gcd_comm]⟩
theorem gcIn_end {G t x : Nat} (h : GcIn G t x 0) : G = 2 ^ t * x := by rw [h.2, Nat.gcd_zero_right]
theorem gcIn_t {G t x y : Nat} (h : GcIn G t x y) : t < nb G := by
  rw [nb_gt, h.2]
  exact Nat.le_mul_of_pos_right _ (Nat.gcd_pos_of_pos_left _ h.1)

end Go.NatP
