/- PLAIN ARITHMETIC, 12: the square root. No program in sight. -/
import Derived.Test.YtknpacegaclcgaaPk
namespace Go.NatP
set_option linter.unusedVariables false

def rtF (v : Nat) : Nat → Nat
  | 0 => 0
  | k + 1 => if (k + 1) * (k + 1) ≤ v then k + 1 else rtF v k
/-- the square root, rounded down -/
def rt (v : Nat) : Nat := rtF v v

theorem rtF_le (v k : Nat) : rtF v k * rtF v k ≤ v := by
  induction k with
  | zero => exact Nat.zero_le _
  | succ k ih =>
    unfold rtF; split
    · assumption
    · exact ih
theorem rtF_gt (v k : Nat) (h : v < (k + 1) * (k + 1)) : v < (rtF v k + 1) * (rtF v k + 1) := by
  induction k with
  | zero => exact h
  | succ k ih =>
    unfold rtF; split
    · exact h
    · exact ih (by omega)
theorem rt_le (v : Nat) : rt v * rt v ≤ v := rtF_le v v
theorem rt_gt (v : Nat) : v < (rt v + 1) * (rt v + 1) := rtF_gt v v (by have : (v + 1) * 1 ≤ (v + 1) * (v + 1) := Nat.mul_le_mul_left _ (by omega); omega)
theorem sq_lt {a b : Nat} (h : a * a < b * b) : a < b := by
  rcases Nat.lt_or_ge a b with h1 | h1
  · exact h1
  · have := Nat.mul_le_mul h1 h1; omega
theorem le_rt {v r : Nat} (h : r * r ≤ v) : r ≤ rt v := by
  have := sq_lt (Nat.lt_of_le_of_lt h (rt_gt v)); omega
theorem rt_lt {v r : Nat} (h : v < r * r) : rt v < r := sq_lt (Nat.lt_of_le_of_lt (rt_le v) h)
theorem rt_is {v r : Nat} (h1 : r * r ≤ v) (h2 : v < (r + 1) * (r + 1)) : r = rt v := by
  have := le_rt h1; have := rt_lt h2; omega
theorem rt_pos {v : Nat} (h : v ≠ 0) : 0 < rt v := le_rt (r := 1) (by omega)
theorem rt_self (v : Nat) : rt v ≤ v := by
  have := rt_le v
  rcases Nat.eq_zero_or_pos (rt v) with h | h
  · omega
  · have : rt v * 1 ≤ rt v * rt v := Nat.mul_le_mul_left _ h
    omega

/-- Newton's step does not fall below the root -/
theorem newton_ge {v x : Nat} (hx : 0 < x) : rt v ≤ (v / x + x) / 2 := by
  have h1 := rt_le v
  generalize rt v = r at *
  rcases Nat.lt_or_ge x (2 * r) with h | h
  · have h2 : 2 * r - x ≤ v / x := by
      rw [Nat.le_div_iff_mul_le hx]
      refine Nat.le_trans ?_ h1
      obtain ⟨d, hd⟩ : ∃ d, x + d = 2 * r := ⟨2 * r - x, by omega⟩
      rw [show 2 * r - x = d by omega]
      rcases Nat.lt_or_ge x r with h3 | h3
      · obtain ⟨e, rfl⟩ : ∃ e, r = x + e := ⟨r - x, by omega⟩
        obtain rfl : d = x + 2 * e := by omega
        have : (x + e) * (x + e) = (x + 2 * e) * x + e * e := by grind
        omega
      · obtain ⟨e, rfl⟩ : ∃ e, x = r + e := ⟨x - r, by omega⟩
        obtain ⟨d', rfl⟩ : ∃ d', r = d' + e := ⟨r - e, by omega⟩
        obtain rfl : d = d' := by omega
        have : (d + e) * (d + e) = d * (d + e + e) + e * e := by grind
        omega
    generalize v / x = q at *
    omega
  · generalize v / x = q at *
    omega
/-- where the step does not go down the root is reached -/
theorem newton_end {v x : Nat} (hx : 0 < x) (h : rt v ≤ x) (hy : x ≤ (v / x + x) / 2) : x = rt v := by
  have h1 : x ≤ v / x := by
    generalize v / x = q at *
    omega
  rw [Nat.le_div_iff_mul_le hx] at h1
  have := le_rt h1
  omega
theorem newton_start {v : Nat} : rt v ≤ 2 ^ ((nb v + 1) / 2) := by
  refine Nat.le_of_lt (rt_lt ?_)
  rw [← Nat.pow_add]
  exact Nat.lt_of_lt_of_le (lt_two_nb v) (Nat.pow_le_pow_right (by decide) (by omega))

/-- bit by bit: i bits are left -/
def RtIn (v r i : Nat) : Prop := r * r ≤ v ∧ v < (r + 2 ^ i) * (r + 2 ^ i)
theorem rtIn_start (v : Nat) : RtIn v 0 ((nb v + 1) / 2 + 1) := by
  refine ⟨Nat.zero_le _, ?_⟩
  rw [Nat.zero_add, ← Nat.pow_add]
  exact Nat.lt_of_lt_of_le (lt_two_nb v) (Nat.pow_le_pow_right (by decide) (by omega))
theorem rtIn_yes {v r i : Nat} (h : RtIn v r (i + 1)) (hc : (r + 2 ^ i) * (r + 2 ^ i) ≤ v) : RtIn v (r + 2 ^ i) i := by
  refine ⟨hc, ?_⟩
  have := h.2
  rwa [show r + 2 ^ i + 2 ^ i = r + 2 ^ (i + 1) by rw [Nat.pow_succ]; omega]
theorem rtIn_no {v r i : Nat} (h : RtIn v r (i + 1)) (hc : v < (r + 2 ^ i) * (r + 2 ^ i)) : RtIn v r i := ⟨h.1, hc⟩
theorem rtIn_end {v r : Nat} (h : RtIn v r 0) : r = rt v := rt_is h.1 h.2

theorem val_pow_list {k i m : Nat} (hi : i < k) (hm : m < 32) : val ((List.replicate k 0).set i (2 ^ m)) = 2 ^ (32 * i + m) := by
  have h := val_set (List.replicate k 0) i (2 ^ m) (by simpa using hi)
  rw [val_replicate_zero] at h
  have e : (List.replicate k 0).getD i 0 = 0 := by
    simp [List.getD_eq_getElem?_getD, List.getElem?_replicate]
    split <;> rfl
  rw [e, pow_32, Nat.zero_mul, Nat.add_zero, Nat.zero_add, ← Nat.pow_add] at h
  rw [h, Nat.add_comm]

end Go.NatP
