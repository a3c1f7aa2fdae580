/- PLAIN ARITHMETIC, 13: what the statements without the document's answer ask. No program in sight. -/
import Derived.Test.YtknpacegaclcgaaPl
import Derived.Test.YtknpacegaclcgaaPf
import Derived.Test.YtknpacegaclcgaaPd
namespace Go.NatP
set_option linter.unusedVariables false

theorem rt_sq (a : Nat) : rt (a * a) = a := (rt_is (Nat.le_refl _) (by have : (a + 1) * (a + 1) = a * a + (2 * a + 1) := by grind
                                                                       omega)).symm
theorem nb_pow_le (v e : Nat) : nb (v ^ e) ≤ nb v * e + 1 := by
  induction e with
  | zero => rw [Nat.pow_zero, nb_one]; omega
  | succ e ih =>
    rcases Nat.eq_zero_or_pos v with h | h
    · subst h; rw [Nat.zero_pow (by omega), nb_zero]; omega
    · rw [nb_le]
      have h1 := pow_le_two (v := v) (e + 1) (Nat.le_refl (nb v))
      exact Nat.lt_of_le_of_lt h1 (Nat.pow_lt_pow_right (by decide) (by omega))
theorem sz_nb_le {v k : Nat} (h : Sz v k) : nb v ≤ 32 * k := by
  unfold Sz at h; rwa [pow_32, ← nb_le] at h
theorem pw_ok {v k : Nat} (h : Sz v k) (n : Int) (h0 : 0 ≤ n) (h1 : n ≤ 1024) (hB : 32 * k * n.toNat + 1 ≤ 262144) : pwN v n = v ^ n.toNat ∧ pwE v n = 0 := by
  have h2 := nb_pow_le v n.toNat
  have h3 := sz_nb_le h
  have h4 : nb v * n.toNat ≤ 32 * k * n.toNat := Nat.mul_le_mul_right _ h3
  unfold pwN pwE
  rw [if_pos ⟨h0, h1, by omega⟩, if_pos ⟨h0, h1⟩, if_pos (by omega)]
  exact ⟨rfl, rfl⟩
theorem nb_two_pow (k : Nat) : nb (2 ^ k) = k + 1 := nb_eq (Nat.le_refl _) (Nat.pow_lt_pow_right (by decide) (by omega))
theorem pw_two (a n : Nat) (hn : n ≤ 1024) (h : a * n + 1 ≤ 262144) : pwN (2 ^ a) (n : Int) = 2 ^ (a * n) ∧ pwE (2 ^ a) (n : Int) = 0 := by
  have h1 : nb ((2 ^ a) ^ n) = a * n + 1 := by rw [← Nat.pow_mul, nb_two_pow]
  unfold pwN pwE
  rw [Int.toNat_natCast, h1, if_pos ⟨by omega, by omega, h⟩, if_pos ⟨by omega, by omega⟩, if_pos h]
  exact ⟨by rw [Nat.pow_mul], rfl⟩
theorem pw_big (v n : Nat) (hn : n ≤ 1024) (h : 262144 < nb (v ^ n)) : pwN v (n : Int) = 0 ∧ pwE v (n : Int) = 12 := by
  unfold pwN pwE
  rw [Int.toNat_natCast, if_neg (fun h' => by omega), if_pos ⟨by omega, by omega⟩, if_neg (by omega)]
  exact ⟨rfl, rfl⟩
/-- a number near the next power of two: its power is as long as that one's -/
theorem nb_near {v m b q n K : Nat} (h1 : 2 ^ b ≤ v * v) (h2 : 2 ^ m ≤ v) (hn : n = 2 * q + 1) (hK : K ≤ b * q + m) : K < nb (v ^ n) := by
  rw [nb_gt, hn, Nat.pow_add, Nat.pow_one, Nat.pow_mul]
  have h3 : (2 ^ b) ^ q ≤ (v ^ 2) ^ q := Nat.pow_le_pow_left (by rw [Nat.pow_two]; exact h1) q
  rw [← Nat.pow_mul] at h3
  refine Nat.le_trans (Nat.pow_le_pow_right (by decide) hK) ?_
  rw [Nat.pow_add]
  exact Nat.mul_le_mul h3 h2
theorem sh_up (v n : Nat) (h : n ≤ 262144) : shN v (n : Int) = v * 2 ^ n ∧ shE (n : Int) = 0 := by
  unfold shN shE
  rw [if_pos ⟨by omega, by omega⟩, if_pos ⟨by omega, by omega⟩, shv, if_pos (by omega), Int.toNat_natCast]
  exact ⟨rfl, rfl⟩
theorem sh_down (v n : Nat) (h : n ≤ 262144) : shN v (-(n : Int)) = v / 2 ^ n ∧ shE (-(n : Int)) = 0 := by
  unfold shN shE
  rw [if_pos ⟨by omega, by omega⟩, if_pos ⟨by omega, by omega⟩, shv]
  rcases Nat.eq_zero_or_pos n with h0 | h0
  · subst h0; simp
  · rw [if_neg (by omega), Int.neg_neg, Int.toNat_natCast]
    exact ⟨rfl, rfl⟩
theorem div_nb (v : Nat) : v / 2 ^ nb v = 0 := Nat.div_eq_of_lt (lt_two_nb v)
theorem div_nb1 {v : Nat} (h : v ≠ 0) : v / 2 ^ (nb v - 1) = 1 := by
  have h1 := two_nb_le h
  have h2 := lt_two_nb v
  have h3 := nb_pos h
  have h4 : 2 ^ nb v = 2 ^ (nb v - 1) * 2 := by rw [← Nat.pow_succ]; congr 1; omega
  exact Nat.le_antisymm (Nat.le_of_lt_succ (by rw [Nat.div_lt_iff_lt_mul (Nat.pow_pos (by decide))]; omega)) (by rw [Nat.le_div_iff_mul_le (Nat.pow_pos (by decide))]; omega)
theorem gcd_sum (a b : Nat) : Nat.gcd a (a + b) = Nat.gcd a b := Nat.gcd_self_add_right a b

theorem pw_okN {v k : Nat} (h : Sz v k) (n : Nat) (h1 : n ≤ 1024) (hB : 32 * k * n + 1 ≤ 262144) : pwN v (n : Int) = v ^ n ∧ pwE v (n : Int) = 0 := by
  have := pw_ok h (n : Int) (by omega) (by omega) (by rw [Int.toNat_natCast]; exact hB)
  rwa [Int.toNat_natCast] at this
theorem szPow {v k e K : Nat} (h : Sz v k) (hK : k * e + 1 ≤ K) : Sz (v ^ e) K := by
  unfold Sz at *
  refine Nat.lt_of_le_of_lt (Nat.pow_le_pow_left (Nat.le_of_lt h) e) ?_
  rw [← Nat.pow_mul]
  exact Nat.pow_lt_pow_right (by decide) (by omega)
theorem szShl {v k n K : Nat} (h : Sz v k) (hK : k + n / 32 + 1 ≤ K) : Sz (v * 2 ^ n) K := by
  unfold Sz at *
  have h1 : 2 ^ n ≤ 4294967296 ^ (n / 32 + 1) := by rw [pow_32]; exact Nat.pow_le_pow_right (by decide) (by omega)
  have h2 : v * 2 ^ n ≤ v * 4294967296 ^ (n / 32 + 1) := Nat.mul_le_mul_left _ h1
  have h3 : v * 4294967296 ^ (n / 32 + 1) < 4294967296 ^ k * 4294967296 ^ (n / 32 + 1) := Nat.mul_lt_mul_of_pos_right h (Nat.pow_pos (by decide))
  rw [← Nat.pow_add] at h3
  exact Nat.lt_of_le_of_lt h2 (Nat.lt_of_lt_of_le h3 (Nat.pow_le_pow_right (by decide) (by omega)))

theorem pw_twoE (a n E : Nat) (hn : n ≤ 1024) (hE : a * n = E) (h : E + 1 ≤ 262144) {v : Nat} (hv : v = 2 ^ a) : pwN v (n : Int) = 2 ^ E ∧ pwE v (n : Int) = 0 := by
  subst hE hv; exact pw_two a n hn h
theorem pw_two_big (a n : Nat) (hn : n ≤ 1024) (h : 262144 ≤ a * n) {v : Nat} (hv : v = 2 ^ a) : pwN v (n : Int) = 0 ∧ pwE v (n : Int) = 12 := by
  subst hv; refine pw_big _ n hn ?_; rw [← Nat.pow_mul, nb_two_pow]; omega
theorem near_sq {m v : Nat} (hm : 0 < m) (h : v + 1 = 2 ^ m * 2) : 2 ^ (2 * m + 1) ≤ v * v ∧ 2 ^ m ≤ v := by
  have h1 : 2 ≤ 2 ^ m := Nat.le_trans (by decide) (Nat.pow_le_pow_right (n := 2) (by decide) hm)
  rw [Nat.pow_succ, Nat.two_mul, Nat.pow_add]
  generalize 2 ^ m = M at *
  obtain ⟨d, rfl⟩ : ∃ d, M = d + 2 := ⟨M - 2, by omega⟩
  obtain rfl : v = 2 * d + 3 := by omega
  refine ⟨?_, by omega⟩
  have : (2 * d + 3) * (2 * d + 3) = (d + 2) * (d + 2) * 2 + (2 * (d * d) + 4 * d + 1) := by grind
  omega
theorem pw_near {m v n q : Nat} (hm : 0 < m) (h : v + 1 = 2 ^ m * 2) (hn : n ≤ 1024) (hq : n = 2 * q + 1) (hK : 262144 ≤ (2 * m + 1) * q + m) : pwN v (n : Int) = 0 ∧ pwE v (n : Int) = 12 :=
  pw_big v n hn (nb_near (near_sq hm h).1 (near_sq hm h).2 hq hK)
theorem szTwo {E K : Nat} (h : E < 32 * K) : Sz (2 ^ E) K := by
  unfold Sz; rw [pow_32]; exact Nat.pow_lt_pow_right (by decide) h

end Go.NatP
