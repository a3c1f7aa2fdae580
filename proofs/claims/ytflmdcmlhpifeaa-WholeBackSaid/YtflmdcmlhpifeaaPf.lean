/- PLAIN ARITHMETIC, 6: powers. No program in sight. -/
import Derived.Test.YtflmdcmlhpifeaaPe
namespace Go.NatP
set_option linter.unusedVariables false

def pwOk (v : Nat) (n : Int) : Prop := 0 ≤ n ∧ n ≤ 1024
/-- the power, where there is one -/
def pwN (v : Nat) (n : Int) : Nat := if 0 ≤ n ∧ n ≤ 1024 ∧ nb (v ^ n.toNat) ≤ 262144 then v ^ n.toNat else 0
def pwE (v : Nat) (n : Int) : Int := if 0 ≤ n ∧ n ≤ 1024 then (if nb (v ^ n.toNat) ≤ 262144 then 0 else 12) else 3

theorem nb_mul_le (a b : Nat) : nb (a * b) ≤ nb a + nb b := by
  rw [nb_le, Nat.pow_add]
  rcases Nat.eq_zero_or_pos a with rfl | ha
  · rw [Nat.zero_mul]; exact Nat.mul_pos (Nat.two_pow_pos _) (Nat.two_pow_pos _)
  · exact Nat.mul_lt_mul'' (lt_two_nb a) (lt_two_nb b)
theorem nb_mul_ge {a b : Nat} (ha : a ≠ 0) (hb : b ≠ 0) : nb a + nb b ≤ nb (a * b) + 1 := by
  have h1 := two_nb_le ha
  have h2 := two_nb_le hb
  have h3 := nb_pos ha
  have h4 := nb_pos hb
  have h5 : 2 ^ (nb a - 1 + (nb b - 1)) ≤ a * b := by rw [Nat.pow_add]; exact Nat.mul_le_mul h1 h2
  have := nb_gt.2 h5
  omega
theorem nb_one : nb 1 = 1 := nb_eq (k := 0) (by decide) (by decide)
theorem pow_le_two {v k : Nat} (e : Nat) (h : nb v ≤ k) : v ^ e ≤ 2 ^ (k * e) := by
  rw [Nat.pow_mul]; exact Nat.pow_le_pow_left (Nat.le_of_lt (nb_le.1 h)) _
theorem two_le_pow {v : Nat} (e : Nat) (h : v ≠ 0) : 2 ^ ((nb v - 1) * e) ≤ v ^ e := by
  rw [Nat.pow_mul]; exact Nat.pow_le_pow_left (two_nb_le h) _

theorem pow_bigK {v n K : Nat} (h1 : 1 < nb v) (h2 : K ≤ (nb v - 1) * n) : K < nb (v ^ n) := by
  have hv : v ≠ 0 := by rintro rfl; simp [nb_zero] at h1
  exact nb_gt.2 (Nat.le_trans (Nat.pow_le_pow_right (by decide) h2) (two_le_pow n hv))
theorem pow_big {v n : Nat} (h1 : 1 < nb v) (h2 : 262144 ≤ (nb v - 1) * n) : 262144 < nb (v ^ n) := pow_bigK h1 h2

theorem pow_szK {v n e K B : Nat} (h : nb v ≤ 1 ∨ (nb v - 1) * n < B) (hn : n ≤ 1024) (he : e ≤ n) (hK : B + 1024 ≤ 32 * K) : Sz (v ^ e) K := by
  have key : v ^ e < 2 ^ (32 * K) := by
    rcases Nat.eq_zero_or_pos v with rfl | hv
    · refine Nat.lt_of_le_of_lt (pow_le_two (k := 0) e (by simp [nb_zero])) ?_
      exact Nat.pow_lt_pow_right (by decide) (by omega)
    have hp := nb_pos (n := v) (by omega)
    rcases h with h | h
    · have : v = 1 := by
        have h1 := lt_two_nb v
        rw [show nb v = 1 by omega] at h1; omega
      subst this
      rw [Nat.one_pow]; exact Nat.one_lt_two_pow (by omega)
    · refine Nat.lt_of_le_of_lt (pow_le_two e (Nat.le_refl _)) (Nat.pow_lt_pow_right (by decide) ?_)
      have h1 : nb v * e ≤ nb v * n := Nat.mul_le_mul_left _ he
      have h2 : nb v * n = (nb v - 1) * n + n := by
        rw [← Nat.succ_mul, Nat.succ_eq_add_one, show nb v - 1 + 1 = nb v by omega]
      omega
  unfold Sz
  rw [pow_32]
  exact key
theorem pow_sz {v n e : Nat} (h : nb v ≤ 1 ∨ (nb v - 1) * n < 262144) (hn : n ≤ 1024) (he : e ≤ n) : Sz (v ^ e) 8224 := pow_szK h hn he (by decide)

theorem pow_half_big {v h : Nat} (hv : 2 ≤ v) (hb : 131073 < nb (v ^ h)) {n : Nat} (hn : h + h ≤ n) : 262144 < nb (v ^ n) := by
  have h0 : v ^ h ≠ 0 := Nat.ne_of_gt (Nat.pow_pos (by omega))
  have h1 := nb_mul_ge h0 h0
  rw [← Nat.pow_add] at h1
  have h2 : nb (v ^ (h + h)) ≤ nb (v ^ n) := nb_mono (Nat.pow_le_pow_right (by omega) hn)
  omega

theorem sz_nb {x k : Nat} (h : nb x ≤ 32 * k) : Sz x k := by
  unfold Sz
  rw [pow_32, ← nb_le]; exact h
theorem pwN_sz (v : Nat) (n : Int) : Sz (pwN v n) 8192 := by
  unfold pwN
  split
  · rename_i h; exact sz_nb h.2.2
  · exact sz_nb (by rw [nb_zero]; omega)

end Go.NatP
