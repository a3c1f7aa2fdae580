/- PLAIN ARITHMETIC, 7: division bit by bit. No program in sight. -/
import Derived.Test.YtflmdcmlhpifeaaPf
namespace Go.NatP
set_option linter.unusedVariables false

/-- v divided by y, down to bit j: T holds the quotient, r is left -/
def DvIn (v y j r : Nat) (T : List Nat) : Prop := val T = v / 2 ^ j / y * 2 ^ j ∧ r = v / 2 ^ j % y

theorem dvIn_start {v y n : Nat} (hv : v < 2 ^ n) (k : Nat) : DvIn v y n 0 (List.replicate k 0) := by
  unfold DvIn
  rw [Nat.div_eq_of_lt hv, val_replicate_zero]
  simp

theorem div_next (v j : Nat) : v / 2 ^ j = 2 * (v / 2 ^ (j + 1)) + v / 2 ^ j % 2 := by
  have h1 : v / 2 ^ (j + 1) = v / 2 ^ j / 2 := by rw [Nat.pow_succ, Nat.div_div_eq_div_mul]
  rw [h1]; omega

theorem dv_step {u y r b : Nat} (hy : 0 < y) (hr : r = u % y) (hb : b < 2) :
    (2 * r + b < y → (2 * u + b) / y = 2 * (u / y) ∧ (2 * u + b) % y = 2 * r + b) ∧ (y ≤ 2 * r + b → (2 * u + b) / y = 2 * (u / y) + 1 ∧ (2 * u + b) % y = 2 * r + b - y) := by
  have h1 := Nat.div_add_mod u y
  rw [← hr] at h1
  have hry : r < y := by rw [hr]; exact Nat.mod_lt _ hy
  have e : 2 * u + b = y * (2 * (u / y)) + (2 * r + b) := by
    generalize u / y = q at *
    rw [← h1]; grind
  constructor
  · intro h
    rw [e, Nat.mul_add_div hy, Nat.mul_add_mod, Nat.div_eq_of_lt h, Nat.mod_eq_of_lt h]
    exact ⟨rfl, rfl⟩
  · intro h
    have h3 : 2 * r + b - y < y := by omega
    obtain ⟨z, hz⟩ : ∃ z, z = 2 * r + b - y := ⟨_, rfl⟩
    rw [← hz] at h3 ⊢
    have e2 : 2 * u + b = y * (2 * (u / y) + 1) + z := by rw [e, Nat.mul_add, Nat.mul_one]; omega
    rw [e2, Nat.mul_add_div hy, Nat.mul_add_mod, Nat.div_eq_of_lt h3, Nat.mod_eq_of_lt h3]
    exact ⟨rfl, rfl⟩

theorem dvIn_lo {v y j r : Nat} {T : List Nat} (hy : 0 < y) (h : DvIn v y (j + 1) r T) (hlt : 2 * r + v / 2 ^ j % 2 < y) : DvIn v y j (2 * r + v / 2 ^ j % 2) T := by
  have h1 := (dv_step (b := v / 2 ^ j % 2) hy h.2 (Nat.mod_lt _ (by decide))).1 hlt
  rw [← div_next] at h1
  refine ⟨?_, h1.2.symm⟩
  rw [h1.1, h.1, Nat.pow_succ]
  grind

theorem dvIn_hi {v y j r : Nat} {T : List Nat} (hL : Lim T) (hy : 0 < y) (h : DvIn v y (j + 1) r T) (hle : y ≤ 2 * r + v / 2 ^ j % 2) (hl : j / 32 < T.length) :
    T.getD (j / 32) 0 + 2 ^ (j % 32) < 4294967296 ∧ DvIn v y j (2 * r + v / 2 ^ j % 2 - y) (T.set (j / 32) (T.getD (j / 32) 0 + 2 ^ (j % 32))) := by
  have h1 := (dv_step (b := v / 2 ^ j % 2) hy h.2 (Nat.mod_lt _ (by decide))).2 hle
  rw [← div_next] at h1
  have hj : j % 32 < 32 := Nat.mod_lt _ (by decide)
  have e : 2 ^ j = 2 ^ (j % 32) * 4294967296 ^ (j / 32) := by
    rw [pow_32, ← Nat.pow_add]; congr 1; omega
  refine ⟨?_, ?_, h1.2.symm⟩
  · have hc := getD_val hL (j / 32)
    rw [h.1, Nat.pow_succ, e] at hc
    have e3 : ∀ q : Nat, q * (2 ^ (j % 32) * 4294967296 ^ (j / 32) * 2) / 4294967296 ^ (j / 32) = q * (2 ^ (j % 32) * 2) := fun q => by
      rw [show q * (2 ^ (j % 32) * 4294967296 ^ (j / 32) * 2) = q * (2 ^ (j % 32) * 2) * 4294967296 ^ (j / 32) by grind, Nat.mul_div_cancel _ (Nat.pow_pos (by decide))]
    rw [e3] at hc
    generalize v / 2 ^ (j + 1) / y = q at *
    generalize v / (2 ^ (j % 32) * 4294967296 ^ (j / 32) * 2) / y = q' at *
    have hd : 2 ^ (j % 32) * 2 ∣ T.getD (j / 32) 0 := by
      rw [hc]
      refine (Nat.dvd_mod_iff ?_).2 (Nat.dvd_mul_left _ _)
      rw [← Nat.pow_succ]
      exact Nat.pow_dvd_pow 2 (show j % 32 + 1 ≤ 32 by omega)
    have hlt := hL.getD (j / 32)
    obtain ⟨c, hc2⟩ := hd
    rw [hc2] at hlt ⊢
    have hp : 2 ^ (j % 32) * 2 ∣ 4294967296 := by
      rw [← Nat.pow_succ]
      exact Nat.pow_dvd_pow 2 (show j % 32 + 1 ≤ 32 by omega)
    obtain ⟨m, hm⟩ := hp
    rw [hm] at hlt ⊢
    have hpp := Nat.two_pow_pos (j % 32)
    have hcm : c < m := Nat.lt_of_mul_lt_mul_left hlt
    have := Nat.mul_le_mul_left (2 ^ (j % 32) * 2) (show c + 1 ≤ m by omega)
    rw [Nat.mul_add] at this
    omega
  · have h2 := val_set T (j / 32) (T.getD (j / 32) 0 + 2 ^ (j % 32)) hl
    have h3 := h.1
    rw [h1.1]
    rw [Nat.add_mul, ← e] at h2
    have e4 : v / 2 ^ (j + 1) / y * 2 ^ (j + 1) = 2 * (v / 2 ^ (j + 1) / y) * 2 ^ j := by
      generalize v / 2 ^ (j + 1) / y = q
      rw [Nat.pow_succ]; grind
    rw [h3, e4] at h2
    rw [Nat.add_mul, Nat.one_mul]
    omega

theorem dvIn_end {v y r : Nat} {T : List Nat} (h : DvIn v y 0 r T) : val T = v / y ∧ r = v % y := by
  unfold DvIn at h
  simpa using h

end Go.NatP
