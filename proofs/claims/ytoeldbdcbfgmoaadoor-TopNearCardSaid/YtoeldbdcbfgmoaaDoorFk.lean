/- PLAIN LAW: a float's value: what near.Of halves and shifts is the value in lowest terms. No program in sight. -/
import Derived.Test.YtoeldbdcbfgmoaaDoorPP
import Derived.Test.YtoeldbdcbfgmoaaDoorFe
namespace Go.NatP
open Go.FloatP
set_option linter.unusedVariables false

def E74 : Nat := 1074
/-- the value of a float of a sign and a rung -/
def flV (s : Bool) (r : Nat) : Rat := mkRat (zv s (fg r)) (2 ^ E74)
theorem two_ne (k : Nat) : (2 : Nat) ^ k ≠ 0 := Nat.ne_of_gt (Nat.pow_pos (by decide))
theorem odd_copr {n : Nat} (h : n % 2 = 1) (k : Nat) : Nat.gcd n (2 ^ k) = 1 := by
  refine Nat.Coprime.pow_right k ?_
  show Nat.gcd n 2 = 1
  rw [Nat.gcd_comm, Nat.gcd_rec, h]
  rfl
/-- the halved number: how often it was halved -/
structure Halved (r num : Nat) (e : Int) : Prop where
  pos : num ≠ 0
  val : ∃ j : Nat, num * 2 ^ j = fK r ∧ e = fX r - 53 + j
theorem Halved.start {r : Nat} (h0 : r ≠ 0) : Halved r (fK r) (fX r - 53) := ⟨by have := (fK_bd h0).1; omega, 0, by simp, by omega⟩
theorem Halved.step {r num : Nat} {e : Int} (h : Halved r num e) (h2 : num % 2 = 0) : Halved r (num / 2) (e + 1) := by
  obtain ⟨h0, j, h1, h3⟩ := h
  refine ⟨by omega, j + 1, ?_, by omega⟩
  rw [← h1, Nat.pow_succ, Nat.mul_comm (2 ^ j) 2, ← Nat.mul_assoc]
  congr 1
  omega
/-- the halved number's value: with the exponent below 0 -/
theorem Halved.below {r num D : Nat} {e : Int} (h0 : r ≠ 0) (h : Halved r num e) (he : e = -(D : Int)) : num * 2 ^ E74 = fg r * 2 ^ D := by
  obtain ⟨_, j, h1, h3⟩ := h
  have hk := fK_fg h0
  obtain ⟨E, hE'⟩ : ∃ E : Nat, E = E74 := ⟨_, rfl⟩
  have hE : E = 1074 := hE'
  rw [← hE']
  clear hE'
  have key : num * 2 ^ E * 2 ^ j = fg r * 2 ^ D * 2 ^ j := by
    rw [Nat.mul_right_comm, h1]
    rcases hk with ⟨hx, hk⟩ | ⟨hx, hk⟩
    · rw [hk, Nat.mul_assoc, ← Nat.pow_add, Nat.mul_assoc, ← Nat.pow_add]
      congr 2
      omega
    · rw [hk, Nat.mul_assoc, Nat.mul_assoc, ← Nat.pow_add, ← Nat.pow_add]
      congr 2
      omega
  exact Nat.eq_of_mul_eq_mul_right (Nat.pow_pos (by decide)) key
theorem Halved.above {r num D : Nat} {e : Int} (h0 : r ≠ 0) (h : Halved r num e) (he : e = (D : Int)) : num * 2 ^ D * 2 ^ E74 = fg r := by
  obtain ⟨_, j, h1, h3⟩ := h
  have hk := fK_fg h0
  obtain ⟨E, hE'⟩ : ∃ E : Nat, E = E74 := ⟨_, rfl⟩
  have hE : E = 1074 := hE'
  rw [← hE']
  clear hE'
  have key : num * 2 ^ D * 2 ^ E * 2 ^ j = fg r * 2 ^ j := by
    rw [show num * 2 ^ D * 2 ^ E * 2 ^ j = num * 2 ^ j * (2 ^ D * 2 ^ E) by simp only [Nat.mul_assoc, Nat.mul_left_comm, Nat.mul_comm], h1]
    rcases hk with ⟨hx, hk⟩ | ⟨hx, hk⟩
    · rw [hk, Nat.mul_assoc, ← Nat.pow_add, ← Nat.pow_add]
      congr 2
      omega
    · rw [hk, Nat.mul_assoc, ← Nat.pow_add, ← Nat.pow_add]
      congr 2
      omega
  exact Nat.eq_of_mul_eq_mul_right (Nat.pow_pos (by decide)) key
theorem flV_below {s : Bool} {r num D : Nat} (h : num * 2 ^ E74 = fg r * 2 ^ D) (hn : num % 2 = 1 ∨ D = 0) : (flV s r).num = zv s num ∧ (flV s r).den = 2 ^ D := by
  have hq : flV s r = mkRat (zv s num) (2 ^ D) := by
    unfold flV
    rw [Rat.mkRat_eq_iff (two_ne _) (two_ne _)]
    have hz : ∀ a b : Nat, zv s (a * b) = zv s a * (b : Int) := fun a b => by unfold zv; split <;> simp [Int.neg_mul]
    rw [← hz, ← hz, h]
  have hg : Nat.gcd num (2 ^ D) = 1 := by
    rcases hn with hn | hn
    · exact odd_copr hn D
    · subst hn; simp
  have h1 := num_low s num (two_ne D)
  have h2 := den_low s num (two_ne D)
  rw [hg, Nat.div_one] at h1 h2
  rw [hq]
  exact ⟨h1, h2⟩
theorem flV_above {s : Bool} {r num D : Nat} (h : num * 2 ^ D * 2 ^ E74 = fg r) : (flV s r).num = zv s (num * 2 ^ D) ∧ (flV s r).den = 1 := by
  have := flV_below (s := s) (r := r) (num := num * 2 ^ D) (D := 0) (by rw [h]; simp) (.inr rfl)
  simpa using this
theorem flV_zero (s : Bool) : (flV s 0).num = 0 ∧ (flV s 0).den = 1 := by
  have h := flV_below (s := s) (r := 0) (num := 0) (D := 0) (by rw [fg_low (by decide)]; simp) (.inr rfl)
  exact ⟨by rw [h.1]; cases s <;> rfl, h.2⟩
end Go.NatP
