/- PLAIN ARITHMETIC, 17: how many rows the extended common divisor has. No program in sight. -/
import Derived.Test.YtokkfppchfmjcaaPq
namespace Go.NatP
set_option linter.unusedVariables false

/-- k rows are there, and no more than C will be -/
def BzR (C k r0 r1 : Nat) : Prop := (r1 ≤ r0 → k + nb r0 + nb r1 ≤ C) ∧ (r0 < r1 → k + nb r0 + nb r1 + 1 ≤ C)
theorem nb_mod {r0 r1 : Nat} (h0 : r1 ≠ 0) (h : r1 ≤ r0) : nb (r0 % r1) + 1 ≤ nb r0 := by
  have hd := Nat.div_add_mod r0 r1
  have hm := Nat.mod_lt r0 (Nat.pos_of_ne_zero h0)
  have hq : 1 ≤ r0 / r1 := (Nat.one_le_div_iff (Nat.pos_of_ne_zero h0)).2 h
  have hq' : r1 ≤ r1 * (r0 / r1) := Nat.le_mul_of_pos_right _ hq
  generalize r1 * (r0 / r1) = p at *
  generalize r0 % r1 = m at *
  have hlt : r0 < 2 ^ nb r0 := nb_le.1 (Nat.le_refl _)
  have hk : nb r0 ≠ 0 := by intro e; rw [e] at hlt; simp at hlt; omega
  obtain ⟨k, hk'⟩ : ∃ k, nb r0 = k + 1 := ⟨nb r0 - 1, by omega⟩
  rw [hk', Nat.pow_succ] at hlt
  have : nb m ≤ k := nb_le.2 (by omega)
  omega
theorem bzR_start (A B : Nat) : BzR (nb A + nb B + 3) 2 A B := ⟨fun _ => by omega, fun _ => by omega⟩
theorem BzR.step {C k r0 r1 : Nat} (h : BzR C k r0 r1) (h0 : r1 ≠ 0) : BzR C (k + 1) r1 (r0 % r1) := by
  have hm := Nat.mod_lt r0 (Nat.pos_of_ne_zero h0)
  refine ⟨fun _ => ?_, fun h2 => by omega⟩
  by_cases h1 : r1 ≤ r0
  · have := nb_mod h0 h1; have := h.1 h1; omega
  · rw [Nat.mod_eq_of_lt (by omega)]; have := h.2 (by omega); omega
theorem BzR.le {C k r0 r1 : Nat} (h : BzR C k r0 r1) : k ≤ C := by
  by_cases h1 : r1 ≤ r0
  · have := h.1 h1; omega
  · have := h.2 (by omega); omega
end Go.NatP
