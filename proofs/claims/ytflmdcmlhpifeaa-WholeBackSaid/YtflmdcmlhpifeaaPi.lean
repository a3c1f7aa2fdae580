/- PLAIN ARITHMETIC, 9: one digit of a long division. No program in sight. -/
import Derived.Test.YtflmdcmlhpifeaaPh
namespace Go.NatP
set_option linter.unusedVariables false

/-- U and V seen from above: V's two highest limbs vt v2, U's three highest ones top (two) u2; P the weight of what is below -/
structure KD (U V P vt v2 top u2 : Nat) : Prop where
  p : 0 < P
  v1 : (vt * 4294967296 + v2) * P ≤ V
  v2' : V < (vt * 4294967296 + v2 + 1) * P
  u1 : (top * 4294967296 + u2) * P ≤ U
  u2' : U < (top * 4294967296 + u2 + 1) * P
  hi : 2147483648 ≤ vt
  vt' : vt < 4294967296
  v2l : v2 < 4294967296
  u2l : u2 < 4294967296
  lt : U < V * 4294967296

section
variable {U V P vt v2 top u2 g r : Nat}
theorem KD.vpos (h : KD U V P vt v2 top u2) : 0 < V := by
  have h1 := h.v1
  have h2 := h.hi
  have h3 : 1 * P ≤ (vt * 4294967296 + v2) * P := Nat.mul_le_mul_right _ (by omega)
  have h4 := h.p
  omega
theorem KD.le_of (h : KD U V P vt v2 top u2) (hg : g ≤ U / V) : g * (vt * 4294967296 + v2) ≤ top * 4294967296 + u2 := by
  have h1 : g * V ≤ U := by
    have := (Nat.le_div_iff_mul_le h.vpos).1 hg
    exact this
  have h2 : g * ((vt * 4294967296 + v2) * P) ≤ g * V := Nat.mul_le_mul_left _ h.v1
  have h3 := h.u2'
  have h4 : g * (vt * 4294967296 + v2) * P < (top * 4294967296 + u2 + 1) * P := by rw [Nat.mul_assoc]; omega
  have := Nat.lt_of_mul_lt_mul_right h4
  omega
theorem KD.start (h : KD U V P vt v2 top u2) : U / V ≤ top / vt := by
  have h1 := h.le_of (Nat.le_refl _)
  have hv := h.hi
  rw [Nat.le_div_iff_mul_le (by omega)]
  have h2 := h.u2l
  generalize U / V = q at *
  have h3 : q * (vt * 4294967296 + v2) = q * vt * 4294967296 + q * v2 := by grind
  generalize q * v2 = x at *
  generalize q * vt = y at *
  omega
theorem KD.q_lt (h : KD U V P vt v2 top u2) : U / V < 4294967296 := by
  rw [Nat.div_lt_iff_lt_mul h.vpos, Nat.mul_comm]; exact h.lt
theorem KD.top_lt (h : KD U V P vt v2 top u2) : top < 4294967296 * (vt + 1) := by
  have h1 := h.u1
  have h2 := h.v2'
  have h3 := h.lt
  have h4 := h.v2l
  have h5 : (vt * 4294967296 + v2 + 1) * P ≤ ((vt + 1) * 4294967296) * P := Nat.mul_le_mul_right _ (by omega)
  have h6 : top * 4294967296 * P ≤ (top * 4294967296 + u2) * P := Nat.mul_le_mul_right _ (by omega)
  have h7 : top * 4294967296 * P < (4294967296 * (vt + 1)) * 4294967296 * P := by
    have e : (4294967296 * (vt + 1)) * 4294967296 * P = ((vt + 1) * 4294967296) * P * 4294967296 := by grind
    rw [e]
    refine Nat.lt_of_le_of_lt h6 (Nat.lt_of_le_of_lt h1 (Nat.lt_of_lt_of_le h3 ?_))
    exact Nat.mul_le_mul_right _ (Nat.le_of_lt (Nat.lt_of_lt_of_le h2 h5))
  have h8 : top * 4294967296 < (4294967296 * (vt + 1)) * 4294967296 := Nat.lt_of_mul_lt_mul_right h7
  clear h1 h2 h3 h4 h5 h6 h7
  omega
theorem KD.dec2 (h : KD U V P vt v2 top u2) (ht : g * vt + r = top) (hc : r * 4294967296 + u2 < g * v2) : U / V < g := by
  rcases Nat.lt_or_ge (U / V) g with h1 | h1
  · exact h1
  have h2 := h.le_of h1
  have h3 : g * (vt * 4294967296 + v2) = g * vt * 4294967296 + g * v2 := by grind
  generalize g * v2 = x at *
  generalize g * vt = y at *
  omega
theorem KD.below (h : KD U V P vt v2 top u2) (ht : g * vt + r = top) (hr : 4294967296 ≤ r) : g < 4294967296 := by
  have h1 := h.top_lt
  rcases Nat.lt_or_ge g 4294967296 with h2 | h2
  · exact h2
  have h3 : 4294967296 * vt ≤ g * vt := Nat.mul_le_mul_right _ h2
  rw [Nat.mul_add] at h1
  omega
theorem KD.endA (h : KD U V P vt v2 top u2) (ht : g * vt + r = top) (hr : 4294967296 ≤ r) : g * V < U + V := by
  have hg := h.below ht hr
  have h1 : g * V ≤ g * ((vt * 4294967296 + v2 + 1) * P) := Nat.mul_le_mul_left _ (Nat.le_of_lt h.v2')
  have h2 := h.v2l
  have h3 : (vt * 4294967296 + v2 + 1) * P ≤ ((vt + 1) * 4294967296) * P := Nat.mul_le_mul_right _ (by omega)
  have h4 : g * ((vt * 4294967296 + v2 + 1) * P) ≤ g * (((vt + 1) * 4294967296) * P) := Nat.mul_le_mul_left _ h3
  have h5 : g * (((vt + 1) * 4294967296) * P) ≤ top * 4294967296 * P := by
    have e : g * (((vt + 1) * 4294967296) * P) = (g * vt + g) * 4294967296 * P := by grind
    rw [e]
    exact Nat.mul_le_mul_right _ (Nat.mul_le_mul_right _ (by omega))
  have h6 : top * 4294967296 * P ≤ (top * 4294967296 + u2) * P := Nat.mul_le_mul_right _ (by omega)
  have h7 := h.u1
  have h8 := h.vpos
  omega
theorem KD.endB (h : KD U V P vt v2 top u2) (ht : g * vt + r = top) (hg : g < 4294967296) (hc : g * v2 ≤ r * 4294967296 + u2) : g * V < U + V := by
  have h3 : g * (vt * 4294967296 + v2) = g * vt * 4294967296 + g * v2 := by grind
  have h4 : g * (vt * 4294967296 + v2) ≤ top * 4294967296 + u2 := by
    rw [h3]
    generalize g * v2 = x at *
    generalize g * vt = y at *
    omega
  have h1 : g * V ≤ g * ((vt * 4294967296 + v2 + 1) * P) := Nat.mul_le_mul_left _ (Nat.le_of_lt h.v2')
  have e : g * ((vt * 4294967296 + v2 + 1) * P) = g * (vt * 4294967296 + v2) * P + g * P := by grind
  have h5 : g * (vt * 4294967296 + v2) * P ≤ (top * 4294967296 + u2) * P := Nat.mul_le_mul_right _ h4
  have h6 := h.u1
  have h7 : g * P < 4294967296 * P := Nat.mul_lt_mul_of_pos_right hg h.p
  have h8 : 4294967296 * P ≤ (vt * 4294967296 + v2) * P := Nat.mul_le_mul_right _ (by have := h.hi; omega)
  have h9 := h.v1
  omega
/-- a guess that is at most one too great -/
theorem guess_is (hV : 0 < V) (h1 : U / V ≤ g) (h2 : g * V < U + V) : g = U / V ∨ (g = U / V + 1 ∧ U < g * V) := by
  have h3 : g ≤ U / V + 1 := by
    rcases Nat.lt_or_ge (U / V + 1) g with h | h
    · have h4 : (U / V + 2) * V ≤ g * V := Nat.mul_le_mul_right _ h
      have h5 := Nat.lt_mul_div_succ U hV
      rw [Nat.add_mul] at h4
      rw [Nat.mul_add, Nat.mul_comm] at h5
      omega
    · exact h
  rcases Nat.lt_or_ge (U / V) g with h | h
  · refine .inr ⟨by omega, ?_⟩
    have := Nat.lt_mul_div_succ U hV
    rw [Nat.mul_comm] at this
    rw [show g = U / V + 1 by omega]; exact this
  · exact .inl (by omega)
end

/-- g times the first k limbs of lb taken off at place j: what is borrowed is c -/
def SubIn (S0 S lb : List Nat) (g j k c : Nat) : Prop :=
  val (S.take (j + k)) + g * val (lb.take k) * 4294967296 ^ j = val (S0.take (j + k)) + c * 4294967296 ^ (j + k) ∧ ∀ t, j + k ≤ t → S.getD t 0 = S0.getD t 0
theorem subIn_start (S0 lb : List Nat) (g j : Nat) : SubIn S0 S0 lb g j 0 0 := ⟨by simp [val], fun _ _ => rfl⟩
/-- one step: what is taken, what is left in place, what is borrowed on -/
theorem subIn_step {S0 S lb : List Nat} {g j k c q t : Nat} (h : SubIn S0 S lb g j k c) (hl : j + k < S.length)
    (ht : q + (c + g * lb.getD k 0) = S0.getD (j + k) 0 + t * 4294967296) : SubIn S0 (S.set (j + k) q) lb g j (k + 1) t := by
  refine ⟨?_, fun t' ht' => ?_⟩
  · have h1 := h.1
    rw [← Nat.add_assoc, val_set_take S (j + k) q hl, val_take_succ', val_take_succ', Nat.pow_succ]
    generalize lb.getD k 0 = y at *
    generalize S0.getD (j + k) 0 = z at *
    rw [Nat.pow_add] at h1 ⊢
    generalize val (lb.take k) = X at *
    generalize 4294967296 ^ j = PJ at *
    generalize 4294967296 ^ k = PK at *
    have h2 : (q + (c + g * y)) * (PJ * PK) = (z + t * 4294967296) * (PJ * PK) := by rw [ht]
    grind
  · rw [NatP.getD_set_ne _ _ _ _ (by omega)]; exact h.2 t' (by omega)

/-- the first k limbs of lb put back at place j -/
def AddIn (S0 S lb : List Nat) (j k c : Nat) : Prop :=
  val (S.take (j + k)) + c * 4294967296 ^ (j + k) = val (S0.take (j + k)) + val (lb.take k) * 4294967296 ^ j ∧ ∀ t, j + k ≤ t → S.getD t 0 = S0.getD t 0
theorem addIn_start (S0 lb : List Nat) (j : Nat) : AddIn S0 S0 lb j 0 0 := ⟨by simp [val], fun _ _ => rfl⟩
theorem addIn_step {S0 S lb : List Nat} {j k c q t : Nat} (h : AddIn S0 S lb j k c) (hl : j + k < S.length)
    (ht : q + t * 4294967296 = c + (S0.getD (j + k) 0 + lb.getD k 0)) : AddIn S0 (S.set (j + k) q) lb j (k + 1) t := by
  refine ⟨?_, fun t' ht' => ?_⟩
  · have h1 := h.1
    rw [← Nat.add_assoc, val_set_take S (j + k) q hl, val_take_succ', val_take_succ', Nat.pow_succ]
    generalize lb.getD k 0 = y at *
    generalize S0.getD (j + k) 0 = z at *
    rw [Nat.pow_add] at h1 ⊢
    generalize val (lb.take k) = X at *
    generalize 4294967296 ^ j = PJ at *
    generalize 4294967296 ^ k = PK at *
    have h2 : (q + t * 4294967296) * (PJ * PK) = (c + (z + y)) * (PJ * PK) := by rw [ht]
    grind
  · rw [NatP.getD_set_ne _ _ _ _ (by omega)]; exact h.2 t' (by omega)

end Go.NatP
