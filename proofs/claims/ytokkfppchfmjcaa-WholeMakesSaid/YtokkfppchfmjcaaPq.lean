/- PLAIN ARITHMETIC, 16: the rows of the extended common divisor. No program in sight. -/
import Derived.Test.YtokkfppchfmjcaaPP

namespace Go.NatP
set_option linter.unusedVariables false
/-- one column of Bezout's rows -/
def bzX (r0 r1 : Nat) (x0 x1 : Int) : Int :=
  if _h : r1 = 0 then x0 else bzX r1 (r0 % r1) x1 (x0 - (r0 / r1 : Nat) * x1)
termination_by r1
decreasing_by exact Nat.mod_lt _ (Nat.pos_of_ne_zero _h)
theorem bzX_end {r0 r1 : Nat} {x0 x1 : Int} (h : r1 = 0) : bzX r0 r1 x0 x1 = x0 := by unfold bzX; rw [dif_pos h]
theorem bzX_step {r0 r1 : Nat} {x0 x1 : Int} (h : r1 ≠ 0) : bzX r0 r1 x0 x1 = bzX r1 (r0 % r1) x1 (x0 - (r0 / r1 : Nat) * x1) := by
  rw [bzX, dif_neg h]

/-- two rows' column: the sizes and how they stand to the rests; C: the other number's size -/
structure BzC (C r0 r1 : Nat) (x0 x1 : Int) : Prop where
  sum : x1.natAbs * r0 + x0.natAbs * r1 = C
  alt : (0 ≤ x0 ∧ x1 ≤ 0) ∨ (x0 ≤ 0 ∧ 0 ≤ x1)
  low : x0.natAbs * r0 ≤ C ∨ x0.natAbs ≤ 1
  nxt : x1.natAbs * r1 ≤ C ∨ x1.natAbs ≤ 1
theorem bz_abs {q : Nat} {x0 x1 : Int} (h : (0 ≤ x0 ∧ x1 ≤ 0) ∨ (x0 ≤ 0 ∧ 0 ≤ x1)) : (x0 - (q : Int) * x1).natAbs = x0.natAbs + q * x1.natAbs := by
  have e : ((q : Int) * x1).natAbs = q * x1.natAbs := by rw [Int.natAbs_mul]; simp
  rw [← e]
  rcases h with ⟨h1, h2⟩ | ⟨h1, h2⟩
  · have : (q : Int) * x1 ≤ 0 := Int.mul_nonpos_of_nonneg_of_nonpos (by omega) h2
    generalize (q : Int) * x1 = p at *
    omega
  · have : 0 ≤ (q : Int) * x1 := Int.mul_nonneg (by omega) h2
    generalize (q : Int) * x1 = p at *
    omega
theorem BzC.step {C r0 r1 : Nat} {x0 x1 : Int} (h : BzC C r0 r1 x0 x1) (h0 : r1 ≠ 0) : BzC C r1 (r0 % r1) x1 (x0 - (r0 / r1 : Nat) * x1) := by
  have ha := bz_abs (q := r0 / r1) h.alt
  have hd := Nat.div_add_mod r0 r1
  have hm := Nat.mod_lt r0 (Nat.pos_of_ne_zero h0)
  have hs := h.sum
  have key : (x0 - (r0 / r1 : Nat) * x1).natAbs * r1 + x1.natAbs * (r0 % r1) = C := by
    rw [ha, ← hs]
    generalize r0 / r1 = q at *
    generalize r0 % r1 = m at *
    generalize x0.natAbs = a at *
    generalize x1.natAbs = b at *
    subst hd
    rw [Nat.add_mul, Nat.mul_add]
    rw [show q * b * r1 = b * (r1 * q) by rw [Nat.mul_comm q b, Nat.mul_assoc, Nat.mul_comm q r1]]
    omega
  refine ⟨key, ?_, h.nxt, .inl ?_⟩
  · have e : 0 ≤ ((r0 / r1 : Nat) : Int) := Int.natCast_nonneg _
    clear key ha hd hs
    generalize ((r0 / r1 : Nat) : Int) = q at *
    rcases h.alt with ⟨h1, h2⟩ | ⟨h1, h2⟩
    · exact .inr ⟨h2, by have := Int.mul_nonpos_of_nonneg_of_nonpos e h2; omega⟩
    · exact .inl ⟨h2, by have := Int.mul_nonneg e h2; omega⟩
  · exact Nat.le_trans (Nat.mul_le_mul_left _ (Nat.le_of_lt hm)) (by omega)
/-- how far a column goes -/
theorem BzC.bound {C r0 r1 : Nat} {x0 x1 : Int} (h : BzC C r0 r1 x0 x1) (h0 : r1 ≠ 0) : x0.natAbs ≤ C ∧ (r0 / r1) * x1.natAbs ≤ C ∧ (x0 - (r0 / r1 : Nat) * x1).natAbs ≤ C := by
  have ha := bz_abs (q := r0 / r1) h.alt
  have hs := (h.step h0).sum
  have : (x0 - (r0 / r1 : Nat) * x1).natAbs ≤ (x0 - (r0 / r1 : Nat) * x1).natAbs * r1 := Nat.le_mul_of_pos_right _ (Nat.pos_of_ne_zero h0)
  omega
theorem bzc_x (A B : Nat) : BzC B A B 1 0 := ⟨by simp, .inl ⟨by omega, by omega⟩, .inr (by simp), .inl (by simp)⟩
theorem bzc_y (A B : Nat) : BzC A A B 0 1 := ⟨by simp, .inr ⟨by omega, by omega⟩, .inl (by simp), .inr (by simp)⟩

/-- what the rows end with -/
theorem bz_end (A B : Nat) (n : Nat) : ∀ (r0 r1 : Nat) (x0 x1 y0 y1 : Int), r1 = n → Nat.gcd r0 r1 = Nat.gcd A B → BzC B r0 r1 x0 x1 → BzC A r0 r1 y0 y1 → (A : Int) * x0 + B * y0 = r0 → (A : Int) * x1 + B * y1 = r1 →
    (A : Int) * bzX r0 r1 x0 x1 + B * bzX r0 r1 y0 y1 = (Nat.gcd A B : Nat) ∧ ((bzX r0 r1 x0 x1).natAbs * Nat.gcd A B ≤ B ∨ (bzX r0 r1 x0 x1).natAbs ≤ 1) ∧ ((bzX r0 r1 y0 y1).natAbs * Nat.gcd A B ≤ A ∨ (bzX r0 r1 y0 y1).natAbs ≤ 1) := by
  induction n using Nat.strongRecOn with
  | _ n ih =>
    intro r0 r1 x0 x1 y0 y1 hn hg hx hy e0 e1
    by_cases h0 : r1 = 0
    · rw [bzX_end h0, bzX_end h0]
      have : r0 = Nat.gcd A B := by rw [← hg, h0, Nat.gcd_zero_right]
      rw [← this]
      exact ⟨e0, hx.low, hy.low⟩
    · rw [bzX_step h0, bzX_step h0]
      refine ih (r0 % r1) (by rw [← hn]; exact Nat.mod_lt _ (Nat.pos_of_ne_zero h0)) r1 (r0 % r1) _ _ _ _ rfl ?_ (hx.step h0) (hy.step h0) e1 ?_
      · rw [← hg, Nat.gcd_comm r0 r1, Nat.gcd_rec r1 r0, Nat.gcd_comm]
      · have hd : (r1 : Int) * (r0 / r1 : Nat) + (r0 % r1 : Nat) = r0 := by exact_mod_cast Nat.div_add_mod r0 r1
        rw [Int.mul_sub, Int.mul_sub]
        have a1 : (A : Int) * ((r0 / r1 : Nat) * x1) = (r0 / r1 : Nat) * (A * x1) := by rw [Int.mul_left_comm]
        have a2 : (B : Int) * ((r0 / r1 : Nat) * y1) = (r0 / r1 : Nat) * (B * y1) := by rw [Int.mul_left_comm]
        rw [a1, a2]
        have a3 : ((r0 / r1 : Nat) : Int) * (A * x1) + (r0 / r1 : Nat) * (B * y1) = r1 * (r0 / r1 : Nat) := by rw [← Int.mul_add, e1, Int.mul_comm]
        omega
theorem bz_law (A B : Nat) : (A : Int) * bzX A B 1 0 + B * bzX A B 0 1 = (Nat.gcd A B : Nat) ∧ ((bzX A B 1 0).natAbs * Nat.gcd A B ≤ B ∨ (bzX A B 1 0).natAbs ≤ 1) ∧ ((bzX A B 0 1).natAbs * Nat.gcd A B ≤ A ∨ (bzX A B 0 1).natAbs ≤ 1) :=
  bz_end A B B A B 1 0 0 1 rfl rfl (bzc_x A B) (bzc_y A B) (by omega) (by omega)

/-- the state of the loop: the rests, the columns -/
structure BzIn (A B : Nat) (r0 r1 x0 x1 y0 y1 : Int) : Prop where
  p0 : 0 ≤ r0
  p1 : 0 ≤ r1
  g : Nat.gcd r0.natAbs r1.natAbs = Nat.gcd A B
  x : BzC B r0.natAbs r1.natAbs x0 x1
  y : BzC A r0.natAbs r1.natAbs y0 y1
  b0 : r0.natAbs ≤ max A B
  b1 : r1.natAbs ≤ max A B
  ex : bzX r0.natAbs r1.natAbs x0 x1 = bzX A B 1 0
  ey : bzX r0.natAbs r1.natAbs y0 y1 = bzX A B 0 1
  n1 : x1.natAbs ≤ max B 1
  m1 : y1.natAbs ≤ max A 1
  n0 : x0.natAbs ≤ max B 1
  m0 : y0.natAbs ≤ max A 1
theorem bzIn_start (A B : Nat) : BzIn A B A B 1 0 0 1 :=
  ⟨by omega, by omega, rfl, bzc_x A B, bzc_y A B, by simp; omega, by simp; omega, rfl, rfl, by simp, by simp; omega, by simp; omega, by simp⟩
theorem BzIn.step {A B : Nat} {r0 r1 x0 x1 y0 y1 q : Int} (h : BzIn A B r0 r1 x0 x1 y0 y1) (h0 : r1 ≠ 0) (hq : q = ((r0.natAbs / r1.natAbs : Nat) : Int)) : BzIn A B r1 (r0 - q * r1) x1 (x0 - q * x1) y1 (y0 - q * y1) := by
  have hr : r0 - q * r1 = ((r0.natAbs % r1.natAbs : Nat) : Int) := by
    have hd : (r1.natAbs : Int) * (r0.natAbs / r1.natAbs : Nat) + (r0.natAbs % r1.natAbs : Nat) = r0.natAbs := by exact_mod_cast Nat.div_add_mod r0.natAbs r1.natAbs
    have h1 := h.p0
    have h2 := h.p1
    rw [show (r1.natAbs : Int) = r1 by omega, show ((r0.natAbs : Nat) : Int) = r0 by omega] at hd
    rw [hq, Int.mul_comm]; omega
  have h1 : r1.natAbs ≠ 0 := by omega
  have e : (r0 - q * r1).natAbs = r0.natAbs % r1.natAbs := by omega
  have hlt := Nat.mod_lt r0.natAbs (Nat.pos_of_ne_zero h1)
  have hx := h.x.bound h1
  have hy := h.y.bound h1
  subst hq
  refine ⟨h.p1, by omega, ?_, ?_, ?_, h.b1, ?_, ?_, ?_, ?_, ?_, h.n1, h.m1⟩
  · rw [e, ← h.g, Nat.gcd_comm r0.natAbs, Nat.gcd_rec r1.natAbs r0.natAbs, Nat.gcd_comm]
  · rw [e]; exact h.x.step h1
  · rw [e]; exact h.y.step h1
  · have := h.b1; omega
  · rw [e, ← bzX_step h1, h.ex]
  · rw [e, ← bzX_step h1, h.ey]
  · omega
  · omega
theorem BzIn.less {A B : Nat} {r0 r1 x0 x1 y0 y1 q : Int} (h : BzIn A B r0 r1 x0 x1 y0 y1) (h0 : r1 ≠ 0) (hq : q = ((r0.natAbs / r1.natAbs : Nat) : Int)) : (r0 - q * r1).natAbs < r1.natAbs := by
  have hr : r0 - q * r1 = ((r0.natAbs % r1.natAbs : Nat) : Int) := by
    have hd : (r1.natAbs : Int) * (r0.natAbs / r1.natAbs : Nat) + (r0.natAbs % r1.natAbs : Nat) = r0.natAbs := by exact_mod_cast Nat.div_add_mod r0.natAbs r1.natAbs
    have h1 := h.p0
    have h2 := h.p1
    rw [show (r1.natAbs : Int) = r1 by omega, show ((r0.natAbs : Nat) : Int) = r0 by omega] at hd
    rw [hq, Int.mul_comm]; omega
  have hlt := Nat.mod_lt r0.natAbs (show 0 < r1.natAbs by omega)
  omega
/-- how far the products go -/
theorem BzIn.prods {A B : Nat} {r0 r1 x0 x1 y0 y1 q : Int} (h : BzIn A B r0 r1 x0 x1 y0 y1) (h0 : r1 ≠ 0) (hq : q = ((r0.natAbs / r1.natAbs : Nat) : Int)) :
    q.natAbs ≤ max A B ∧ (q * r1).natAbs ≤ max A B ∧ (q * x1).natAbs ≤ max B 1 ∧ (q * y1).natAbs ≤ max A 1 := by
  have h1 : r1.natAbs ≠ 0 := by omega
  have hx := h.x.bound h1
  have hy := h.y.bound h1
  have hb := h.b0
  have h2 := Nat.div_mul_le_self r0.natAbs r1.natAbs
  have h3 := Nat.div_le_self r0.natAbs r1.natAbs
  rw [Int.natAbs_mul, Int.natAbs_mul, Int.natAbs_mul]
  subst hq
  rw [Int.natAbs_natCast]
  refine ⟨by omega, by omega, by omega, by omega⟩
theorem BzIn.done {A B : Nat} {r0 r1 x0 x1 y0 y1 : Int} (h : BzIn A B r0 r1 x0 x1 y0 y1) (h0 : r1 = 0) : r0.natAbs = Nat.gcd A B ∧ r0 = (Nat.gcd A B : Nat) ∧ x0 = bzX A B 1 0 ∧ y0 = bzX A B 0 1 := by
  subst h0
  have hg := h.g
  have hx := h.ex
  have hy := h.ey
  rw [bzX_end (by rfl)] at hx hy
  have := h.p0
  simp at hg
  exact ⟨hg, by omega, hx, hy⟩
end Go.NatP
