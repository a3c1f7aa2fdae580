/- PLAIN ARITHMETIC, 15: whole numbers as a sign and a size. No program in sight. -/
import Derived.Test.YtflmdcmlhpifeaaPe
import Derived.Test.YtflmdcmlhpifeaaPb
namespace Go.NatP
set_option linter.unusedVariables false

/-- a sign and a size as a whole number -/
def zv (s : Bool) (v : Nat) : Int := if s then -(v : Int) else v
theorem zv_abs (s : Bool) (v : Nat) : (zv s v).natAbs = v := by unfold zv; split <;> omega
theorem zv_neg (s : Bool) (v : Nat) : decide (zv s v < 0) = (s && decide (0 < v)) := by
  unfold zv
  cases s
  · simp
  · simp
theorem zv_self (z : Int) : zv (decide (z < 0)) z.natAbs = z := by
  unfold zv
  by_cases h : z < 0
  · rw [decide_eq_true h, if_pos rfl]; omega
  · rw [decide_eq_false h]; simp; omega
theorem zv_zero (s : Bool) {v : Nat} (h : v = 0) : zv s v = 0 := by subst h; cases s <;> rfl
theorem lm_len_pos {v : Nat} : 0 < (lm v).length ↔ 0 < v := by
  constructor
  · intro h
    rcases Nat.eq_zero_or_pos v with h1 | h1
    · subst h1; simp [lm_zero] at h
    · exact h1
  · intro h
    exact List.length_pos_iff.2 fun e => by have := lm_eq_nil.1 e; omega
theorem zv_neg_len (s : Bool) (v : Nat) : (s && decide (0 < (lm v).length)) = decide (zv s v < 0) := by
  rw [zv_neg]
  congr 1
  rw [decide_eq_decide]
  exact lm_len_pos

theorem zv_add_same (s : Bool) (a b : Nat) : zv s (a + b) = zv s a + zv s b := by unfold zv; cases s <;> simp <;> omega
theorem zv_sub (s : Bool) {a b : Nat} (h : b ≤ a) : zv s (a - b) = zv s a + zv (!s) b := by unfold zv; cases s <;> simp <;> omega
theorem zv_not (s : Bool) (a : Nat) : zv (!s) a = -zv s a := by unfold zv; cases s <;> simp
theorem zv_mul (s t : Bool) (a b : Nat) : zv (!(s == t)) (a * b) = zv s a * zv t b := by
  unfold zv; cases s <;> cases t <;> simp [Int.mul_neg, Int.neg_mul]

def sgn (z : Int) : Int := if z < 0 then -1 else if z = 0 then 0 else 1
def cmpZ (a b : Int) : Int := if a < b then -1 else if b < a then 1 else 0
theorem sgn_zero {s : Bool} {v : Nat} (h : v = 0) : sgn (zv s v) = 0 := by rw [zv_zero s h]; rfl
theorem sgn_neg {v : Nat} (h : v ≠ 0) : sgn (zv true v) = -1 := by unfold sgn zv; simp; omega
theorem sgn_pos {v : Nat} (h : v ≠ 0) : sgn (zv false v) = 1 := by unfold sgn zv; simp [h]
theorem sgn_range (z : Int) : -1 ≤ sgn z ∧ sgn z ≤ 1 := by unfold sgn; split <;> (try split) <;> omega
theorem cmpZ_range (a b : Int) : -1 ≤ cmpZ a b ∧ cmpZ a b ≤ 1 := by unfold cmpZ; split <;> (try split) <;> omega
theorem sgn_cases (z : Int) : (z < 0 ∧ sgn z = -1) ∨ (z = 0 ∧ sgn z = 0) ∨ (0 < z ∧ sgn z = 1) := by
  unfold sgn; split
  · exact .inl ⟨by assumption, rfl⟩
  · split
    · exact .inr (.inl ⟨by assumption, rfl⟩)
    · exact .inr (.inr ⟨by omega, rfl⟩)
theorem cmpZ_cases (a b : Int) : (a < b ∧ cmpZ a b = -1) ∨ (a = b ∧ cmpZ a b = 0) ∨ (b < a ∧ cmpZ a b = 1) := by
  unfold cmpZ; split
  · exact .inl ⟨by assumption, rfl⟩
  · split
    · exact .inr (.inr ⟨by assumption, rfl⟩)
    · exact .inr (.inl ⟨by omega, rfl⟩)
theorem cmpI_cases (a b : Nat) : (a < b ∧ cmpI a b = -1) ∨ (a = b ∧ cmpI a b = 0) ∨ (b < a ∧ cmpI a b = 1) := by
  unfold cmpI; split
  · exact .inl ⟨by assumption, rfl⟩
  · split
    · exact .inr (.inr ⟨by assumption, rfl⟩)
    · exact .inr (.inl ⟨by omega, rfl⟩)
theorem cmpZ_lt {a b : Int} (h : sgn a < sgn b) : cmpZ a b = -1 := by
  have h1 := sgn_cases a; have h2 := sgn_cases b; have h3 := cmpZ_cases a b; omega
theorem cmpZ_gt {a b : Int} (h : sgn b < sgn a) : cmpZ a b = 1 := by
  have h1 := sgn_cases a; have h2 := sgn_cases b; have h3 := cmpZ_cases a b; omega
theorem cmpZ_eq {s t : Bool} {a b : Nat} (h1 : ¬ sgn (zv s a) < sgn (zv t b)) (h2 : ¬ sgn (zv t b) < sgn (zv s a)) : sgn (zv s a) * cmpI a b = cmpZ (zv s a) (zv t b) := by
  have ha := zv_abs s a
  have hb := zv_abs t b
  have h3 := sgn_cases (zv s a); have h4 := sgn_cases (zv t b); have h5 := cmpZ_cases (zv s a) (zv t b); have h6 := cmpI_cases a b
  generalize zv s a = x at *
  generalize zv t b = y at *
  generalize cmpI a b = z at *
  rcases h3 with ⟨h3, e⟩ | ⟨h3, e⟩ | ⟨h3, e⟩ <;> rw [e] <;> omega
theorem sgn_sub (a b : Int) : sgn (a - b) = cmpZ a b := by
  have h1 := sgn_cases (a - b); have h2 := cmpZ_cases a b; omega

end Go.NatP
