/- PLAIN LAW: the two floats round a fraction: side by side, the fraction between; the nearest is one of them. No program in sight. -/
import Derived.Test.YtoeldbdcbfgmoaaDoorPL
namespace Go.NatP
open Go.FloatP
set_option linter.unusedVariables false

theorem dv_und (n : Nat) : dv n = und n := rfl
/-- a float's number, in units of the least place -/
def wv (x : Nat) : Int := sgd (fs x) (fg (fr x))
theorem sb_f {r : Nat} (h : r ≤ 9218868437227405312) : fs r = false ∧ fr r = r := by
  unfold fs fr
  have : r / 9223372036854775808 = 0 := by omega
  rw [this]
  exact ⟨rfl, by omega⟩
theorem sb_t {t : Nat} (h : t ≤ 9218868437227405312) : fr (sb true t) = t ∧ fk (sb true t) = -(t : Int) ∧ wv (sb true t) = -(fg t : Int) := by
  by_cases h0 : t = 0
  · subst h0
    have e : sb true 0 = 0 := by unfold sb; exact if_neg (by simp)
    rw [e]
    decide
  · have e : sb true t = 9223372036854775808 + t := by unfold sb; exact if_pos ⟨rfl, h0⟩
    have h1 : fs (9223372036854775808 + t) = true := by
      unfold fs
      have : (9223372036854775808 + t) / 9223372036854775808 = 1 := by omega
      rw [this]; rfl
    have h2 : fr (9223372036854775808 + t) = t := by unfold fr; omega
    rw [e]
    refine ⟨h2, ?_, ?_⟩
    · unfold fk; rw [h1, h2]; rfl
    · unfold wv sgd; rw [h1, h2]; rfl
theorem sb_fk {r : Nat} (h : r ≤ 9218868437227405312) : fk r = r ∧ wv r = fg r := by
  obtain ⟨h1, h2⟩ := sb_f h
  constructor
  · unfold fk; rw [h1, h2]; rfl
  · unfold wv sgd; rw [h1, h2]; rfl
/-- how a float's value stands to a fraction -/
theorem cmp_wv {s : Bool} {u v0 x : Nat} : cmpQ (flV (fs x) (fr x)) (qv s u v0) = cmpZ (wv x * (dv v0 : Nat)) (zv s u * ((2 ^ E74 : Nat) : Int)) := by
  unfold flV qv
  rw [← dv_und, ← cmpQ_mk (two_ne E74) (Nat.ne_of_gt (dv_pos v0))]
  rfl
theorem cmpZ_le {a b : Int} : cmpZ a b ≤ 0 ↔ a ≤ b := by unfold cmpZ; split <;> (try split) <;> omega
theorem cmpZ_ge {a b : Int} : 0 ≤ cmpZ a b ↔ b ≤ a := by unfold cmpZ; split <;> (try split) <;> omega
theorem cmpZ_z {a b : Int} : cmpZ a b = 0 ↔ a = b := by unfold cmpZ; split <;> (try split) <;> omega
structure NA (s : Bool) (u v0 lo hi x : Nat) : Prop where
  nl : fr lo ≤ 9218868437227405312
  nh : fr hi ≤ 9218868437227405312
  nx : fr x ≤ 9218868437227405312
  ll : lo < 18446744073709551616
  lh : hi < 18446744073709551616
  lx : x < 18446744073709551616
  le : fk lo ≤ fk hi
  one : fk x = fk lo ∨ fk x = fk hi
  low : fr lo < 9218868437227405312 → cmpQ (flV (fs lo) (fr lo)) (qv s u v0) ≤ 0
  high : fr hi < 9218868437227405312 → 0 ≤ cmpQ (flV (fs hi) (fr hi)) (qv s u v0)
  li : ¬ fr lo < 9218868437227405312 → lo = 18442240474082181120
  hi' : ¬ fr hi < 9218868437227405312 → hi = 9218868437227405312
  ex : fk lo = fk hi → fr lo < 9218868437227405312 ∧ fr hi < 9218868437227405312 ∧ cmpQ (flV (fs lo) (fr lo)) (qv s u v0) = 0
  nxt : fk lo < fk hi → (lo = 0 ∧ hi = 1) ∨ (∃ r, 0 < r ∧ r < 9218868437227405312 ∧ lo = r ∧ hi = r + 1) ∨ (∃ t, 0 < t ∧ t ≤ 9218868437227405312 ∧ lo = 9223372036854775808 + t ∧ fk hi = -((t - 1 : Nat) : Int))
theorem fr_le_lt {x : Nat} (h : fr x = x ∧ x ≤ 9218868437227405312 ∨ ∃ t, x = sb true t ∧ t ≤ 9218868437227405312) : x < 18446744073709551616 := by
  rcases h with h | ⟨t, rfl, h⟩
  · omega
  · unfold sb; split <;> omega
theorem na_of {s : Bool} {u v0 r t p : Nat} (hA : Arnd (u * 2 ^ E74) (dv v0) r t) (hN : Near (u * 2 ^ E74) (dv v0) p) :
    NA s u v0 (if s = true then sb true t else r) (if s = true then sb true r else t) (sb s p) := by
  have hv := Nat.ne_of_gt (dv_pos v0)
  have hp := near_in hv hN hA
  have hrt : r ≤ t ∧ t ≤ 9218868437227405312 ∧ r < 9218868437227405312 ∧ (t = r ∨ t = r + 1) := by
    rcases hA with ⟨rfl, h, _⟩ | ⟨rfl, h, _⟩ <;> omega
  obtain ⟨h1, h2, h3, h4⟩ := hrt
  have hp2 : p ≤ 9218868437227405312 := by omega
  have z1 : fg r * dv v0 ≤ u * 2 ^ E74 := by
    rcases hA with ⟨_, _, h⟩ | ⟨_, _, h, _⟩ <;> omega
  have z2 : t < 9218868437227405312 → u * 2 ^ E74 ≤ fg t * dv v0 := fun ht => by
    rcases hA with ⟨rfl, _, h⟩ | ⟨_, _, h, h5⟩ <;> omega
  have z3 : t = r → fg r * dv v0 = u * 2 ^ E74 := fun ht => by
    rcases hA with ⟨_, _, h⟩ | ⟨h, _⟩ <;> omega
  generalize hAA : u * 2 ^ E74 = A at *
  have cA : ((u : Int)) * ((2 ^ E74 : Nat) : Int) = (A : Int) := by rw [← hAA]; simp
  have c1 : (fg r : Int) * (dv v0 : Nat) = ((fg r * dv v0 : Nat) : Int) := by simp
  have c2 : (fg t : Int) * (dv v0 : Nat) = ((fg t * dv v0 : Nat) : Int) := by simp
  clear hA hN hAA
  cases s
  · obtain ⟨r1, r2⟩ := sb_f (r := r) (by omega)
    obtain ⟨t1, t2⟩ := sb_f (r := t) h2
    obtain ⟨r3, r4⟩ := sb_fk (r := r) (by omega)
    obtain ⟨t3, t4⟩ := sb_fk (r := t) h2
    have ep : sb false p = p := by unfold sb; exact if_neg (by simp)
    obtain ⟨p1, p2⟩ := sb_f (r := p) hp2
    obtain ⟨p3, _⟩ := sb_fk (r := p) hp2
    rw [if_neg (by decide), if_neg (by decide), ep]
    have zA : zv false u * ((2 ^ E74 : Nat) : Int) = A := cA
    refine ⟨by omega, by omega, by omega, by omega, by omega, by omega, by omega, by omega, ?_, ?_, by omega, by omega, ?_, ?_⟩
    · intro _; rw [cmp_wv, zA, r4, cmpZ_le, c1]; omega
    · intro h; rw [t2] at h; rw [cmp_wv, zA, t4, cmpZ_ge, c2]; have := z2 h; omega
    · intro h
      have ht : t = r := by omega
      refine ⟨by omega, by omega, ?_⟩
      rw [cmp_wv, zA, r4, cmpZ_z, c1]
      have := z3 ht; omega
    · intro h
      by_cases h0 : r = 0
      · exact .inl ⟨h0, by omega⟩
      · exact .inr (.inl ⟨r, by omega, h3, rfl, by omega⟩)
  · obtain ⟨t1, t2, t3⟩ := sb_t h2
    obtain ⟨r1, r2, r3⟩ := sb_t (t := r) (by omega)
    obtain ⟨p1, p2, _⟩ := sb_t hp2
    rw [if_pos rfl, if_pos rfl]
    have zA : zv true u * ((2 ^ E74 : Nat) : Int) = -(A : Int) := by
      show -(u : Int) * _ = _
      rw [Int.neg_mul, cA]
    refine ⟨by omega, by omega, by omega, fr_le_lt (.inr ⟨t, rfl, h2⟩), fr_le_lt (.inr ⟨r, rfl, by omega⟩), fr_le_lt (.inr ⟨p, rfl, hp2⟩), by omega, by omega, ?_, ?_, ?_, by omega, ?_, ?_⟩
    · intro h; rw [t1] at h; rw [cmp_wv, zA, t3, cmpZ_le, Int.neg_mul, c2]; have := z2 h; omega
    · intro _; rw [cmp_wv, zA, r3, cmpZ_ge, Int.neg_mul, c1]; omega
    · intro h; rw [t1] at h
      have ht : t = 9218868437227405312 := by omega
      rw [ht]; unfold sb; exact if_pos ⟨rfl, by omega⟩
    · intro h
      have ht : t = r := by omega
      refine ⟨by omega, by omega, ?_⟩
      rw [cmp_wv, zA, t3, cmpZ_z, Int.neg_mul, c2, ht]
      have := z3 ht; omega
    · intro h
      have ht : t = r + 1 := by omega
      refine .inr (.inr ⟨t, by omega, h2, ?_, by omega⟩)
      unfold sb; exact if_pos ⟨rfl, by omega⟩
end Go.NatP
