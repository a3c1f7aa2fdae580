/- PLAIN LAW: a number of at most 53 bits, doubled: its rung among the floats, and the next one. No program in sight. -/
import Derived.Test.YtoeldbdcbfgmoaaDoorFe
import Derived.Test.YtoeldbdcbfgmoaaDoorPP
import Derived.Test.YtoeldbdcbfgmoaaDoorFk
namespace Go.NatP
open Go.FloatP
set_option linter.unusedVariables false

theorem fg_up {r : Nat} (h : 4503599627370496 ≤ r) : fg r = (4503599627370496 + r % 4503599627370496) * 2 ^ (r / 4503599627370496 - 1) := if_neg (by omega)
/-- the rung of m * 2^k (in units of the least float above 0), m being of 53 bits, or k nought -/
theorem fg_rung {k m : Nat} (hm : m < 9007199254740992) (h : k = 0 ∨ 4503599627370496 ≤ m) : fg (k * 4503599627370496 + m) = m * 2 ^ k := by
  by_cases h1 : m < 4503599627370496
  · have hk : k = 0 := by omega
    subst hk
    rw [Nat.zero_mul, Nat.zero_add, fg_low h1, Nat.pow_zero, Nat.mul_one]
  · obtain ⟨f, rfl⟩ : ∃ f, m = 4503599627370496 + f := ⟨m - 4503599627370496, by omega⟩
    have e1 : (k * 4503599627370496 + (4503599627370496 + f)) % 4503599627370496 = f := by omega
    have e2 : (k * 4503599627370496 + (4503599627370496 + f)) / 4503599627370496 - 1 = k := by omega
    rw [fg_up (by omega), e1, e2]
/-- the next rung's value -/
theorem fg_next {k m : Nat} (hm : m < 9007199254740992) (h : k = 0 ∨ 4503599627370496 ≤ m) : fg (k * 4503599627370496 + m + 1) = (m + 1) * 2 ^ k := by
  by_cases h1 : m + 1 < 9007199254740992
  · have h2 := fg_rung (k := k) (m := m + 1) h1 (by omega)
    rwa [show k * 4503599627370496 + (m + 1) = k * 4503599627370496 + m + 1 by omega] at h2
  · have hm2 : m + 1 = 9007199254740992 := by omega
    have h2 := fg_rung (k := k + 1) (m := 4503599627370496) (by omega) (.inr (Nat.le_refl _))
    rw [show k * 4503599627370496 + m + 1 = (k + 1) * 4503599627370496 + 4503599627370496 by omega, h2, hm2, Nat.pow_succ, Nat.mul_comm (2 ^ k) 2, ← Nat.mul_assoc]
/-- rounded down: the greatest float that is not above n / d (n doubled 1074 times: A) -/
theorem fl_down {A d k m : Nat} (hm : m < 9007199254740992) (h : k = 0 ∨ 4503599627370496 ≤ m) (h1 : m * 2 ^ k * d ≤ A) (h2 : A < (m + 1) * 2 ^ k * d) :
    fg (k * 4503599627370496 + m) * d ≤ A ∧ A < fg (k * 4503599627370496 + m + 1) * d := by
  rw [fg_rung hm h, fg_next hm h]
  exact ⟨h1, h2⟩
/-- there is but one such rung -/
theorem fl_one {A d r s : Nat} (h1 : fg r * d ≤ A) (h2 : A < fg (r + 1) * d) (h3 : fg s * d ≤ A) (h4 : A < fg (s + 1) * d) : r = s := by
  have mono : ∀ {x y : Nat}, x ≤ y → fg x ≤ fg y := fun {x y} h => by
    rcases Nat.lt_or_eq_of_le h with h | h
    · exact Nat.le_of_lt (fg_lt_iff.2 h)
    · rw [h]; exact Nat.le_refl _
  rcases Nat.lt_trichotomy r s with h | h | h
  · exact absurd (Nat.lt_of_lt_of_le h2 (Nat.mul_le_mul_right d (mono h))) (by omega)
  · exact h
  · exact absurd (Nat.lt_of_lt_of_le h4 (Nat.mul_le_mul_right d (mono h))) (by omega)
/-- a number's floor by 2^k: what is left over, doubled, tells of which rung it is nearer -/
theorem fl_half {n d q : Nat} (hd : 0 < d) (hq : n / d = q) : q * d ≤ n ∧ n < (q + 1) * d ∧ n % d = n - q * d := by
  subst hq
  have h := Nat.div_add_mod n d
  have h2 := Nat.mod_lt n hd
  rw [Nat.add_mul, Nat.one_mul]
  have h3 : n / d * d = d * (n / d) := Nat.mul_comm _ _
  omega
end Go.NatP
/- PLAIN LAW: near.cut's loop: the least exponent at which the quotient has no more bits than a kind's numbers. No program in sight. -/
namespace Go.NatP
set_option linter.unusedVariables false

/-- what is divided, and by what, at exponent e -/
def ctX (n : Nat) (e : Int) : Nat := if e < 0 then n * 2 ^ (-e).toNat else n
def ctY (d : Nat) (e : Int) : Nat := if e < 0 then d else d * 2 ^ e.toNat
def ctQ (n d : Nat) (e : Int) : Nat := ctX n e / ctY d e
theorem ctY_pos {d : Nat} {e : Int} (h : 0 < d) : 0 < ctY d e := by
  unfold ctY
  split
  · exact h
  · exact Nat.mul_pos h (Nat.pow_pos (by decide))
theorem nb_ctX {n : Nat} {e : Int} (h : n ≠ 0) (he : e < 0) : nb (ctX n e) = nb n + (-e).toNat := by
  unfold ctX; rw [if_pos he, nb_mul_two_pow h]
theorem nb_ctY {d : Nat} {e : Int} (h : d ≠ 0) (he : ¬ e < 0) : nb (ctY d e) = nb d + e.toNat := by
  unfold ctY; rw [if_neg he, nb_mul_two_pow h]
theorem div_lt_two {x y P Q B : Nat} (hx : x < 2 ^ P) (hy : 2 ^ Q ≤ y) (h : P ≤ B + Q) : x / y < 2 ^ B := by
  refine Nat.div_lt_of_lt_mul ?_
  refine Nat.lt_of_lt_of_le hx (Nat.le_trans (Nat.pow_le_pow_right (by decide) h) ?_)
  rw [Nat.pow_add, Nat.mul_comm]
  exact Nat.mul_le_mul_right _ hy
theorem two_le_div {x y P Q B : Nat} (hx : 2 ^ P ≤ x) (hy : y ≤ 2 ^ Q) (hy0 : 0 < y) (h : B + Q ≤ P) : 2 ^ B ≤ x / y := by
  rw [Nat.le_div_iff_mul_le hy0]
  refine Nat.le_trans (Nat.mul_le_mul_left _ hy) (Nat.le_trans ?_ hx)
  rw [← Nat.pow_add]
  exact Nat.pow_le_pow_right (by decide) h
/-- from the size on the quotient has few bits -/
theorem ct_end {n d B : Nat} {e : Int} (hn : n ≠ 0) (hd : d ≠ 0) (h : (nb n : Int) - nb d + 1 ≤ B + e) : ctQ n d e < 2 ^ B := by
  have hp := nb_pos hd
  unfold ctQ
  by_cases he : e < 0
  · have h1 := lt_two_nb (ctX n e)
    rw [nb_ctX hn he] at h1
    have h2 := two_nb_le hd
    refine div_lt_two h1 (show 2 ^ (nb d - 1) ≤ ctY d e by unfold ctY; rw [if_pos he]; exact h2) (by omega)
  · have h1 := lt_two_nb n
    have hy : ctY d e ≠ 0 := Nat.ne_of_gt (ctY_pos (Nat.pos_of_ne_zero hd))
    have h2 := two_nb_le hy
    rw [nb_ctY hd he] at h2
    refine div_lt_two (show ctX n e < 2 ^ nb n by unfold ctX; rw [if_neg he]; exact h1) h2 (by omega)
/-- below the size it has many -/
theorem ct_begin {n d B : Nat} {e : Int} (hn : n ≠ 0) (hd : d ≠ 0) (h : (B : Int) + e + 1 ≤ (nb n : Int) - nb d) : 2 ^ B ≤ ctQ n d e := by
  have hp := nb_pos hn
  unfold ctQ
  by_cases he : e < 0
  · have hx : ctX n e ≠ 0 := by unfold ctX; rw [if_pos he]; exact Nat.mul_ne_zero hn (Nat.ne_of_gt (Nat.pow_pos (by decide)))
    have h1 := two_nb_le hx
    rw [nb_ctX hn he] at h1
    have h2 := lt_two_nb d
    exact two_le_div h1 (show ctY d e ≤ 2 ^ nb d by unfold ctY; rw [if_pos he]; exact Nat.le_of_lt h2) (ctY_pos (Nat.pos_of_ne_zero hd)) (by omega)
  · have h1 := two_nb_le hn
    have h2 := lt_two_nb (ctY d e)
    rw [nb_ctY hd he] at h2
    exact two_le_div (show 2 ^ (nb n - 1) ≤ ctX n e by unfold ctX; rw [if_neg he]; exact h1) (Nat.le_of_lt h2) (ctY_pos (Nat.pos_of_ne_zero hd)) (by omega)
/-- one exponent more halves the quotient -/
theorem ct_half {n d : Nat} {e : Int} (hd : 0 < d) : ctQ n d (e + 1) = ctQ n d e / 2 := by
  unfold ctQ ctX ctY
  by_cases he : e < 0
  · by_cases he1 : e + 1 < 0
    · rw [if_pos he, if_pos he, if_pos he1, if_pos he1]
      obtain ⟨a, ha⟩ : ∃ a, (-(e + 1)).toNat = a := ⟨_, rfl⟩
      rw [ha, show (-e).toNat = a + 1 by omega, Nat.pow_succ, ← Nat.mul_assoc, Nat.div_div_eq_div_mul, Nat.mul_div_mul_right _ _ (by decide)]
    · rw [if_pos he, if_pos he, if_neg he1, if_neg he1, show (e + 1).toNat = 0 by omega, show (-e).toNat = 1 by omega, Nat.pow_zero, Nat.mul_one, Nat.pow_one, Nat.div_div_eq_div_mul, Nat.mul_div_mul_right _ _ (by decide)]
  · rw [if_neg he, if_neg he, if_neg (by omega), if_neg (by omega), Nat.div_div_eq_div_mul, show (e + 1).toNat = e.toNat + 1 by omega, Nat.pow_succ, ← Nat.mul_assoc]
/-- where the loop ends above its least exponent, the quotient has just so many bits -/
theorem ct_full {n d B : Nat} {e : Int} (hd : 0 < d) (h : 2 ^ (B + 1) ≤ ctQ n d e) : 2 ^ B ≤ ctQ n d (e + 1) := by
  rw [ct_half hd]
  rw [Nat.pow_succ] at h
  omega
end Go.NatP
/- PLAIN LAW: Ldexp: m times 2^e, m being of at most 53 bits: its rung, and how it is reached. No program in sight. -/
namespace Go.FloatP
open Ieee Go.NatP
set_option linter.unusedVariables false

/-- a number that lies at the least place, whatever it is written at -/
theorem nearest_sub (s : Bool) {M k : Nat} {e : Int} (h0 : M ≠ 0) (h : M < 4503599627370496) (he : e = -1074 - (k : Int)) : double.nearest s (M * 2 ^ k) e = double.word s M := by
  have hbi : double.binade = 4503599627370496 := by decide
  have hin : double.infRung = 9218868437227405312 := by decide
  have hlp : double.leastPlace = -1074 := by decide
  have hfb : double.fractionBits = 52 := rfl
  unfold Format.nearest
  rw [if_neg (Nat.mul_ne_zero h0 (Nat.ne_of_gt (Nat.pow_pos (by decide))))]
  simp only [hbi, hin, hlp, hfb]
  have hl : M.log2 < 52 := (Nat.log2_lt h0).2 (by simpa using h)
  have hmax : max (e + ((M * 2 ^ k).log2 : Int) - ((52 : Nat) : Int)) (-1074) = -1074 := by rw [log2_shift h0]; omega
  rw [hmax, show (e - -1074).toNat = 0 by omega, show (-1074 - e).toNat = k by omega, Nat.shiftLeft_zero, cut_exact s M k h0]
  simp only [Int.sub_self, Int.toNat_zero, Nat.zero_mul, Nat.zero_add]
  rw [Nat.min_eq_left (by omega)]
theorem word_false (r : Nat) : double.word false r = r := by
  unfold Format.word; simp
/-- the number m as 53 digits: q, b places up -/
structure Dig (m q b : Nat) : Prop where
  lo : 4503599627370496 ≤ q
  hi : q < 9007199254740992
  eq : q * 2 ^ b = m * 2 ^ 52
  le : b ≤ 53
theorem dig_of {m : Nat} (h0 : m ≠ 0) (h : m ≤ 9007199254740992) : ∃ q, Dig m q m.log2 := by
  have ha := Nat.log2_self_le h0
  have hb := Nat.lt_log2_self (n := m)
  by_cases h1 : m < 9007199254740992
  · have hl : m.log2 < 53 := (Nat.log2_lt h0).2 (by simpa using h1)
    have hp : 0 < 2 ^ (52 - m.log2) := Nat.pow_pos (by decide)
    have c := Nat.mul_le_mul_right (2 ^ (52 - m.log2)) ha
    have d := Nat.mul_lt_mul_of_pos_right hb hp
    rw [← Nat.pow_add, show m.log2 + (52 - m.log2) = 52 by omega] at c
    rw [← Nat.pow_add, show m.log2 + 1 + (52 - m.log2) = 53 by omega] at d
    exact ⟨m * 2 ^ (52 - m.log2), by simpa using c, by simpa using d, by rw [Nat.mul_assoc, ← Nat.pow_add, show 52 - m.log2 + m.log2 = 52 by omega], by omega⟩
  · have hm : m = 9007199254740992 := by omega
    subst hm
    have hl : Nat.log2 9007199254740992 = 53 := by decide +kernel
    rw [hl]
    exact ⟨4503599627370496, by decide, by decide, by decide +kernel, by decide⟩
/-- the float of the number -/
theorem dig_float {m q b : Nat} (h : Dig m q b) : double.nearest false m 0 = (b + 1022) * 4503599627370496 + q := by
  have h3 := h.le
  have h6 : ((0 : Int) ≤ (b : Int) - 52 ∧ m = q * 2 ^ ((b : Int) - 52 - 0).toNat) ∨ ((b : Int) - 52 ≤ 0 ∧ q = m * 2 ^ (0 - ((b : Int) - 52)).toNat) := by
    by_cases hb : b ≤ 52
    · refine .inr ⟨by omega, ?_⟩
      have := h.eq
      rw [show (2 : Nat) ^ 52 = 2 ^ (52 - b) * 2 ^ b by rw [← Nat.pow_add, show 52 - b + b = 52 by omega], ← Nat.mul_assoc] at this
      rw [Nat.eq_of_mul_eq_mul_right (Nat.pow_pos (by decide)) this, show (0 - ((b : Int) - 52)).toNat = 52 - b by omega]
    · refine .inl ⟨by omega, ?_⟩
      have := h.eq
      rw [show 2 ^ b = 2 ^ (b - 52) * 2 ^ 52 by rw [← Nat.pow_add, show b - 52 + 52 = b by omega], ← Nat.mul_assoc] at this
      rw [← Nat.eq_of_mul_eq_mul_right (Nat.pow_pos (by decide)) this, show ((b : Int) - 52 - 0).toNat = b - 52 by omega]
  have h7 := nearest_exact (q := q) (p := (b : Int) - 52) (m := m) (e := 0) false h.lo h.hi (by omega) (by omega) h6
  rw [word_false] at h7
  have h8 : ((b : Int) - 52 + 1074).toNat = b + 1022 := by omega
  rw [h8] at h7
  exact h7
/-- once itself -/
theorem mul_one' {c f : Nat} (hc : 1 ≤ c) (hc2 : c ≤ 2046) (hf : f < 4503599627370496) : double.mul 4607182418800017408 (c * 4503599627370496 + f) = some (c * 4503599627370496 + f) := by
  unfold Format.mul
  rw [read_norm hc hc2 hf, show (4607182418800017408 : Nat) = 1023 * 4503599627370496 + 0 from rfl, read_norm (by decide) (by decide) (by decide)]
  show some (double.nearest (false ^^ false) ((4503599627370496 + 0) * (4503599627370496 + f)) ((((1023 : Nat) : Int) - 1075) + ((c : Int) - 1075))) = _
  rw [nearest_exact (q := 4503599627370496 + f) (p := (c : Int) - 1075) _ (by omega) (by omega) (by omega) (by omega) (.inl ⟨by omega, by
    rw [show ((c : Int) - 1075 - ((((1023 : Nat) : Int) - 1075) + ((c : Int) - 1075))).toNat = 52 by omega, Nat.add_zero, Nat.mul_comm]⟩)]
  rw [show ((c : Int) - 1075 + 1074).toNat = c - 1 by omega]
  show some (double.word false _) = _
  have h9 : (c - 1) * 4503599627370496 + (4503599627370496 + f) = c * 4503599627370496 + f := by omega
  rw [word_false, h9]
/-- 2^-53 times a float that is then below the least normal one -/
theorem mul_low' {c f M k : Nat} (hc : 1 ≤ c) (hc2 : c ≤ 2046) (hf : f < 4503599627370496) (h0 : M ≠ 0) (hM : M < 4503599627370496) (hk : k + c = 106) (he : (4503599627370496 + f) * 2 ^ 52 = M * 2 ^ k) :
    double.mul 4368491638549381120 (c * 4503599627370496 + f) = some M := by
  unfold Format.mul
  rw [read_norm hc hc2 hf, show (4368491638549381120 : Nat) = 970 * 4503599627370496 + 0 from rfl, read_norm (by decide) (by decide) (by decide)]
  show some (double.nearest (false ^^ false) ((4503599627370496 + 0) * (4503599627370496 + f)) ((((970 : Nat) : Int) - 1075) + ((c : Int) - 1075))) = _
  rw [show (4503599627370496 + 0) * (4503599627370496 + f) = M * 2 ^ k by rw [← he, Nat.mul_comm], nearest_sub _ h0 hM (by omega)]
  show some (double.word false _) = _
  rw [word_false]
/-- the rung of m times 2^e -/
def ldR (m : Nat) (e : Int) : Nat :=
  if m = 0 then 0 else if 1023 < e + (m.log2 : Int) then 9218868437227405312
  else if e + (m.log2 : Int) < -1022 then m * 2 ^ (e + 1074).toNat else (e + (m.log2 : Int) + 1022).toNat * 4503599627370496 + m * 2 ^ 52 / 2 ^ m.log2
theorem dig_div {m q b : Nat} (h : Dig m q b) : m * 2 ^ 52 / 2 ^ b = q := by
  rw [← h.eq]; exact Nat.mul_div_cancel _ (Nat.pow_pos (by decide))
theorem fg_ldR {m : Nat} {e : Int} (h : m ≤ 9007199254740992) (he : -1074 ≤ e) (h1 : e + (m.log2 : Int) ≤ 1023) : fg (ldR m e) = m * 2 ^ (e + 1074).toNat ∧ ldR m e < 9218868437227405312 := by
  unfold ldR
  by_cases h0 : m = 0
  · subst h0; simp [fg_low]
  rw [if_neg h0, if_neg (by omega)]
  obtain ⟨q, hq⟩ := dig_of h0 h
  have hq1 := hq.lo
  have hq2 := hq.hi
  have hb := hq.le
  by_cases h2 : e + (m.log2 : Int) < -1022
  · rw [if_pos h2]
    have h3 : m * 2 ^ (e + 1074).toNat < 4503599627370496 := by
      have ha := Nat.mul_lt_mul_of_pos_right (Nat.lt_log2_self (n := m)) (Nat.pow_pos (n := (e + 1074).toNat) (show 0 < 2 by decide))
      rw [← Nat.pow_add] at ha
      exact Nat.lt_of_lt_of_le ha (Nat.pow_le_pow_right (n := 2) (by decide) (show m.log2 + 1 + (e + 1074).toNat ≤ 52 by omega))
    exact ⟨fg_low h3, by omega⟩
  · rw [if_neg h2, dig_div hq]
    obtain ⟨k, hk⟩ : ∃ k, (e + (m.log2 : Int) + 1022).toNat = k := ⟨_, rfl⟩
    rw [hk, fg_rung hq2 (.inr hq1)]
    refine ⟨?_, by omega⟩
    have he' := hq.eq
    have key : q * 2 ^ k * 2 ^ 52 = m * 2 ^ (e + 1074).toNat * 2 ^ 52 := by
      rw [Nat.mul_right_comm m, ← he', Nat.mul_assoc, Nat.mul_assoc, ← Nat.pow_add, ← Nat.pow_add, show m.log2 + (e + 1074).toNat = k + 52 by omega]
    exact Nat.eq_of_mul_eq_mul_right (Nat.pow_pos (by decide)) key
/-- a number and its exponent, as near.cut gives them: its rung -/
theorem ldR_rung {m : Nat} {e : Int} (h : m ≤ 9007199254740992) (he : -1074 ≤ e) (he2 : e ≤ 971) (h1 : e = -1074 ∨ 4503599627370496 ≤ m) : ldR m e = (e + 1074).toNat * 4503599627370496 + m := by
  unfold ldR
  by_cases h0 : m = 0
  · subst h0
    have : e = -1074 := by omega
    subst this; rfl
  rw [if_neg h0]
  have ha := Nat.log2_self_le h0
  have hb := Nat.lt_log2_self (n := m)
  by_cases h2 : m < 4503599627370496
  · have hl : m.log2 < 52 := (Nat.log2_lt h0).2 (by simpa using h2)
    have : e = -1074 := by omega
    subst this
    rw [if_neg (by omega), if_pos (by omega)]
    simp
  · by_cases h3 : m < 9007199254740992
    · rw [log2_full (by omega) h3, if_neg (by omega), if_neg (by omega), Nat.mul_div_cancel _ (Nat.pow_pos (by decide))]
      congr 2; omega
    · have hm : m = 9007199254740992 := by omega
      subst hm
      have hl : Nat.log2 9007199254740992 = 53 := by decide +kernel
      rw [hl]
      by_cases h4 : e = 971
      · subst h4; decide +kernel
      · rw [if_neg (by omega), if_neg (by omega), show 9007199254740992 * 2 ^ 52 / 2 ^ 53 = 4503599627370496 by decide +kernel]
        omega
end Go.FloatP
/- PLAIN LAW: what near.cut tells of a fraction: a number of so many bits, its place, what is left over. No program in sight. -/
namespace Go.NatP
open Go.FloatP
set_option linter.unusedVariables false

/-! ### sizes -/
theorem nb_limP {l : List Nat} (h : Lim l) : nb (val l) ≤ 32 * l.length := nb_le.2 (by rw [← pow_32]; exact val_lt h)
theorem len_nb' {x k : Nat} (h : nb x ≤ 32 * k) : (lm x).length ≤ k := by
  refine length_lm_le ?_
  rw [pow_32, ← nb_le]; exact h
theorem len_mul2 {x D k : Nat} (h : nb x + D ≤ 32 * k) : (lm (x * 2 ^ D)).length ≤ k := by
  refine len_nb' ?_
  by_cases h0 : x = 0
  · subst h0; rw [Nat.zero_mul, nb_zero]; omega
  · rw [nb_mul_two_pow h0]; exact h
theorem len_mono {x y k : Nat} (h : x ≤ y) (hy : (lm y).length ≤ k) : (lm x).length ≤ k :=
  length_lm_le (Nat.lt_of_le_of_lt h (Nat.lt_of_lt_of_le (lt_pow_length y) (Nat.pow_le_pow_right (by decide) hy)))

/-! ### how two numbers compare -/
theorem cmpI_mul {a b c : Nat} (h : 0 < c) : cmpI (a * c) (b * c) = cmpI a b := by
  unfold cmpI
  simp only [Nat.mul_lt_mul_right h]
theorem cmpI_add {a b c : Nat} : cmpI (a + c) (b + c) = cmpI a b := by
  unfold cmpI
  simp only [Nat.add_lt_add_iff_right]
/-- a fraction's denominator: 1 where there is none -/
def dv (n : Nat) : Nat := if n = 0 then 1 else n
theorem dv_pos (n : Nat) : 0 < dv n := by unfold dv; split <;> omega
/-- the least number that is too great -/
def top (B : Nat) (M : Int) : Nat := 2 ^ (B + 1074 + M).toNat
/-- what near.cut tells of u / v -/
structure CutOK (B : Nat) (L M : Int) (u v m : Nat) (E : Int) (more : Bool) (half : Int) (far : Bool) : Prop where
  bits : m < 2 ^ B
  lo : L ≤ E
  hi : E ≤ 1000
  great : far = true → top B M * v ≤ u * 2 ^ E74
  most : far = false → E ≤ M
  full : far = false → E = L ∨ 2 ^ (B - 1) ≤ m
  low : far = false → m * 2 ^ (E + 1074).toNat * v ≤ u * 2 ^ E74
  high : far = false → u * 2 ^ E74 < (m + 1) * 2 ^ (E + 1074).toNat * v
  more : far = false → more = decide (m * 2 ^ (E + 1074).toNat * v ≠ u * 2 ^ E74)
  half : far = false → half = cmpI (u * 2 ^ E74 * 2) ((2 * m + 1) * 2 ^ (E + 1074).toNat * v)
theorem ct_scale {u v : Nat} {E : Int} (h : -1074 ≤ E) : ∃ c, 0 < c ∧ u * 2 ^ E74 = ctX u E * c ∧ 2 ^ (E + 1074).toNat * v = ctY v E * c := by
  obtain ⟨T, hT⟩ : ∃ T : Nat, E74 = T := ⟨_, rfl⟩
  have hT2 : T = 1074 := hT.symm
  rw [hT]
  unfold ctX ctY
  by_cases he : E < 0
  · rw [if_pos he, if_pos he]
    refine ⟨2 ^ (E + 1074).toNat, Nat.pow_pos (by decide), ?_, Nat.mul_comm _ _⟩
    rw [Nat.mul_assoc, ← Nat.pow_add, show (-E).toNat + (E + 1074).toNat = T by omega]
  · rw [if_neg he, if_neg he]
    refine ⟨2 ^ T, Nat.pow_pos (by decide), rfl, ?_⟩
    rw [Nat.mul_assoc, ← Nat.pow_add, show E.toNat + T = (E + 1074).toNat by omega, Nat.mul_comm]
theorem two_split {a b c : Nat} (h : a + b = c) : (2 : Nat) ^ c = 2 ^ a * 2 ^ b := by rw [← h, Nat.pow_add]
/-- where its loop ends -/
theorem cut_main {B u v : Nat} {L M E : Int} (hv : v ≠ 0) (hB : 1 ≤ B) (hL : -1074 ≤ L) (hLM : L ≤ M) (h1 : L ≤ E) (h2 : E ≤ 1000) (hq : ctQ u v E < 2 ^ B) (hlo : E = L ∨ 2 ^ (B - 1) ≤ ctQ u v E) :
    CutOK B L M u v (ctQ u v E) E (decide (ctX u E % ctY v E ≠ 0)) (cmpI (ctX u E % ctY v E * 2) (ctY v E)) (decide (M < E)) := by
  obtain ⟨c, hc, hA, hV⟩ := ct_scale (u := u) (v := v) (E := E) (by omega)
  have hY : 0 < ctY v E := ctY_pos (Nat.pos_of_ne_zero hv)
  obtain ⟨hl, hh, hr⟩ := fl_half hY (show ctX u E / ctY v E = ctQ u v E from rfl)
  have e1 : ∀ q : Nat, q * 2 ^ (E + 1074).toNat * v = q * ctY v E * c := fun q => by rw [Nat.mul_assoc, hV, Nat.mul_assoc]
  refine ⟨hq, h1, h2, ?_, ?_, ?_, ?_, ?_, ?_, ?_⟩
  · intro h
    have hE : M < E := of_decide_eq_true h
    have hm : 2 ^ (B - 1) ≤ ctQ u v E := by
      rcases hlo with h3 | h3
      · omega
      · exact h3
    refine Nat.le_trans ?_ (show ctQ u v E * 2 ^ (E + 1074).toNat * v ≤ u * 2 ^ E74 by rw [e1, hA]; exact Nat.mul_le_mul_right _ hl)
    refine Nat.mul_le_mul_right _ (Nat.le_trans ?_ (Nat.mul_le_mul_right _ hm))
    rw [← Nat.pow_add]
    exact Nat.pow_le_pow_right (by decide) (by omega)
  · intro h; have := of_decide_eq_false h; omega
  · intro _; exact hlo
  · intro _; rw [e1, hA]; exact Nat.mul_le_mul_right _ hl
  · intro _; rw [e1, hA]; exact Nat.mul_lt_mul_of_pos_right hh hc
  · intro _
    rw [e1, hA]
    refine decide_eq_decide.2 ?_
    rw [hr]
    constructor
    · intro h h5; have := Nat.eq_of_mul_eq_mul_right hc h5; omega
    · intro h h5
      have h8 : ctQ u v E * ctY v E = ctX u E := by omega
      exact h (by rw [h8])
  · intro _
    rw [e1, hA, Nat.mul_right_comm, cmpI_mul hc, hr]
    have h6 : ctX u E * 2 = (ctX u E - ctQ u v E * ctY v E) * 2 + 2 * (ctQ u v E * ctY v E) := by omega
    have h7 : (2 * ctQ u v E + 1) * ctY v E = ctY v E + 2 * (ctQ u v E * ctY v E) := by rw [Nat.add_mul, Nat.mul_assoc]; omega
    rw [h6, h7, cmpI_add]
theorem cut_zero {B v : Nat} {L M : Int} (hv : v ≠ 0) (hL : -1074 ≤ L) (hL2 : L ≤ 0) (hLM : L ≤ M) : CutOK B L M 0 v 0 L false (-1) false := by
  have hp : 0 < 2 ^ (L + 1074).toNat * v := Nat.mul_pos (Nat.pow_pos (by decide)) (Nat.pos_of_ne_zero hv)
  refine ⟨Nat.pow_pos (by decide), Int.le_refl _, by omega, by simp, fun _ => hLM, fun _ => .inl rfl, by simp, ?_, by simp, ?_⟩
  · intro _; rw [Nat.zero_mul, Nat.zero_add, Nat.one_mul]; exact hp
  · intro _
    unfold cmpI
    simp only [Nat.zero_mul, Nat.mul_zero, Nat.zero_add, Nat.one_mul]
    rw [if_pos hp]
theorem cut_tiny {B u v : Nat} {L M : Int} (hu : u ≠ 0) (hv : v ≠ 0) (hL : -1074 ≤ L) (hL2 : L ≤ 0) (hLM : L ≤ M) (hs : (nb u : Int) - nb v < L - 2) : CutOK B L M u v 0 L true (-1) false := by
  obtain ⟨T, hT⟩ : ∃ T : Nat, E74 = T := ⟨_, rfl⟩
  have hT2 : T = 1074 := hT.symm
  have h1 := lt_two_nb u
  have h2 := two_nb_le hv
  have h3 := nb_pos hv
  have key : u * 2 ^ T * 2 < 2 ^ (L + 1074).toNat * v := by
    refine Nat.lt_of_lt_of_le (Nat.mul_lt_mul_of_pos_right (Nat.mul_lt_mul_of_pos_right h1 (Nat.pow_pos (by decide))) (by decide)) (Nat.le_trans ?_ (Nat.mul_le_mul_left _ h2))
    rw [← Nat.pow_add, ← Nat.pow_succ, ← Nat.pow_add]
    exact Nat.pow_le_pow_right (by decide) (by omega)
  have hp : 0 < 2 ^ T := Nat.pow_pos (by decide)
  have hu' : 0 < u * 2 ^ T := Nat.mul_pos (Nat.pos_of_ne_zero hu) hp
  refine ⟨Nat.pow_pos (by decide), Int.le_refl _, by omega, by simp, fun _ => hLM, fun _ => .inl rfl, by simp, ?_, ?_, ?_⟩
  · intro _; rw [hT, Nat.zero_add, Nat.one_mul]; omega
  · intro _; rw [hT, Nat.zero_mul, Nat.zero_mul]; symm; exact decide_eq_true (by omega)
  · intro _
    unfold cmpI
    rw [hT, Nat.mul_zero, Nat.zero_add, Nat.one_mul, if_pos key]
theorem cut_far {B u v : Nat} {L M : Int} (hu : u ≠ 0) (hv : v ≠ 0) (hL2 : L ≤ 0) (hBM : 0 ≤ B + 1074 + M) (hs : (B : Int) + M < (nb u : Int) - nb v) : CutOK B L M u v 0 0 false 0 true := by
  obtain ⟨T, hT⟩ : ∃ T : Nat, E74 = T := ⟨_, rfl⟩
  have hT2 : T = 1074 := hT.symm
  have h1 := two_nb_le hu
  have h2 := lt_two_nb v
  have h3 := nb_pos hu
  refine ⟨Nat.pow_pos (by decide), hL2, by omega, ?_, nofun, nofun, nofun, nofun, nofun, nofun⟩
  intro _
  rw [hT]
  refine Nat.le_trans (Nat.mul_le_mul_left _ (Nat.le_of_lt h2)) (Nat.le_trans ?_ (Nat.mul_le_mul_right _ h1))
  unfold top
  rw [← Nat.pow_add, ← Nat.pow_add]
  exact Nat.pow_le_pow_right (by decide) (by omega)
end Go.NatP
/- PLAIN LAW: near.round and near.Around: the rungs that they reckon. No program in sight. -/
namespace Go.NatP
open Go.FloatP
set_option linter.unusedVariables false

/-- rounded -/
def rup (m : Nat) (half : Int) : Nat := if 0 < half ∨ (half = 0 ∧ m % 2 = 1) then m + 1 else m
def rndR (m : Nat) (E half : Int) (far : Bool) : Nat := if far = true then 9218868437227405312 else ldR (rup m half) E
def arT (m : Nat) (E : Int) (more far : Bool) : Nat := if far = true then 9218868437227405312 else if more = true then ldR (m + 1) E else ldR m E
def arR (m : Nat) (E : Int) (far : Bool) : Nat := if far = true then 9218868437227405311 else ldR m E
/-- a float of a sign and a rung; nought has none -/
def sb (s : Bool) (r : Nat) : Nat := if s = true ∧ r ≠ 0 then 9223372036854775808 + r else r
theorem rup_le {m : Nat} {half : Int} {k : Nat} (h : m < k) : rup m half ≤ k := by unfold rup; split <;> omega
theorem fg_inf : fg 9218868437227405312 = top 53 971 := by decide +kernel
theorem fg_mono {x y : Nat} (h : x ≤ y) : fg x ≤ fg y := by
  rcases Nat.lt_or_eq_of_le h with h | h
  · exact Nat.le_of_lt (fg_lt_iff.2 h)
  · rw [h]; exact Nat.le_refl _
/-- the nearest float of A / v (A in units of the least float) -/
def Near (A v p : Nat) : Prop := (p = 9218868437227405312 ∧ fg 9218868437227405312 * v ≤ A) ∨
  ∃ r, r < 9218868437227405312 ∧ fg r * v ≤ A ∧ A < fg (r + 1) * v ∧ ((p = r ∧ A * 2 ≤ (fg r + fg (r + 1)) * v) ∨ (p = r + 1 ∧ (fg r + fg (r + 1)) * v ≤ A * 2))
/-- the two round it -/
def Arnd (A v r t : Nat) : Prop := (t = r ∧ r < 9218868437227405312 ∧ fg r * v = A) ∨ (t = r + 1 ∧ r < 9218868437227405312 ∧ fg r * v < A ∧ (A < fg t * v ∨ t = 9218868437227405312))
theorem cmpI_ge0 {a b : Nat} (h : 0 ≤ cmpI a b) : b ≤ a := by unfold cmpI at h; split at h <;> omega
theorem cmpI_le0 {a b : Nat} (h : cmpI a b ≤ 0) : a ≤ b := by
  unfold cmpI at h
  split at h
  · omega
  · split at h <;> omega
/-- a cut's rung -/
structure CutR (u v m : Nat) (E : Int) (more : Bool) (half : Int) (r : Nat) : Prop where
  here : ldR m E = r
  next : ldR (m + 1) E = r + 1
  lt : r < 9218868437227405312
  low : fg r * v ≤ u * 2 ^ E74
  high : u * 2 ^ E74 < fg (r + 1) * v
  more : more = decide (fg r * v ≠ u * 2 ^ E74)
  half : half = cmpI (u * 2 ^ E74 * 2) ((fg r + fg (r + 1)) * v)
theorem cut_rung {u v m : Nat} {E half : Int} {more : Bool} (h : CutOK 53 (-1074) 971 u v m E more half false) : CutR u v m E more half ((E + 1074).toNat * 4503599627370496 + m) := by
  have hb : m < 9007199254740992 := h.bits
  have h1 := h.lo
  have h2 := h.most rfl
  have h3 : E = -1074 ∨ 4503599627370496 ≤ m := h.full rfl
  have f1 := fg_rung (k := (E + 1074).toNat) hb (by omega)
  have f2 := fg_next (k := (E + 1074).toNat) hb (by omega)
  have h4 := h.low rfl
  have h5 := h.high rfl
  have h6 := h.more rfl
  have h7 := h.half rfl
  refine ⟨ldR_rung (by omega) h1 h2 h3, ?_, by omega, by rw [f1]; exact h4, by rw [f2]; exact h5, by rw [f1]; exact h6, ?_⟩
  · rw [ldR_rung (by omega) h1 h2 (by omega)]; omega
  · rw [f1, f2, h7, ← Nat.add_mul, show m + (m + 1) = 2 * m + 1 by omega]
theorem near_of_cut {u v m : Nat} {E half : Int} {more far : Bool} (h : CutOK 53 (-1074) 971 u v m E more half far) : Near (u * 2 ^ E74) v (rndR m E half far) := by
  cases far with
  | true => exact .inl ⟨if_pos rfl, by rw [fg_inf]; exact h.great rfl⟩
  | false =>
    have hr := cut_rung h
    generalize (E + 1074).toNat * 4503599627370496 + m = r at *
    refine .inr ⟨r, hr.lt, hr.low, hr.high, ?_⟩
    have hh := hr.half
    unfold rndR rup
    rw [if_neg (by decide)]
    by_cases h8 : 0 < half ∨ (half = 0 ∧ m % 2 = 1)
    · rw [if_pos h8, hr.next]
      exact .inr ⟨rfl, cmpI_ge0 (by omega)⟩
    · rw [if_neg h8, hr.here]
      exact .inl ⟨rfl, cmpI_le0 (by omega)⟩
theorem arnd_of_cut {u v m : Nat} {E half : Int} {more far : Bool} (hv : v ≠ 0) (h : CutOK 53 (-1074) 971 u v m E more half far) : Arnd (u * 2 ^ E74) v (arR m E far) (arT m E more far) := by
  cases far with
  | true =>
    have h1 := h.great rfl
    rw [← fg_inf] at h1
    have h2 := Nat.mul_lt_mul_of_pos_right (fg_lt_iff.2 (show 9218868437227405311 < 9218868437227405312 by decide)) (Nat.pos_of_ne_zero hv)
    refine .inr ⟨rfl, ?_, ?_, .inr rfl⟩
    · show 9218868437227405311 < 9218868437227405312; decide
    · exact Nat.lt_of_lt_of_le h2 h1
  | false =>
    have hr := cut_rung h
    generalize (E + 1074).toNat * 4503599627370496 + m = r at *
    have h1 := hr.more
    have h2 := hr.low
    unfold arR arT
    rw [if_neg (by decide), if_neg (by decide), hr.here, hr.next]
    cases more with
    | true =>
      have h3 := of_decide_eq_true h1.symm
      exact .inr ⟨if_pos rfl, hr.lt, by omega, .inl (by rw [if_pos rfl]; exact hr.high)⟩
    | false =>
      have h3 := of_decide_eq_false h1.symm
      exact .inl ⟨if_neg (by decide), hr.lt, by omega⟩
/-- the nearest is one of the two -/
theorem near_in {A v p r t : Nat} (hv : v ≠ 0) (h : Near A v p) (ha : Arnd A v r t) : p = r ∨ p = t := by
  have mul : ∀ {x y : Nat}, fg x * v < fg y * v → x < y := fun {x y} h => fg_lt_iff.1 (Nat.lt_of_mul_lt_mul_right h)
  rcases h with ⟨rfl, h1⟩ | ⟨r', h0, h1, h2, h3⟩
  · rcases ha with ⟨rfl, h4, h5⟩ | ⟨rfl, h4, h5, h6⟩
    · have h7 := Nat.mul_lt_mul_of_pos_right (fg_lt_iff.2 h4) (Nat.pos_of_ne_zero hv)
      omega
    · rcases h6 with h6 | h6
      · have := mul (Nat.lt_of_le_of_lt h1 h6); omega
      · exact .inr h6.symm
  · rcases ha with ⟨rfl, h4, h5⟩ | ⟨rfl, h4, h5, h6⟩
    · have e1 := mul (Nat.lt_of_le_of_lt (Nat.le_of_eq h5) h2)
      have e2 : r' ≤ t := Nat.not_lt.1 fun hh => by
        have := Nat.mul_le_mul_right v (fg_mono (show t + 1 ≤ r' from hh))
        have := Nat.mul_lt_mul_of_pos_right (fg_lt_iff.2 (show t < t + 1 by omega)) (Nat.pos_of_ne_zero hv)
        omega
      have e3 : t = r' := by omega
      subst e3
      rcases h3 with ⟨h3, _⟩ | ⟨h3, h7⟩
      · exact .inl h3
      · rw [Nat.add_mul] at h7; omega
    · have e1 : r < r' + 1 := mul (Nat.lt_trans h5 h2)
      have e2 : r' ≤ r := by
        rcases h6 with h6 | h6
        · have := mul (Nat.lt_of_le_of_lt h1 h6); omega
        · omega
      have e3 : r = r' := by omega
      subst e3
      rcases h3 with ⟨h3, _⟩ | ⟨h3, _⟩
      · exact .inl h3
      · exact .inr h3
/-- of nought: nought -/
theorem cut_u0 {B v m : Nat} {L M E half : Int} {more far : Bool} (hv : v ≠ 0) (h : CutOK B L M 0 v m E more half far) : far = false ∧ m = 0 ∧ half = -1 ∧ more = false := by
  have hp := Nat.pos_of_ne_zero hv
  have hf : far = false := by
    cases far with
    | false => rfl
    | true =>
      have h1 := h.great rfl
      have h2 : 0 < top B M * v := Nat.mul_pos (Nat.pow_pos (by decide)) hp
      rw [Nat.zero_mul] at h1
      omega
  subst hf
  have h1 := h.low rfl
  have h3 := h.half rfl
  have h4 := h.more rfl
  have hq : 0 < 2 ^ (E + 1074).toNat * v := Nat.mul_pos (Nat.pow_pos (by decide)) hp
  rw [Nat.zero_mul, Nat.mul_assoc] at h1
  have hm : m = 0 := by
    refine Nat.eq_zero_of_not_pos fun h5 => ?_
    have := Nat.mul_pos h5 hq
    omega
  subst hm
  refine ⟨rfl, rfl, ?_, ?_⟩
  · rw [h3]
    unfold cmpI
    simp only [Nat.zero_mul, Nat.mul_zero, Nat.zero_add, Nat.one_mul]
    rw [if_pos hq]
  · rw [h4]
    simp only [Nat.zero_mul]
    rfl
theorem rnd_u0 {B v m : Nat} {L M E half : Int} {more far : Bool} (hv : v ≠ 0) (h : CutOK B L M 0 v m E more half far) : rndR m E half far = 0 := by
  obtain ⟨rfl, rfl, rfl, rfl⟩ := cut_u0 hv h
  unfold rndR rup
  rw [if_neg (by decide), if_neg (by decide)]
  exact if_pos rfl
theorem ldR_le {m : Nat} {e : Int} (h : m ≤ 9007199254740992) (he : -1074 ≤ e) : ldR m e ≤ 9218868437227405312 := by
  by_cases h1 : e + (m.log2 : Int) ≤ 1023
  · exact Nat.le_of_lt (fg_ldR h he h1).2
  · unfold ldR
    split
    · omega
    · rw [if_pos (by omega)]; exact Nat.le_refl _
theorem rndR_le {m : Nat} {E half : Int} {far : Bool} (h : m < 9007199254740992) (he : -1074 ≤ E) : rndR m E half far ≤ 9218868437227405312 := by
  unfold rndR
  split
  · exact Nat.le_refl _
  · exact ldR_le (rup_le h) he
end Go.NatP
/- PLAIN FACTS: a float less itself, and a float and nought. No program in sight. -/
namespace Go.FloatP
open Ieee
set_option linter.unusedVariables false

theorem signed_opp (s : Bool) (m k : Nat) : signed s m k + signed (!s) m k = 0 := by
  unfold signed
  cases s <;> simp <;> omega
theorem sub_self_fin {x : Nat} (h : fr x < 9218868437227405312) : double.sub x x = some 0 := by
  obtain ⟨m, e, hr, _⟩ := read_num h
  unfold Format.sub
  rw [hr]
  simp only [Datum.opposite, Datum.sum, signed_opp, Option.map_some, if_true]
  cases fs x <;> rfl
theorem sub_self_inf {x : Nat} (h : fr x = 9218868437227405312) : double.sub x x = none := by
  unfold Format.sub
  rw [read_inf h]
  cases fs x <;> rfl
theorem sum_z (q k j : Nat) : signed false q k + signed false 0 j = ((q * 2 ^ k : Nat) : Int) := by simp [signed, Nat.shiftLeft_eq]
theorem add_zero_fin {r : Nat} (h : r < 9218868437227405312) : double.add r 0 = some r := by
  by_cases h1 : r < 4503599627370496
  · by_cases h0 : r = 0
    · subst h0; decide +kernel
    · unfold Format.add
      rw [read_low h1, read_low (r := 0) (by decide)]
      show some (double.nearest (if signed false r 0 + signed false 0 0 = 0 then false && false else decide (signed false r 0 + signed false 0 0 < 0)) (signed false r 0 + signed false 0 0).natAbs (-1074)) = some r
      have e : signed false r 0 + signed false 0 0 = (r : Int) := by simp [signed]
      rw [e, if_neg (by omega), Int.natAbs_natCast, decide_eq_false (by omega), nearest_low _ h0 h1]
      rfl
  · obtain ⟨b, f, hr, hf, hb, hb2⟩ : ∃ b f, r = b * 4503599627370496 + f ∧ f < 4503599627370496 ∧ 1 ≤ b ∧ b ≤ 2046 := ⟨r / 4503599627370496, r % 4503599627370496, by omega, by omega, by omega, by omega⟩
    subst hr
    unfold Format.add
    rw [read_norm hb hb2 hf, read_low (r := 0) (by decide)]
    obtain ⟨q, hq⟩ : ∃ q, 4503599627370496 + f = q := ⟨_, rfl⟩
    have hm : min ((b : Int) - 1075) (-1074) = -1074 := by omega
    have hne : q * 2 ^ (((b : Int) - 1075) - -1074).toNat ≠ 0 := Nat.mul_ne_zero (by omega) (Nat.ne_of_gt (Nat.pow_pos (by decide)))
    rw [hq]
    simp only [Datum.sum, hm, sum_z, Option.map_some]
    generalize hM : q * 2 ^ (((b : Int) - 1075) - -1074).toNat = M at *
    rw [if_neg (by omega), Int.natAbs_natCast, decide_eq_false (by omega)]
    show some (double.nearest false M (-1074)) = _
    rw [nearest_exact (q := q) (p := (b : Int) - 1075) false (by omega) (by omega) (by omega) (by omega) (.inl ⟨by omega, hM.symm⟩)]
    show some (((b : Int) - 1075 + 1074).toNat * 4503599627370496 + q) = _
    exact congrArg some (by omega)
theorem add_zero_neg : double.add 9223372036854775808 0 = some 0 := by decide +kernel
end Go.FloatP
/- PLAIN LAW: a float's value is nearest to the float; a float of 32 bits comes back from its word of 64. No program in sight. -/
namespace Go.NatP
open Go.FloatP Ieee
set_option linter.unusedVariables false

theorem flV_cross (s : Bool) (r : Nat) : (flV s r).num.natAbs * 2 ^ E74 = fg r * (flV s r).den := by
  have h2 := two_ne E74
  have h := (Rat.mkRat_eq_iff (n₁ := (flV s r).num) (n₂ := zv s (fg r)) (flV s r).den_nz h2).1 (by rw [Rat.mkRat_self]; rfl)
  have h3 := congrArg Int.natAbs h
  rw [Int.natAbs_mul, Int.natAbs_mul, zv_abs] at h3
  simpa using h3
theorem flV_neg (s : Bool) (r : Nat) : decide ((flV s r).num < 0) = (s && decide (r ≠ 0)) := by
  have h2 := two_ne E74
  have h := (Rat.mkRat_eq_iff (n₁ := (flV s r).num) (n₂ := zv s (fg r)) (flV s r).den_nz h2).1 (by rw [Rat.mkRat_self]; rfl)
  have hd : (0 : Int) < ((flV s r).den : Int) := by have := (flV s r).den_pos; omega
  have ht : (0 : Int) < ((2 ^ E74 : Nat) : Int) := by have := Nat.pos_of_ne_zero h2; omega
  generalize (flV s r).num = n at *
  generalize ((flV s r).den : Int) = d at *
  generalize ((2 ^ E74 : Nat) : Int) = T at *
  by_cases h0 : r = 0
  · subst h0
    have hz : zv s (fg 0) = 0 := by cases s <;> decide
    rw [hz, Int.zero_mul] at h
    have : n = 0 := by
      rcases Int.mul_eq_zero.1 h with h | h <;> omega
    subst this
    simp
  · have hp : 0 < fg r := by have := fg_lt_iff.2 (show 0 < r by omega); have : fg 0 = 0 := rfl; omega
    cases s
    · simp only [Bool.false_and]
      refine decide_eq_false fun hn => ?_
      have h5 : n * T < 0 := Int.mul_neg_of_neg_of_pos hn ht
      have h6 : 0 ≤ zv false (fg r) * d := Int.mul_nonneg (by unfold zv; simp) (by omega)
      omega
    · simp only [Bool.true_and, ne_eq, h0, not_false_iff, decide_true]
      refine decide_eq_true ?_
      have h6 : zv true (fg r) * d < 0 := Int.mul_neg_of_neg_of_pos (by unfold zv; simp; omega) hd
      refine Int.not_le.1 fun hn => ?_
      have h5 : 0 ≤ n * T := Int.mul_nonneg hn (by omega)
      omega
theorem arnd_exact {v r r' t : Nat} (hv : v ≠ 0) (hr : r < 9218868437227405312) (h : Arnd (fg r * v) v r' t) : r' = r ∧ t = r := by
  have hp := Nat.pos_of_ne_zero hv
  have mul : ∀ {x y : Nat}, fg x * v < fg y * v → x < y := fun {x y} h => fg_lt_iff.1 (Nat.lt_of_mul_lt_mul_right h)
  rcases h with ⟨rfl, h1, h2⟩ | ⟨rfl, h1, h2, h3⟩
  · have h4 := Nat.eq_of_mul_eq_mul_right hp h2
    rcases Nat.lt_trichotomy t r with h5 | h5 | h5
    · have := fg_lt_iff.2 h5; omega
    · exact ⟨h5, h5⟩
    · have := fg_lt_iff.2 h5; omega
  · have h4 := mul h2
    rcases h3 with h3 | h3
    · have := mul h3; omega
    · omega
theorem near_exact {v r p : Nat} (hv : v ≠ 0) (hr : r < 9218868437227405312) (h : Near (fg r * v) v p) : p = r := by
  have hp := Nat.pos_of_ne_zero hv
  have h1 : Arnd (fg r * v) v r r := .inl ⟨rfl, hr, rfl⟩
  rcases near_in hv h h1 with h | h <;> exact h

/-! ### words of 32 bits -/
theorem single_exact (s : Bool) {m q : Nat} {e p : Int} (h0 : q ≠ 0) (h2 : q < 16777216) (hp : -149 ≤ p) (hp2 : p ≤ 104) (hf : p = -149 ∨ 8388608 ≤ q)
    (hm : (e ≤ p ∧ m = q * 2 ^ (p - e).toNat) ∨ (p ≤ e ∧ q = m * 2 ^ (e - p).toNat)) :
    single.nearest s m e = single.word s (min ((p + 149).toNat * 8388608 + q) 2139095040) := by
  have hbi : single.binade = 8388608 := by decide
  have hin : single.infRung = 2139095040 := by decide
  have hlp : single.leastPlace = -149 := by decide
  have hfb : single.fractionBits = 23 := rfl
  unfold Format.nearest
  have hm0 : m ≠ 0 := by
    rcases hm with ⟨_, rfl⟩ | ⟨_, rfl⟩
    · exact Nat.mul_ne_zero h0 (Nat.ne_of_gt (Nat.pow_pos (by decide)))
    · intro h; rw [h, Nat.zero_mul] at h0; omega
  rw [if_neg hm0]
  simp only [hbi, hin, hlp, hfb]
  have hlog : e + (m.log2 : Int) = p + q.log2 := by
    rcases hm with ⟨h, rfl⟩ | ⟨h, he⟩
    · rw [log2_shift h0]; omega
    · have := log2_shift (k := (e - p).toNat) hm0
      rw [← he] at this
      omega
  have hl : q.log2 < 24 := (Nat.log2_lt h0).2 (by simpa using h2)
  have hl2 : p = -149 ∨ 23 ≤ q.log2 := by
    rcases hf with h | h
    · exact .inl h
    · exact .inr ((Nat.le_log2 h0).2 (by simpa using h))
  have hmax : max (e + (m.log2 : Int) - ((23 : Nat) : Int)) (-149) = p := by omega
  rw [hmax]
  have hkept : Toward.even.cut s (m <<< (e - p).toNat) (p - e).toNat = q := by
    rcases hm with ⟨h, rfl⟩ | ⟨h, he⟩
    · rw [show (e - p).toNat = 0 by omega, Nat.shiftLeft_zero]
      exact cut_exact s q _ h0
    · rw [show (p - e).toNat = 0 by omega, cut0, Nat.shiftLeft_eq, ← he]
  rw [hkept, show (p - -149).toNat = (p + 149).toNat by omega]
/-- what a word of 32 bits is: its sign, its number, its place -/
theorem read32' {x : Nat} (hx : x < 4294967296) (hn : nan32 x = false) (hfin : fr (c32 x) < 9218868437227405312) :
    ∃ (s : Bool) (m : Nat) (e : Int), single.read x = .number s m e ∧ m < 16777216 ∧ -149 ≤ e ∧ e ≤ 104 ∧ (e = -149 ∨ 8388608 ≤ m) ∧ single.word s ((e + 149).toNat * 8388608 + m) = x ∧ (e + 149).toNat * 8388608 + m < 2139095040 := by
  have hsw : single.signWeight = 2147483648 := by decide
  have hbi : single.binade = 8388608 := by decide
  have hin : single.infRung = 2139095040 := by decide
  have hlp : single.leastPlace = -149 := by decide
  have hw : ∀ (r : Nat), single.word (x / 2147483648 % 2 == 1) r = (if x / 2147483648 % 2 = 1 then 2147483648 + r else r) := fun r => by
    unfold Format.word
    rw [hsw]
    simp
  by_cases h1 : x % 2147483648 < 8388608
  · refine ⟨x / 2147483648 % 2 == 1, x % 2147483648, -149, ?_, by omega, by omega, by omega, .inl rfl, ?_, by omega⟩
    · unfold Format.read
      simp only [hsw, hbi, hin, hlp]
      rw [if_pos h1]
    · have e0 : ((-149 : Int) + 149).toNat * 8388608 + x % 2147483648 = x % 2147483648 := by rw [show ((-149 : Int) + 149).toNat = 0 by decide, Nat.zero_mul, Nat.zero_add]
      rw [hw, e0]
      clear hw e0 hfin
      split <;> omega
  · by_cases h2 : x % 2147483648 < 2139095040
    · refine ⟨x / 2147483648 % 2 == 1, 8388608 + x % 2147483648 % 8388608, -149 + ((x % 2147483648 / 8388608 - 1 : Nat) : Int), ?_, by omega, by omega, by omega, .inr (by omega), ?_, by omega⟩
      · unfold Format.read
        simp only [hsw, hbi, hin, hlp]
        rw [if_neg h1, if_pos h2]
      · rw [hw]; split <;> omega
    · exfalso
      unfold nan32 at hn
      have h3 := of_decide_eq_false hn
      have hr : ∃ s, single.read x = .infinity s := ⟨x / 2147483648 % 2 == 1, by
        unfold Format.read
        simp only [hsw, hbi, hin, hlp]
        rw [if_neg h1, if_neg h2, if_pos (by omega)]⟩
      obtain ⟨s, hr⟩ := hr
      unfold c32 at hfin
      rw [hr] at hfin
      have hw2 : double.write (.infinity s) = double.word s 9218868437227405312 := by
        show double.word s double.infRung = _
        rw [show double.infRung = 9218868437227405312 by decide]
      rw [hw2, word_fr s (show 9218868437227405312 < 9223372036854775808 by omega)] at hfin
      exact absurd hfin (Nat.lt_irrefl _)
/-- the word of 64 bits -/
theorem nearest_val (s : Bool) {m : Nat} {e : Int} (h0 : m ≠ 0) (hm : m < 16777216) (h1 : -149 ≤ e) (h2 : e ≤ 104) :
    ∃ r, double.nearest s m e = double.word s r ∧ r ≠ 0 ∧ r < 9218868437227405312 ∧ fg r = m * 2 ^ (e + 1074).toNat := by
  obtain ⟨q, hq⟩ := dig_of h0 (by omega)
  have hb : m.log2 < 24 := (Nat.log2_lt h0).2 (by simpa using hm)
  have hq1 := hq.lo
  have hq2 := hq.hi
  generalize m.log2 = b at *
  have hqe : q = m * 2 ^ (52 - b) := by
    have := hq.eq
    rw [show (2 : Nat) ^ 52 = 2 ^ (52 - b) * 2 ^ b by rw [← Nat.pow_add, show 52 - b + b = 52 by omega], ← Nat.mul_assoc] at this
    exact Nat.eq_of_mul_eq_mul_right (Nat.pow_pos (by decide)) this
  have h3 := nearest_exact (q := q) (p := e + b - 52) (m := m) (e := e) s hq1 hq2 (by omega) (by omega) (.inr ⟨by omega, by rw [hqe, show (e - (e + (b : Int) - 52)).toNat = 52 - b by omega]⟩)
  refine ⟨_, h3, by omega, by omega, ?_⟩
  rw [fg_rung hq2 (.inr hq1), hqe, Nat.mul_assoc, ← Nat.pow_add, show 52 - b + (e + (b : Int) - 52 + 1074).toNat = (e + 1074).toNat by omega]
structure S32 (x m : Nat) (e : Int) : Prop where
  bits : m < 16777216
  lo : -149 ≤ e
  hi : e ≤ 104
  full : e = -149 ∨ 8388608 ≤ m
  val : fg (fr (c32 x)) = m * 2 ^ (e + 1074).toNat
  back : fr (c32 x) ≠ 0 → floatToFloatBits .f64 (c32 x) .f32 = some x
  self : (FloatKind.f32.format.order x x == some .eq) = true
  zero : fr (c32 x) = 0 → (FloatKind.f32.format.order 0 x == some .eq) = true
theorem s32_of {x : Nat} (hx : x < 4294967296) (hn : nan32 x = false) (hfin : fr (c32 x) < 9218868437227405312) : ∃ m e, S32 x m e := by
  obtain ⟨s, m, e, hr, hm, h1, h2, hf, hw, hlt⟩ := read32' hx hn hfin
  have self : (FloatKind.f32.format.order x x == some .eq) = true := by
    show (single.order x x == some .eq) = true
    unfold Format.order
    rw [hr]
    show (some (compare _ _) == some Ordering.eq) = true
    rw [compare_ic]
    unfold ic
    rw [if_neg (by omega), if_pos rfl]
    rfl
  by_cases h0 : m = 0
  · subst h0
    have hz : fr (c32 x) = 0 := by
      unfold c32
      rw [hr]
      show fr (double.nearest s 0 e) = 0
      unfold Format.nearest
      rw [if_pos rfl, word_fr s (by decide)]
    refine ⟨0, e, hm, h1, h2, hf, by rw [hz]; simp [fg_low], fun h => absurd hz h, self, fun _ => ?_⟩
    show (single.order 0 x == some .eq) = true
    have hr0 : single.read 0 = .number false 0 (-149) := by decide +kernel
    unfold Format.order
    rw [hr, hr0]
    show (some (compare (signed false 0 _) (signed s 0 _)) == some Ordering.eq) = true
    rw [compare_ic, signed_eq, signed_eq]
    have e1 : ∀ b : Bool, sgd b 0 = 0 := fun b => by unfold sgd; cases b <;> rfl
    rw [e1, e1, Int.zero_mul, Int.zero_mul]
    rfl
  · obtain ⟨r, hd, hr0, hr1, hg⟩ := nearest_val s h0 hm h1 h2
    have hc : c32 x = double.word s r := by
      unfold c32
      rw [hr]
      exact hd
    have hfr : fr (c32 x) = r := by rw [hc, word_fr s (by omega)]
    refine ⟨m, e, hm, h1, h2, hf, by rw [hfr, hg], fun _ => ?_, self, fun h => absurd (hfr.symm.trans h) hr0⟩
    obtain ⟨M, j, hR, hMj⟩ := read_num (b := c32 x) (by rw [hfr]; exact hr1)
    have hs : fs (c32 x) = s := by
      rw [hc]
      have hsw : double.signWeight = 9223372036854775808 := by decide
      unfold fs Format.word
      rw [hsw]
      cases s
      · have : r / 9223372036854775808 = 0 := by omega
        simp [this]
      · have : (9223372036854775808 + r) / 9223372036854775808 = 1 := by omega
        simp [this]
    rw [hs] at hR
    rw [hfr, hg] at hMj
    have hcase : ((-1074 : Int) + j ≤ e ∧ M = m * 2 ^ (e - (-1074 + j)).toNat) ∨ (e ≤ (-1074 : Int) + j ∧ m = M * 2 ^ ((-1074 : Int) + j - e).toNat) := by
      by_cases h : (-1074 : Int) + j ≤ e
      · refine .inl ⟨h, Nat.eq_of_mul_eq_mul_right (Nat.pow_pos (n := j) (show 0 < 2 by decide)) ?_⟩
        rw [hMj, Nat.mul_assoc, ← Nat.pow_add, show (e - (-1074 + (j : Int))).toNat + j = (e + 1074).toNat by omega]
      · refine .inr ⟨by omega, Nat.eq_of_mul_eq_mul_right (Nat.pow_pos (n := (e + 1074).toNat) (show 0 < 2 by decide)) ?_⟩
        rw [← hMj, Nat.mul_assoc, ← Nat.pow_add, show ((-1074 : Int) + (j : Int) - e).toNat + (e + 1074).toNat = j by omega]
    have hb := single_exact (s := s) h0 hm h1 h2 hf hcase
    rw [Nat.min_eq_left (by omega), hw] at hb
    unfold floatToFloatBits
    rw [if_neg (by decide)]
    show (match double.read (c32 x) with | .nan _ _ => none | .infinity s => some (single.write (.infinity s)) | .number s m e => if (single.read (single.write (.number s m e))).isInfinity then none else some (single.write (.number s m e))) = some x
    rw [hR]
    show (if (single.read (single.nearest s M ((-1074 : Int) + j))).isInfinity then none else some (single.nearest s M ((-1074 : Int) + j))) = some x
    rw [hb, hr]
    rfl
/-- near.cut of a float of 32 bits, in its own kind -/
theorem cut_short {x m0 u v m : Nat} {e E half : Int} {more far : Bool} (h : S32 x m0 e) (hv : v ≠ 0) (hu : u * 2 ^ E74 = fg (fr (c32 x)) * v) (hfin : fr (c32 x) < 9218868437227405312) (hC : CutOK 24 (-149) 104 u v m E more half far) : rndR m E half far = fr (c32 x) := by
  have hp := Nat.pos_of_ne_zero hv
  have hb : m0 < 2 ^ 24 := h.bits
  have hbC := hC.bits
  have hlo := h.lo
  have hhi := h.hi
  rw [h.val] at hu
  have hfar : far = false := by
    cases far with
    | false => rfl
    | true =>
      have h1 := hC.great rfl
      rw [hu] at h1
      have h2 := Nat.le_of_mul_le_mul_right h1 hp
      have h3 : m0 * 2 ^ (e + 1074).toNat < 2 ^ 24 * 2 ^ (e + 1074).toNat := Nat.mul_lt_mul_of_pos_right hb (Nat.pow_pos (by decide))
      rw [← Nat.pow_add] at h3
      have h4 : (2 : Nat) ^ (24 + (e + 1074).toNat) ≤ top 24 104 := Nat.pow_le_pow_right (by decide) (by show 24 + (e + 1074).toNat ≤ ((24 : Nat) + 1074 + (104 : Int)).toNat; omega)
      omega
  subst hfar
  have l1 := hC.low rfl
  have l2 := hC.high rfl
  have l3 := hC.full rfl
  have l4 := hC.lo
  rw [hu] at l1 l2
  have l1' := Nat.le_of_mul_le_mul_right l1 hp
  have l2' := Nat.lt_of_mul_lt_mul_right l2
  have hE : E = e := by
    rcases Int.lt_trichotomy E e with hlt | heq | hgt
    · exfalso
      have h5 : 2 ^ 23 ≤ m0 := by rcases h.full with h | h <;> first | omega | exact h
      have h6 : (m + 1) * 2 ^ (E + 1074).toNat ≤ 2 ^ 24 * 2 ^ (E + 1074).toNat := Nat.mul_le_mul_right _ hbC
      have h7 : 2 ^ 23 * 2 ^ (e + 1074).toNat ≤ m0 * 2 ^ (e + 1074).toNat := Nat.mul_le_mul_right _ h5
      rw [← Nat.pow_add] at h6 h7
      have h8 : (2 : Nat) ^ (24 + (E + 1074).toNat) ≤ 2 ^ (23 + (e + 1074).toNat) := Nat.pow_le_pow_right (by decide) (by omega)
      omega
    · exact heq
    · exfalso
      have h5 : 2 ^ 23 ≤ m := by rcases l3 with h | h <;> first | omega | exact h
      have h6 : m0 * 2 ^ (e + 1074).toNat < 2 ^ 24 * 2 ^ (e + 1074).toNat := Nat.mul_lt_mul_of_pos_right hb (Nat.pow_pos (by decide))
      have h7 : 2 ^ 23 * 2 ^ (E + 1074).toNat ≤ m * 2 ^ (E + 1074).toNat := Nat.mul_le_mul_right _ h5
      rw [← Nat.pow_add] at h6 h7
      have h8 : (2 : Nat) ^ (24 + (e + 1074).toNat) ≤ 2 ^ (23 + (E + 1074).toNat) := Nat.pow_le_pow_right (by decide) (by omega)
      omega
  subst hE
  have hq : 0 < 2 ^ (E + 1074).toNat := Nat.pow_pos (by decide)
  have hm : m = m0 := by
    have a1 := Nat.le_of_mul_le_mul_right l1' hq
    have a2 := Nat.lt_of_mul_lt_mul_right l2'
    omega
  subst hm
  have hh : half < 0 := by
    rw [hC.half rfl, hu]
    unfold cmpI
    have h9 : m * 2 ^ (E + 1074).toNat * v * 2 < (2 * m + 1) * 2 ^ (E + 1074).toNat * v := by
      have h10 : (2 * m + 1) * 2 ^ (E + 1074).toNat * v = m * 2 ^ (E + 1074).toNat * v * 2 + 2 ^ (E + 1074).toNat * v := by
        rw [Nat.add_mul, Nat.add_mul, Nat.one_mul, Nat.mul_assoc 2, Nat.mul_assoc 2]; omega
      have h11 := Nat.mul_pos hq hp
      omega
    rw [if_pos h9]
    decide
  unfold rndR rup
  rw [if_neg (by decide), if_neg (by omega)]
  have hl : E + (m.log2 : Int) ≤ 1023 := by
    by_cases h0 : m = 0
    · subst h0; have : Nat.log2 0 = 0 := by decide
      omega
    · have : m.log2 < 24 := (Nat.log2_lt h0).2 hb
      omega
  have hg := fg_ldR (m := m) (e := E) (by omega) (by omega) hl
  have h12 : fg (ldR m E) = fg (fr (c32 x)) := by rw [hg.1, h.val]
  rcases Nat.lt_trichotomy (ldR m E) (fr (c32 x)) with h | h | h
  · have := fg_lt_iff.2 h; omega
  · exact h
  · have := fg_lt_iff.2 h; omega
end Go.NatP
