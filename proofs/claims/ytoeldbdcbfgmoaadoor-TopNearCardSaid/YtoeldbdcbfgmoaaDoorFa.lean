/- PLAIN ARITHMETIC: words of floats: their order, their places; words of 32 bits as words of 64. No program in sight. -/
import Derived.Laws.Cover2
import Derived.Laws.FloatArith
namespace Go.FloatP
open Ieee
set_option linter.unusedVariables false

/-- the sign and the rung of a word of 64 bits -/
def fs (b : Nat) : Bool := b / 9223372036854775808 % 2 == 1
def fr (b : Nat) : Nat := b % 9223372036854775808
def fnan (b : Nat) : Bool := decide (9218868437227405312 < fr b)
/-- a rung's number, in units of the least place -/
def fg (r : Nat) : Nat := if r < 4503599627370496 then r else (4503599627370496 + r % 4503599627370496) * 2 ^ (r / 4503599627370496 - 1)
theorem fg_low {r : Nat} (h : r < 4503599627370496) : fg r = r := if_pos h
theorem fg_mono_succ {r s : Nat} (h : r < s) : fg r < fg s := by
  unfold fg
  have hd := Nat.div_add_mod r 4503599627370496
  have hd' := Nat.div_add_mod s 4503599627370496
  have hm := Nat.mod_lt r (show 0 < 4503599627370496 by decide)
  have hm' := Nat.mod_lt s (show 0 < 4503599627370496 by decide)
  generalize r / 4503599627370496 = q at *
  generalize r % 4503599627370496 = m at *
  generalize s / 4503599627370496 = q' at *
  generalize s % 4503599627370496 = m' at *
  by_cases h1 : r < 4503599627370496
  · rw [if_pos h1]
    by_cases h2 : s < 4503599627370496
    · rw [if_pos h2]; exact h
    · rw [if_neg h2]
      have : 4503599627370496 + m' ≤ (4503599627370496 + m') * 2 ^ (q' - 1) := Nat.le_mul_of_pos_right _ (Nat.pow_pos (by decide))
      omega
  · rw [if_neg h1, if_neg (by omega)]
    by_cases h3 : q = q'
    · subst h3
      exact Nat.mul_lt_mul_of_pos_right (by omega) (Nat.pow_pos (by decide))
    · have h4 : q + 1 ≤ q' := by omega
      have h5 : (4503599627370496 + m) * 2 ^ (q - 1) < (4503599627370496 * 2) * 2 ^ (q - 1) := Nat.mul_lt_mul_of_pos_right (by omega) (Nat.pow_pos (by decide))
      have h6 : (4503599627370496 * 2) * 2 ^ (q - 1) = 4503599627370496 * 2 ^ q := by
        rw [Nat.mul_assoc, ← Nat.pow_succ', show (q - 1).succ = q by omega]
      have h7 : 4503599627370496 * 2 ^ q ≤ 4503599627370496 * 2 ^ (q' - 1) := Nat.mul_le_mul_left _ (Nat.pow_le_pow_right (by decide) (by omega))
      have h8 : 4503599627370496 * 2 ^ (q' - 1) ≤ (4503599627370496 + m') * 2 ^ (q' - 1) := Nat.mul_le_mul_right _ (by omega)
      omega
theorem fg_lt_iff {r s : Nat} : fg r < fg s ↔ r < s := by
  constructor
  · intro h
    rcases Nat.lt_trichotomy r s with h1 | h1 | h1
    · exact h1
    · subst h1; omega
    · have := fg_mono_succ h1; omega
  · exact fg_mono_succ
/-- a number by its sign and its rung: which is greater -/
def fk (b : Nat) : Int := if fs b then -(fr b : Int) else fr b
def ic (a b : Int) : Ordering := if a < b then .lt else if a = b then .eq else .gt
theorem compare_ic (a b : Int) : compare a b = ic a b := rfl
def sgd (s : Bool) (n : Nat) : Int := if s then -(n : Int) else n
theorem ic_fg (s t : Bool) (x y : Nat) : ic (sgd s (fg x)) (sgd t (fg y)) = ic (sgd s x) (sgd t y) := by
  have h0 : fg 0 = 0 := rfl
  have h1 := @fg_lt_iff x y
  have h2 := @fg_lt_iff y x
  have h3 := @fg_lt_iff 0 x
  have h4 := @fg_lt_iff 0 y
  rw [h0] at h3 h4
  unfold ic sgd
  cases s <;> cases t <;> simp only [if_true, if_false, Bool.false_eq_true]
  all_goals
    generalize fg x = a at *
    generalize fg y = b at *
    split <;> split <;> (try split) <;> (try split) <;> first | rfl | (exfalso; omega)
theorem ic_scale (a b : Int) (k : Nat) : ic (a * 2 ^ k) (b * 2 ^ k) = ic a b := by
  have hp : (0 : Int) < 2 ^ k := Int.pow_pos (by decide)
  have h1 : a * 2 ^ k < b * 2 ^ k ↔ a < b := Int.mul_lt_mul_right hp
  have h2 : a * 2 ^ k = b * 2 ^ k ↔ a = b := ⟨fun h => Int.eq_of_mul_eq_mul_right (by omega) h, fun h => by rw [h]⟩
  unfold ic
  simp only [h1, h2]
theorem signed_eq (s : Bool) (m k : Nat) : signed s m k = sgd s m * 2 ^ k := by
  unfold signed sgd
  rw [Nat.shiftLeft_eq]
  split
  · push_cast; rw [Int.neg_mul]
  · push_cast; rfl
/-- a word that is no NaN and no infinity, as a number -/
theorem read_num {b : Nat} (h : fr b < 9218868437227405312) : ∃ (m : Nat) (e : Nat), double.read b = .number (fs b) m ((-1074 : Int) + e) ∧ m * 2 ^ e = fg (fr b) := by
  have hsw : double.signWeight = 9223372036854775808 := by decide
  have hbi : double.binade = 4503599627370496 := by decide
  have hin : double.infRung = 9218868437227405312 := by decide
  have hlp : double.leastPlace = -1074 := by decide
  unfold Format.read
  simp only [hsw, hbi, hin, hlp]
  change ∃ m e, (if fr b < 4503599627370496 then Datum.number (fs b) (fr b) (-1074) else if fr b < 9218868437227405312 then Datum.number (fs b) (4503599627370496 + fr b % 4503599627370496) (-1074 + (fr b / 4503599627370496 - 1 : Nat)) else if fr b = 9218868437227405312 then Datum.infinity (fs b) else Datum.nan (fs b) (fr b - 9218868437227405312)) = _ ∧ _
  by_cases h1 : fr b < 4503599627370496
  · rw [if_pos h1]
    exact ⟨fr b, 0, by simp, by rw [fg_low h1]; simp⟩
  · rw [if_neg h1, if_pos h]
    exact ⟨_, _, rfl, by unfold fg; rw [if_neg h1]⟩
theorem read_inf {b : Nat} (h : fr b = 9218868437227405312) : double.read b = .infinity (fs b) := by
  have hsw : double.signWeight = 9223372036854775808 := by decide
  have hbi : double.binade = 4503599627370496 := by decide
  have hin : double.infRung = 9218868437227405312 := by decide
  unfold Format.read
  simp only [hsw, hbi, hin]
  change (if fr b < 4503599627370496 then _ else if fr b < 9218868437227405312 then _ else if fr b = 9218868437227405312 then Datum.infinity (fs b) else _) = _
  rw [if_neg (by omega), if_neg (by omega), if_pos h]
theorem read_nan {b : Nat} (h : 9218868437227405312 < fr b) : double.read b = .nan (fs b) (fr b - 9218868437227405312) := by
  have hsw : double.signWeight = 9223372036854775808 := by decide
  have hbi : double.binade = 4503599627370496 := by decide
  have hin : double.infRung = 9218868437227405312 := by decide
  unfold Format.read
  simp only [hsw, hbi, hin]
  change (if fr b < 4503599627370496 then _ else if fr b < 9218868437227405312 then _ else if fr b = 9218868437227405312 then _ else Datum.nan (fs b) (fr b - 9218868437227405312)) = _
  rw [if_neg (by omega), if_neg (by omega), if_neg (by omega)]
theorem order_nan {x y : Nat} (h : fnan x = true ∨ fnan y = true) : double.order x y = none := by
  unfold Format.order
  rcases h with h | h
  · rw [read_nan (of_decide_eq_true h)]; cases double.read y <;> rfl
  · rw [read_nan (of_decide_eq_true h)]; cases double.read x <;> rfl
theorem order_num {x y : Nat} (hx : fnan x = false) (hy : fnan y = false) : double.order x y = some (ic (fk x) (fk y)) := by
  have hx' : fr x ≤ 9218868437227405312 := by have := of_decide_eq_false hx; omega
  have hy' : fr y ≤ 9218868437227405312 := by have := of_decide_eq_false hy; omega
  unfold Format.order
  by_cases h1 : fr x = 9218868437227405312
  · by_cases h2 : fr y = 9218868437227405312
    · rw [read_inf h1, read_inf h2]
      unfold fk; rw [h1, h2]
      cases fs x <;> cases fs y <;> rfl
    · rw [read_inf h1]
      obtain ⟨m, e, hr, _⟩ := read_num (b := y) (by omega)
      rw [hr]
      unfold fk ic; rw [h1]
      show some (if fs x then Ordering.lt else .gt) = _
      congr 1
      cases fs x <;> cases fs y <;> simp only [if_true, if_false, Bool.false_eq_true] <;> (split <;> (try split) <;> first | rfl | (exfalso; omega))
  · by_cases h2 : fr y = 9218868437227405312
    · rw [read_inf h2]
      obtain ⟨m, e, hr, _⟩ := read_num (b := x) (by omega)
      rw [hr]
      unfold fk ic; rw [h2]
      show some (if fs y then Ordering.gt else .lt) = _
      congr 1
      cases fs x <;> cases fs y <;> simp only [if_true, if_false, Bool.false_eq_true] <;> (split <;> (try split) <;> first | rfl | (exfalso; omega))
    · obtain ⟨m, e, hr, hg⟩ := read_num (b := x) (by omega)
      obtain ⟨m', e', hr', hg'⟩ := read_num (b := y) (by omega)
      rw [hr, hr']
      show some (compare (signed (fs x) m (((-1074 : Int) + e) - min ((-1074 : Int) + e) (-1074 + e')).toNat) (signed (fs y) m' (((-1074 : Int) + e') - min ((-1074 : Int) + e) (-1074 + e')).toNat)) = _
      rw [compare_ic, signed_eq, signed_eq, show (((-1074 : Int) + e) - min ((-1074 : Int) + e) (-1074 + e')).toNat = e - min e e' by omega, show (((-1074 : Int) + e') - min ((-1074 : Int) + e) (-1074 + e')).toNat = e' - min e e' by omega]
      rw [← ic_scale _ _ (min e e'), Int.mul_assoc, Int.mul_assoc, ← Int.pow_add, ← Int.pow_add, show e - min e e' + min e e' = e by omega, show e' - min e e' + min e e' = e' by omega]
      have k : ∀ (s : Bool) (m e : Nat), sgd s m * 2 ^ e = sgd s (m * 2 ^ e) := fun s m e => by unfold sgd; split <;> push_cast <;> simp [Int.neg_mul]
      rw [k, k, hg, hg', ic_fg]
      rfl

/-- a float's place among all -/
def frank (b : Nat) : Int := if fnan b then -9223372036854775808 else if fs b then -(fr b : Int) - 1 else fr b
def ford (x y : Nat) : Int := if frank x < frank y then -1 else if frank y < frank x then 1 else 0

/-- a word of 32 bits: is it a NaN? -/
def nan32 (b : Nat) : Bool := decide (2139095040 < b % 2147483648)
theorem read32 (b : Nat) : (nan32 b = true ∧ ∃ s t, single.read b = .nan s t) ∨ (nan32 b = false ∧ ∃ s, single.read b = .infinity s) ∨ (nan32 b = false ∧ ∃ s m e, single.read b = .number s m e ∧ m < 16777216 ∧ -149 ≤ e ∧ e ≤ 104) := by
  have hsw : single.signWeight = 2147483648 := by decide
  have hbi : single.binade = 8388608 := by decide
  have hin : single.infRung = 2139095040 := by decide
  have hlp : single.leastPlace = -149 := by decide
  unfold Format.read nan32
  simp only [hsw, hbi, hin, hlp]
  generalize (b / 2147483648 % 2 == 1) = s
  generalize b % 2147483648 = r
  by_cases h1 : r < 8388608
  · rw [if_pos h1]
    exact .inr (.inr ⟨decide_eq_false (by omega), s, r, -149, rfl, by omega, by omega, by omega⟩)
  · rw [if_neg h1]
    by_cases h2 : r < 2139095040
    · rw [if_pos h2]
      exact .inr (.inr ⟨decide_eq_false (by omega), s, _, _, rfl, by omega, by omega, by omega⟩)
    · rw [if_neg h2]
      by_cases h3 : r = 2139095040
      · rw [if_pos h3]; exact .inr (.inl ⟨decide_eq_false (by omega), s, rfl⟩)
      · rw [if_neg h3]; exact .inl ⟨decide_eq_true (by omega), s, _, rfl⟩
theorem word_fr (s : Bool) {r : Nat} (h : r < 9223372036854775808) : fr (double.word s r) = r := by
  have hsw : double.signWeight = 9223372036854775808 := by decide
  unfold fr Format.word
  rw [hsw]
  split <;> omega
theorem cut0 (s : Bool) (n : Nat) : Toward.even.cut s n 0 = n := by
  unfold Toward.cut
  simp [Nat.mod_one]
theorem nearest_fin (s : Bool) {m : Nat} {e : Int} (hm : m < 16777216) (h1 : -149 ≤ e) (h2 : e ≤ 104) : fr (double.nearest s m e) < 9218868437227405312 := by
  have hbi : double.binade = 4503599627370496 := by decide
  have hin : double.infRung = 9218868437227405312 := by decide
  have hlp : double.leastPlace = -1074 := by decide
  have hfb : double.fractionBits = 52 := rfl
  unfold Format.nearest
  by_cases h0 : m = 0
  · rw [if_pos h0, word_fr s (by decide)]; decide
  · rw [if_neg h0]
    simp only [hbi, hin, hlp, hfb]
    have hl : m.log2 < 24 := (Nat.log2_lt h0).2 (by simpa using hm)
    have hlm : m < 2 ^ (m.log2 + 1) := Nat.lt_log2_self
    generalize m.log2 = l at *
    have hmax : max (e + (l : Int) - ((52 : Nat) : Int)) (-1074) = e + l - 52 := by omega
    rw [hmax, show (e - (e + (l : Int) - 52)).toNat = 52 - l by omega, show ((e + (l : Int) - 52) - e).toNat = 0 by omega, cut0, Nat.shiftLeft_eq]
    have hk : m * 2 ^ (52 - l) < 9007199254740992 := by
      have : m * 2 ^ (52 - l) < 2 ^ (l + 1) * 2 ^ (52 - l) := Nat.mul_lt_mul_of_pos_right hlm (Nat.pow_pos (by decide))
      rw [← Nat.pow_add, show l + 1 + (52 - l) = 53 by omega] at this
      simpa using this
    generalize m * 2 ^ (52 - l) = kept at *
    have hq : (e + (l : Int) - 52 - -1074).toNat ≤ 1149 := by omega
    generalize (e + (l : Int) - 52 - -1074).toNat = q at *
    have hs : q * 4503599627370496 + kept < 9218868437227405312 := by omega
    rw [Nat.min_eq_left (by omega), word_fr s (by omega)]
    exact hs
/-- the word of 64 bits of a word of 32, where it is no NaN -/
def c32 (b : Nat) : Nat := double.write (single.read b)
theorem conv32 {b : Nat} (h : nan32 b = false) : floatToFloatBits .f32 b .f64 = some (c32 b) := by
  unfold floatToFloatBits
  rw [if_neg (by decide)]
  show (match single.read b with | .nan _ _ => none | .infinity s => some (double.write (.infinity s)) | .number s m e => if (double.read (double.write (.number s m e))).isInfinity then none else some (double.write (.number s m e))) = some (double.write (single.read b))
  rcases read32 b with ⟨h1, _⟩ | ⟨_, s, hr⟩ | ⟨_, s, m, e, hr, hm, h1, h2⟩
  · rw [h] at h1; cases h1
  · rw [hr]
  · rw [hr]
    have hf := nearest_fin s hm h1 h2
    obtain ⟨m', e', hr', _⟩ := read_num hf
    have : (double.read (double.write (.number s m e))).isInfinity = false := by
      show (double.read (double.nearest s m e)).isInfinity = false
      rw [hr']; rfl
    simp only [this, Bool.false_eq_true, if_false]
theorem c32_lt (b : Nat) : c32 b < 18446744073709551616 := by
  have := double.write_lt (single.read b)
  exact Nat.lt_of_lt_of_le this (by decide)
end Go.FloatP
