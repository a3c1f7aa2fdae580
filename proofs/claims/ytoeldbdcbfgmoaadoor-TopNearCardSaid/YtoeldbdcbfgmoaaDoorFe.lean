/- PLAIN ARITHMETIC: floats written exactly: a number that the format has is written as itself; what Frexp makes of a float. No program in sight. -/
import Derived.Test.YtoeldbdcbfgmoaaDoorFa
namespace Go.FloatP
open Ieee
set_option linter.unusedVariables false

theorem log2_full {q : Nat} (h1 : 4503599627370496 ≤ q) (h2 : q < 9007199254740992) : q.log2 = 52 := by
  have h0 : q ≠ 0 := by omega
  have a := (Nat.le_log2 h0 (k := 52)).2 (by simpa using h1)
  have b := (Nat.log2_lt h0 (k := 53)).2 (by simpa using h2)
  omega
theorem log2_shift {q k : Nat} (h0 : q ≠ 0) : (q * 2 ^ k).log2 = q.log2 + k := by
  have hp : 0 < 2 ^ k := Nat.pow_pos (by decide)
  have h1 : q * 2 ^ k ≠ 0 := Nat.mul_ne_zero h0 (by omega)
  have a := (Nat.le_log2 h1 (k := q.log2 + k)).2 (by
    rw [Nat.pow_add]
    exact Nat.mul_le_mul_right _ (Nat.log2_self_le h0))
  have b := (Nat.log2_lt h1 (k := q.log2 + k + 1)).2 (by
    rw [show q.log2 + k + 1 = (q.log2 + 1) + k by omega, Nat.pow_add]
    exact Nat.mul_lt_mul_of_pos_right Nat.lt_log2_self hp)
  omega
/-- nothing is cut off -/
theorem cut_exact (s : Bool) (q k : Nat) (hq : q ≠ 0) : Toward.even.cut s (q * 2 ^ k) k = q := by
  have hp : 0 < 2 ^ k := Nat.pow_pos (by decide)
  have hl : k ≤ (q * 2 ^ k).log2 + 2 := by rw [log2_shift hq]; omega
  unfold Toward.cut
  rw [Nat.min_eq_left hl, Nat.shiftLeft_eq, Nat.one_mul]
  have h1 : q * 2 ^ k / 2 ^ k = q := Nat.mul_div_cancel _ hp
  have h2 : q * 2 ^ k % 2 ^ k = 0 := Nat.mul_mod_left _ _
  dsimp only
  rw [h1, h2]
  have h3 : ¬ (2 ^ k < 2 * 0) := by omega
  have h4 : (2 ^ k == 2 * 0) = false := by simp
  simp [h4]
/-- a number of 53 digits at a place that may be is written as it stands -/
theorem nearest_exact (s : Bool) {m q : Nat} {e p : Int} (h1 : 4503599627370496 ≤ q) (h2 : q < 9007199254740992) (hp : -1074 ≤ p) (hp2 : p ≤ 971)
    (hm : (e ≤ p ∧ m = q * 2 ^ (p - e).toNat) ∨ (p ≤ e ∧ q = m * 2 ^ (e - p).toNat)) :
    double.nearest s m e = double.word s ((p + 1074).toNat * 4503599627370496 + q) := by
  have hbi : double.binade = 4503599627370496 := by decide
  have hin : double.infRung = 9218868437227405312 := by decide
  have hlp : double.leastPlace = -1074 := by decide
  have hfb : double.fractionBits = 52 := rfl
  have hq0 : q ≠ 0 := by omega
  have hq52 := log2_full h1 h2
  unfold Format.nearest
  have hm0 : m ≠ 0 := by
    rcases hm with ⟨_, rfl⟩ | ⟨_, rfl⟩
    · exact Nat.mul_ne_zero hq0 (Nat.ne_of_gt (Nat.pow_pos (by decide)))
    · intro h; rw [h, Nat.zero_mul] at h1; omega
  rw [if_neg hm0]
  simp only [hbi, hin, hlp, hfb]
  have hlog : e + (m.log2 : Int) = p + 52 := by
    rcases hm with ⟨h, rfl⟩ | ⟨h, he⟩
    · rw [log2_shift hq0, hq52]; omega
    · have := log2_shift (k := (e - p).toNat) hm0
      rw [← he, hq52] at this
      omega
  have hmax : max (e + (m.log2 : Int) - ((52 : Nat) : Int)) (-1074) = p := by omega
  rw [hmax]
  have hkept : Toward.even.cut s (m <<< (e - p).toNat) (p - e).toNat = q := by
    rcases hm with ⟨h, rfl⟩ | ⟨h, he⟩
    · rw [show (e - p).toNat = 0 by omega, Nat.shiftLeft_zero]
      exact cut_exact s q _ hq0
    · rw [show (p - e).toNat = 0 by omega, cut0, Nat.shiftLeft_eq, ← he]
  rw [hkept, Nat.min_eq_left (by omega)]
  congr 2
/-- a small number: one that lies at the least place -/
theorem nearest_low (s : Bool) {m : Nat} (h0 : m ≠ 0) (h : m < 4503599627370496) : double.nearest s m (-1074) = double.word s m := by
  have hbi : double.binade = 4503599627370496 := by decide
  have hin : double.infRung = 9218868437227405312 := by decide
  have hlp : double.leastPlace = -1074 := by decide
  have hfb : double.fractionBits = 52 := rfl
  unfold Format.nearest
  rw [if_neg h0]
  simp only [hbi, hin, hlp, hfb]
  have hl : m.log2 < 52 := (Nat.log2_lt h0).2 (by simpa using h)
  have hmax : max (-1074 + (m.log2 : Int) - ((52 : Nat) : Int)) (-1074) = -1074 := by omega
  rw [hmax]
  simp only [Int.sub_self, Int.toNat_zero, Nat.shiftLeft_zero, Nat.zero_mul, Nat.zero_add]
  rw [cut0, Nat.min_eq_left (by omega)]

/-! ### what Frexp makes of a float above 0: 53 digits and an exponent -/
def fK (r : Nat) : Nat := if r < 4503599627370496 then r * 2 ^ (52 - r.log2) else 4503599627370496 + r % 4503599627370496
def fX (r : Nat) : Int := if r < 4503599627370496 then (r.log2 : Int) - 1073 else ((r / 4503599627370496 : Nat) : Int) - 1022
theorem log2_low {r : Nat} (h0 : r ≠ 0) (h : r < 4503599627370496) : r.log2 ≤ 51 := by
  have := (Nat.log2_lt h0 (k := 52)).2 (by simpa using h)
  omega
theorem fK_bd {r : Nat} (h0 : r ≠ 0) : 4503599627370496 ≤ fK r ∧ fK r < 9007199254740992 := by
  unfold fK
  split
  · rename_i h
    have hl := log2_low h0 h
    have a := Nat.log2_self_le h0
    have b := Nat.lt_log2_self (n := r)
    have hp : 0 < 2 ^ (52 - r.log2) := Nat.pow_pos (by decide)
    have c := Nat.mul_le_mul_right (2 ^ (52 - r.log2)) a
    have d := Nat.mul_lt_mul_of_pos_right b hp
    rw [← Nat.pow_add, show r.log2 + (52 - r.log2) = 52 by omega] at c
    rw [← Nat.pow_add, show r.log2 + 1 + (52 - r.log2) = 53 by omega] at d
    exact ⟨by simpa using c, by simpa using d⟩
  · have := Nat.mod_lt r (show 0 < 4503599627370496 by decide)
    omega
theorem fK_fg {r : Nat} (h0 : r ≠ 0) : (fX r ≤ -1021 ∧ fK r = fg r * 2 ^ (-1021 - fX r).toNat) ∨ (-1021 ≤ fX r ∧ fg r = fK r * 2 ^ (fX r + 1021).toNat) := by
  unfold fX fK fg
  by_cases h : r < 4503599627370496
  · rw [if_pos h, if_pos h, if_pos h]
    have hl := log2_low h0 h
    refine .inl ⟨by omega, ?_⟩
    rw [show (-1021 - ((r.log2 : Int) - 1073)).toNat = 52 - r.log2 by omega]
  · rw [if_neg h, if_neg h, if_neg h]
    refine .inr ⟨by omega, ?_⟩
    rw [show (((r / 4503599627370496 : Nat) : Int) - 1022 + 1021).toNat = r / 4503599627370496 - 1 by omega]
theorem fX_bd {r : Nat} (h0 : r ≠ 0) (h : r < 9218868437227405312) : -1073 ≤ fX r ∧ fX r ≤ 1024 := by
  unfold fX
  split
  · rename_i h1
    have := log2_low h0 h1
    omega
  · omega

/-! ### the products, and the whole number of a float -/
theorem read_low {r : Nat} (h : r < 4503599627370496) : double.read r = .number false r (-1074) := by
  have hbi : double.binade = 4503599627370496 := by decide
  have hlp : double.leastPlace = -1074 := by decide
  have hsw : double.signWeight = 9223372036854775808 := by decide
  unfold Format.read
  simp only [hbi, hlp, hsw]
  have h1 : r / 9223372036854775808 = 0 := by omega
  have h2 : r % 9223372036854775808 = r := by omega
  rw [h1, h2, if_pos h]
  rfl
theorem read_norm {b f : Nat} (hb : 1 ≤ b) (hb2 : b ≤ 2046) (hf : f < 4503599627370496) : double.read (b * 4503599627370496 + f) = .number false (4503599627370496 + f) ((b : Int) - 1075) := by
  have hbi : double.binade = 4503599627370496 := by decide
  have hlp : double.leastPlace = -1074 := by decide
  have hin : double.infRung = 9218868437227405312 := by decide
  have hsw : double.signWeight = 9223372036854775808 := by decide
  unfold Format.read
  simp only [hbi, hlp, hsw, hin]
  have h1 : (b * 4503599627370496 + f) / 9223372036854775808 = 0 := by omega
  have h2 : (b * 4503599627370496 + f) % 9223372036854775808 = b * 4503599627370496 + f := by omega
  have h3 : (b * 4503599627370496 + f) / 4503599627370496 = b := by omega
  have h4 : (b * 4503599627370496 + f) % 4503599627370496 = f := by omega
  rw [h1, h2, if_neg (by omega), if_pos (by omega), h3, h4]
  congr 1
  omega
theorem mul52 {r : Nat} (h0 : r ≠ 0) (h : r < 4503599627370496) : double.mul r 4841369599423283200 = some (r.log2 * 4503599627370496 + fK r) := by
  have hl := log2_low h0 h
  obtain ⟨hk1, hk2⟩ := fK_bd h0
  have hK : fK r = r * 2 ^ (52 - r.log2) := if_pos h
  unfold Format.mul
  rw [read_low h, show (4841369599423283200 : Nat) = 1075 * 4503599627370496 + 0 from rfl, read_norm (by decide) (by decide) (by decide)]
  show some (double.nearest (false ^^ false) (r * (4503599627370496 + 0)) (-1074 + (((1075 : Nat) : Int) - 1075))) = _
  rw [nearest_exact (q := fK r) (p := -1074 + (r.log2 : Int)) _ hk1 hk2 (by omega) (by omega) (.inl ⟨by omega, by
    rw [hK, Nat.mul_assoc, ← Nat.pow_add, show 52 - r.log2 + (-1074 + (r.log2 : Int) - (-1074 + (((1075 : Nat) : Int) - 1075))).toNat = 52 by omega]⟩)]
  rw [show (-1074 + (r.log2 : Int) + 1074).toNat = r.log2 by omega]
  rfl
theorem mul53 {K : Nat} (h1 : 4503599627370496 ≤ K) (h2 : K < 9007199254740992) : double.mul (1022 * 4503599627370496 + (K - 4503599627370496)) 4845873199050653696 = some (1074 * 4503599627370496 + K) := by
  unfold Format.mul
  rw [read_norm (b := 1022) (by decide) (by decide) (by omega), show (4845873199050653696 : Nat) = 1076 * 4503599627370496 + 0 from rfl, read_norm (by decide) (by decide) (by decide)]
  show some (double.nearest (false ^^ false) ((4503599627370496 + (K - 4503599627370496)) * (4503599627370496 + 0)) ((((1022 : Nat) : Int) - 1075) + (((1076 : Nat) : Int) - 1075))) = _
  rw [nearest_exact (q := K) (p := 0) _ h1 h2 (by omega) (by omega) (.inl ⟨by omega, by
    rw [show 4503599627370496 + (K - 4503599627370496) = K by omega, show (0 - ((((1022 : Nat) : Int) - 1075) + (((1076 : Nat) : Int) - 1075))).toNat = 52 by omega]⟩)]
  rfl
theorem toInt_whole {K : Nat} (h1 : 4503599627370496 ≤ K) (h2 : K < 9007199254740992) : (double.read (1074 * 4503599627370496 + K)).toInt .zero = some (K : Int) := by
  rw [show 1074 * 4503599627370496 + K = 1075 * 4503599627370496 + (K - 4503599627370496) by omega, read_norm (b := 1075) (by decide) (by decide) (by omega)]
  rw [show 4503599627370496 + (K - 4503599627370496) = K by omega]
  unfold Datum.toInt Datum.integral
  show some (signed false (Toward.zero.cut false (K <<< (((1075 : Nat) : Int) - 1075).toNat) (-(((1075 : Nat) : Int) - 1075)).toNat) 0) = _
  rw [show (((1075 : Nat) : Int) - 1075).toNat = 0 from rfl, show (-(((1075 : Nat) : Int) - 1075)).toNat = 0 from rfl, Nat.shiftLeft_zero]
  have hc : Toward.zero.cut false K 0 = K := by
    unfold Toward.cut
    simp
  rw [hc]
  unfold signed
  simp
end Go.FloatP
