/- PLAIN FACTS: a float less itself, and a float and nought. No program in sight. -/
import Derived.Test.YtdjicmpanfnajaaDoorFe
namespace Go.FloatP
open Ieee
set_option linter.unusedVariables false

theorem signed_opp (s : Bool) (m k : Nat) : signed s m k + signed (!s) m k = 0 := by
  unfold signed
  cases s <;> simp <;> omega
theorem sub_self_fin {x : Nat} (h : fr x < 9218868437227405312) : double.sub x x = some 0 := by
  obtain ⟨m, e, hr, _⟩ := read_num h
  unfold Format.sub
  rw [hr]
  simp only [Datum.opposite, Datum.sum, signed_opp, Option.map_some, if_true]
  cases fs x <;> rfl
theorem sub_self_inf {x : Nat} (h : fr x = 9218868437227405312) : double.sub x x = none := by
  unfold Format.sub
  rw [read_inf h]
  cases fs x <;> rfl
theorem sum_z (q k j : Nat) : signed false q k + signed false 0 j = ((q * 2 ^ k : Nat) : Int) := by simp [signed, Nat.shiftLeft_eq]
theorem add_zero_fin {r : Nat} (h : r < 9218868437227405312) : double.add r 0 = some r := by
  by_cases h1 : r < 4503599627370496
  · by_cases h0 : r = 0
    · subst h0; decide +kernel
    · unfold Format.add
      rw [read_low h1, read_low (r := 0) (by decide)]
      show some (double.nearest (if signed false r 0 + signed false 0 0 = 0 then false && false else decide (signed false r 0 + signed false 0 0 < 0)) (signed false r 0 + signed false 0 0).natAbs (-1074)) = some r
      have e : signed false r 0 + signed false 0 0 = (r : Int) := by simp [signed]
      rw [e, if_neg (by omega), Int.natAbs_natCast, decide_eq_false (by omega), nearest_low _ h0 h1]
      rfl
  · obtain ⟨b, f, hr, hf, hb, hb2⟩ : ∃ b f, r = b * 4503599627370496 + f ∧ f < 4503599627370496 ∧ 1 ≤ b ∧ b ≤ 2046 := ⟨r / 4503599627370496, r % 4503599627370496, by omega, by omega, by omega, by omega⟩
    subst hr
    unfold Format.add
    rw [read_norm hb hb2 hf, read_low (r := 0) (by decide)]
    obtain ⟨q, hq⟩ : ∃ q, 4503599627370496 + f = q := ⟨_, rfl⟩
    have hm : min ((b : Int) - 1075) (-1074) = -1074 := by omega
    have hne : q * 2 ^ (((b : Int) - 1075) - -1074).toNat ≠ 0 := Nat.mul_ne_zero (by omega) (Nat.ne_of_gt (Nat.pow_pos (by decide)))
    rw [hq]
    simp only [Datum.sum, hm, sum_z, Option.map_some]
    generalize hM : q * 2 ^ (((b : Int) - 1075) - -1074).toNat = M at *
    rw [if_neg (by omega), Int.natAbs_natCast, decide_eq_false (by omega)]
    show some (double.nearest false M (-1074)) = _
    rw [nearest_exact (q := q) (p := (b : Int) - 1075) false (by omega) (by omega) (by omega) (by omega) (.inl ⟨by omega, hM.symm⟩)]
    show some (((b : Int) - 1075 + 1074).toNat * 4503599627370496 + q) = _
    exact congrArg some (by omega)
theorem add_zero_neg : double.add 9223372036854775808 0 = some 0 := by decide +kernel
end Go.FloatP
