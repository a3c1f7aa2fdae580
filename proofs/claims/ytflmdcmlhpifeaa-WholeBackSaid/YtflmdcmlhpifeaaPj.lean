/- PLAIN ARITHMETIC, 10: one digit of a long division, over the rows. No program in sight. -/
import Derived.Test.YtflmdcmlhpifeaaPi
namespace Go.NatP
set_option linter.unusedVariables false

theorem zero_above {S : List Nat} (h : Lim S) {k t : Nat} (hk : val S < 4294967296 ^ k) (ht : k ≤ t) : S.getD t 0 = 0 := by
  rw [getD_val h, Nat.div_eq_of_lt (Nat.lt_of_lt_of_le hk (Nat.pow_le_pow_right (by decide) ht)), Nat.zero_mod]
theorem val_all_zero {l : List Nat} (h : ∀ t, l.getD t 0 = 0) : val l = 0 := by
  induction l with
  | nil => rfl
  | cons x l ih =>
    have h0 := h 0
    have h1 : val l = 0 := ih fun t => by simpa using h (t + 1)
    simp at h0
    simp [val, h0, h1]
theorem val_take_zero {S : List Nat} {k : Nat} (h : ∀ t, k ≤ t → S.getD t 0 = 0) : val (S.take k) = val S := by
  have h1 : val S = val (S.take k ++ S.drop k) := by rw [List.take_append_drop]
  have h2 : val (S.drop k) = 0 := val_all_zero fun t => by
    have h3 := h (k + t) (by omega)
    have e : (S.drop k).getD t 0 = S.getD (k + t) 0 := by simp [List.getD_eq_getElem?_getD, List.getElem?_drop]
    rw [e]; exact h3
  rw [h1, val_append, h2]; simp

theorem two_limbs {W : Nat} (h : W < 18446744073709551616) : W / 4294967296 % 4294967296 * 4294967296 + W % 4294967296 = W := by omega
theorem three_limbs {W : Nat} (h : W < 79228162514264337593543950336) : (W / 4294967296 / 4294967296 % 4294967296 * 4294967296 + W / 4294967296 % 4294967296) * 4294967296 + W % 4294967296 = W := by omega
theorem kd_of {S lb : List Nat} {j m : Nat} (hS : Lim S) (hb : Lim lb) (hm : lb.length = m + 2) (hi : 2147483648 ≤ lb.getD (m + 1) 0) (hlt : val S < val lb * 4294967296 ^ (j + 1)) :
    KD (val S / 4294967296 ^ j) (val lb) (4294967296 ^ m) (lb.getD (m + 1) 0) (lb.getD m 0) (S.getD (j + m + 2) 0 * 4294967296 + S.getD (j + m + 1) 0) (S.getD (j + m) 0) := by
  have hp : 0 < 4294967296 ^ m := Nat.pow_pos (by decide)
  have hpj : 0 < 4294967296 ^ j := Nat.pow_pos (by decide)
  have hV := val_lt hb
  rw [hm] at hV
  have hU : val S / 4294967296 ^ j < val lb * 4294967296 := by
    rw [Nat.div_lt_iff_lt_mul hpj, Nat.mul_assoc, Nat.mul_comm 4294967296, ← Nat.pow_succ]; exact hlt
  have e1 := getD_val hb m
  have e2 := getD_val hb (m + 1)
  have f0 := getD_val hS (j + m)
  have f1 := getD_val hS (j + m + 1)
  have f2 := getD_val hS (j + m + 2)
  rw [Nat.pow_succ, ← Nat.div_div_eq_div_mul] at e2
  rw [show j + m + 2 = j + m + 1 + 1 by rfl, Nat.pow_succ, ← Nat.div_div_eq_div_mul] at f2
  rw [Nat.pow_succ, ← Nat.div_div_eq_div_mul] at f1 f2
  rw [Nat.pow_add, ← Nat.div_div_eq_div_mul] at f0 f1 f2
  have hW : val lb / 4294967296 ^ m < 18446744073709551616 := by
    rw [Nat.div_lt_iff_lt_mul hp]
    rw [Nat.pow_add] at hV
    rw [Nat.mul_comm]
    exact hV
  have hX : val S / 4294967296 ^ j / 4294967296 ^ m < 79228162514264337593543950336 := by
    rw [Nat.div_lt_iff_lt_mul hp]
    refine Nat.lt_trans hU ?_
    rw [Nat.pow_add] at hV
    have : val lb * 4294967296 < 4294967296 ^ m * 4294967296 ^ 2 * 4294967296 := Nat.mul_lt_mul_of_pos_right hV (by decide)
    refine Nat.lt_of_lt_of_le this (Nat.le_of_eq ?_)
    generalize 4294967296 ^ m = P
    omega
  have a1 := Nat.div_mul_le_self (val lb) (4294967296 ^ m)
  have a2 := Nat.lt_mul_div_succ (val lb) hp
  have b1 := Nat.div_mul_le_self (val S / 4294967296 ^ j) (4294967296 ^ m)
  have b2 := Nat.lt_mul_div_succ (val S / 4294967296 ^ j) hp
  rw [Nat.mul_comm] at a2 b2
  have g1 : lb.getD (m + 1) 0 * 4294967296 + lb.getD m 0 = val lb / 4294967296 ^ m := by rw [e1, e2]; exact two_limbs hW
  have g2 : (S.getD (j + m + 2) 0 * 4294967296 + S.getD (j + m + 1) 0) * 4294967296 + S.getD (j + m) 0 = val S / 4294967296 ^ j / 4294967296 ^ m := by
    rw [f0, f1, f2]; exact three_limbs hX
  refine ⟨hp, by rw [g1]; exact a1, by rw [g1]; exact a2, by rw [g2]; exact b1, by rw [g2]; exact b2, hi, hb.getD _, hb.getD _, hS.getD _, hU⟩

section
variable {S0 S S2 lb : List Nat} {g j n c q : Nat}
/-- what was below a place and above it -/
theorem sub_last (hn : lb.length = n) (h : SubIn S0 S lb g j (n + 1) c) (hS0 : Lim S0) (h0 : val S0 < 4294967296 ^ (j + n + 1)) :
    val S + g * val lb * 4294967296 ^ j = val S0 + c * 4294967296 ^ (j + n + 1) := by
  have h1 := h.1
  rw [← Nat.add_assoc] at h1
  have hz : ∀ t, j + n + 1 ≤ t → S0.getD t 0 = 0 := fun t ht => zero_above hS0 h0 ht
  rw [val_take_zero hz, val_take_zero (fun t ht => by rw [h.2 t (by omega)]; exact hz t ht), val_take_all lb _ (by omega)] at h1
  exact h1
theorem low_all (hn : lb.length = n) (h : SubIn S0 S lb g j (n + 1) c) (hS0 : Lim S0) (h0 : val S0 < 4294967296 ^ (j + n + 1)) (hS : Lim S) : val S < 4294967296 ^ (j + n + 1) := by
  have hz : ∀ t, j + n + 1 ≤ t → S.getD t 0 = 0 := fun t ht => by rw [h.2 t (by omega)]; exact zero_above hS0 h0 ht
  rw [← val_take_zero hz]
  refine Nat.lt_of_lt_of_le (val_lt (hS.take _)) (Nat.pow_le_pow_right (by decide) ?_)
  rw [List.length_take]; omega

theorem sub_end0 (hV : 0 < val lb) (h1 : val S0 / 4294967296 ^ j / val lb ≤ g) (hn : lb.length = n) (h : SubIn S0 S lb g j (n + 1) 0) (hS0 : Lim S0) (h0 : val S0 < 4294967296 ^ (j + n + 1)) :
    g = val S0 / 4294967296 ^ j / val lb ∧ val S + g * val lb * 4294967296 ^ j = val S0 := by
  have h2 := sub_last hn h hS0 h0
  rw [Nat.zero_mul, Nat.add_zero] at h2
  refine ⟨?_, h2⟩
  have h3 : g ≤ val S0 / 4294967296 ^ j / val lb := by
    rw [Nat.le_div_iff_mul_le hV, Nat.le_div_iff_mul_le (Nat.pow_pos (by decide))]
    omega
  omega
theorem sub_end1 (hV : 0 < val lb) (h1 : val S0 / 4294967296 ^ j / val lb ≤ g) (h2 : g * val lb < val S0 / 4294967296 ^ j + val lb) (hn : lb.length = n) (h : SubIn S0 S lb g j (n + 1) 1) (hS0 : Lim S0)
    (h0 : val S0 < 4294967296 ^ (j + n + 1)) (hS : Lim S) : g = val S0 / 4294967296 ^ j / val lb + 1 := by
  have h3 := sub_last hn h hS0 h0
  have h4 := low_all hn h hS0 h0 hS
  rcases guess_is hV h1 h2 with e | e
  · exfalso
    have h5 := Nat.div_mul_le_self (val S0 / 4294967296 ^ j) (val lb)
    rw [← e] at h5
    have h6 := Nat.div_mul_le_self (val S0) (4294967296 ^ j)
    have h7 : g * val lb * 4294967296 ^ j ≤ val S0 / 4294967296 ^ j * 4294967296 ^ j := Nat.mul_le_mul_right _ h5
    omega
  · exact e.1
theorem add_end (hV : 0 < val lb) (hg : g = val S0 / 4294967296 ^ j / val lb + 1) (hn : lb.length = n) (h : SubIn S0 S lb g j (n + 1) 1) (hS0 : Lim S0)
    (h0 : val S0 < 4294967296 ^ (j + n + 1)) (hS : Lim S) (ha : AddIn S S2 lb j (n + 1) c) (hS2 : Lim S2) :
    val S2 + (g - 1) * val lb * 4294967296 ^ j = val S0 := by
  have h3 := sub_last hn h hS0 h0
  have h4 := low_all hn h hS0 h0 hS
  have hz : ∀ t, j + n + 1 ≤ t → S.getD t 0 = 0 := fun t ht => zero_above hS h4 ht
  have hz2 : ∀ t, j + n + 1 ≤ t → S2.getD t 0 = 0 := fun t ht => by rw [ha.2 t (by omega)]; exact hz t ht
  have h5 := ha.1
  rw [← Nat.add_assoc, val_take_zero hz2, val_take_zero hz, val_take_all lb _ (by omega)] at h5
  have h6 : val S2 < 4294967296 ^ (j + n + 1) := by
    rw [← val_take_zero hz2]
    refine Nat.lt_of_lt_of_le (val_lt (hS2.take _)) (Nat.pow_le_pow_right (by decide) ?_)
    rw [List.length_take]; omega
  have h7 := Nat.div_mul_le_self (val S0 / 4294967296 ^ j) (val lb)
  have h8 := Nat.div_mul_le_self (val S0) (4294967296 ^ j)
  have h9 : val S0 / 4294967296 ^ j / val lb * val lb * 4294967296 ^ j ≤ val S0 / 4294967296 ^ j * 4294967296 ^ j := Nat.mul_le_mul_right _ h7
  rw [hg] at h3 ⊢
  rw [Nat.add_sub_cancel]
  rw [Nat.add_mul, Nat.add_mul, Nat.one_mul, Nat.one_mul] at h3
  generalize val S0 / 4294967296 ^ j / val lb * val lb * 4294967296 ^ j = X at *
  generalize val lb * 4294967296 ^ j = Y at *
  generalize 4294967296 ^ (j + n + 1) = Z at *
  have hc : c = 0 ∨ c = 1 ∨ 2 ≤ c := by omega
  rcases hc with rfl | rfl | hc
  · omega
  · omega
  · have : 2 * Z ≤ c * Z := Nat.mul_le_mul_right _ hc
    omega
end

end Go.NatP
