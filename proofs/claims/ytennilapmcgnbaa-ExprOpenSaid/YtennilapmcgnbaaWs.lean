/- WALKS, 19: the reference's doubles and halves. -/
import Derived.Test.YtennilapmcgnbaaWr
namespace Go.Proofs.Ytennilapmcgnbaa
set_option linter.unusedVariables false
open Go.ChangeShapes Go.WideShapes Go.ChangeAt Go.RowKit Go.NatP

/-- a list as long as it need be is the number's own -/
theorem lm_full {S : List Nat} (hL : Lim S) (h : S ≠ [] → 4294967296 ^ (S.length - 1) ≤ val S) : lm (val S) = S := by
  by_cases hS : S = []
  · subst hS; rfl
  have h1 := h hS
  have h2 := lt_pow_length (val S)
  have h3 : S.length - 1 < (lm (val S)).length := (Nat.pow_lt_pow_iff_right (by decide)).1 (Nat.lt_of_le_of_lt h1 h2)
  have h4 := length_lm_val hL
  have h5 : 0 < S.length := List.length_pos_iff.2 hS
  have h6 : tlen S S.length = S.length := by rw [tlen_eq hL]; omega
  have := take_tlen_all hL
  rw [h6, List.take_length] at this
  exact this.symm

/-- the first k limbs doubled, with d added: S and a carry -/
def DblIn (l S : List Nat) (k cy d : Nat) : Prop := val S + cy * 4294967296 ^ k = 2 * val (l.take k) + d
theorem dblIn_snoc {l S : List Nat} {k cy d : Nat} (h : DblIn l S k cy d) (hS : S.length = k) : DblIn l (S ++ [(cy + 2 * l.getD k 0) % 4294967296]) (k + 1) ((cy + 2 * l.getD k 0) / 4294967296) d := by
  unfold DblIn at *
  rw [val_snoc, hS, val_take_succ', Nat.pow_succ]
  generalize l.getD k 0 = z at *
  have h1 := Nat.div_add_mod (cy + 2 * z) 4294967296
  generalize (cy + 2 * z) / 4294967296 = q at *
  generalize (cy + 2 * z) % 4294967296 = m at *
  generalize val (l.take k) = V at *
  generalize 4294967296 ^ k = P at *
  generalize val S = A at *
  have h2 : cy * P + 2 * z * P = 4294967296 * q * P + m * P := by
    rw [← Nat.add_mul, ← h1, Nat.add_mul]
  grind

theorem dbl_end0 {v d n : Nat} {S : List Nat} (hL : Lim S) (hn : (lm v).length = n) (hS : S.length = n) (h : DblIn (lm v) S n 0 d) : S = lm (2 * v + d) := by
  unfold DblIn at h
  rw [val_take_all _ _ (by omega), val_lm, Nat.zero_mul, Nat.add_zero] at h
  rw [← h]
  refine (lm_full hL fun hne => ?_).symm
  have h1 : 0 < S.length := List.length_pos_iff.2 hne
  have h2 := pow_le_lm (n := v) (k := S.length - 1) (by omega)
  omega
theorem dbl_end1 {v d n cy : Nat} {S : List Nat} (hL : Lim S) (hc : 0 < cy) (hc2 : cy < 4294967296) (hn : (lm v).length = n) (hS : S.length = n) (h : DblIn (lm v) S n cy d) : S ++ [cy] = lm (2 * v + d) := by
  unfold DblIn at h
  rw [val_take_all _ _ (by omega), val_lm] at h
  have h2 : val (S ++ [cy]) = 2 * v + d := by rw [val_snoc, hS]; exact h
  rw [← h2]
  refine (lm_full (hL.append (lim_cons hc2 lim_nil)) fun hne => ?_).symm
  rw [val_snoc, hS]
  simp only [List.length_append, List.length_cons, List.length_nil, hS, Nat.zero_add, Nat.add_sub_cancel]
  have := Nat.le_mul_of_pos_left (4294967296 ^ n) hc
  omega

theorem val_mod2 (l : List Nat) : val l % 2 = l.getD 0 0 % 2 := by
  cases l with
  | nil => rfl
  | cons x l => simp [val]; omega

end Go.Proofs.Ytennilapmcgnbaa
