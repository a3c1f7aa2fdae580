/- PLAIN ARITHMETIC, 11: long division. No program in sight. -/
import Derived.Test.YtflmdcmlhpifeaaPj
import Derived.Test.YtflmdcmlhpifeaaPd
namespace Go.NatP
set_option linter.unusedVariables false

/-- A divided by V, down to digit i: T holds the quotient's digits from i on, S what is left -/
def DmIn (A V i : Nat) (S T : List Nat) : Prop := val S < V * 4294967296 ^ i ∧ val S + val T * V = A ∧ ∀ t, t < i → T.getD t 0 = 0

theorem dmIn_start {A V i k : Nat} {S : List Nat} (hS : val S = A) (h : A < V * 4294967296 ^ i) : DmIn A V i S (List.replicate k 0) := by
  refine ⟨by rw [hS]; exact h, by rw [val_replicate_zero, hS]; simp, fun t _ => ?_⟩
  simp [List.getD_eq_getElem?_getD, List.getElem?_replicate]
  split <;> rfl

theorem dmIn_step {A V j Q : Nat} {S T S' : List Nat} (hV : 0 < V) (h : DmIn A V (j + 1) S T) (hT : j < T.length) (hQ : val S / 4294967296 ^ j / V = Q) (hS : val S' = val S - Q * V * 4294967296 ^ j) :
    DmIn A V j S' (T.set j Q) := by
  have hp : 0 < 4294967296 ^ j := Nat.pow_pos (by decide)
  have h1 := Nat.div_mul_le_self (val S / 4294967296 ^ j) V
  have h2 := Nat.lt_mul_div_succ (val S / 4294967296 ^ j) hV
  have h3 := Nat.div_mul_le_self (val S) (4294967296 ^ j)
  have h4 := Nat.lt_mul_div_succ (val S) hp
  rw [hQ] at h1 h2
  have h5 : Q * V * 4294967296 ^ j ≤ val S / 4294967296 ^ j * 4294967296 ^ j := Nat.mul_le_mul_right _ h1
  refine ⟨?_, ?_, fun t ht => ?_⟩
  · rw [hS]
    have h6 : 4294967296 ^ j * (val S / 4294967296 ^ j + 1) ≤ 4294967296 ^ j * (V * (Q + 1)) := Nat.mul_le_mul_left _ h2
    have e : 4294967296 ^ j * (V * (Q + 1)) = Q * V * 4294967296 ^ j + V * 4294967296 ^ j := by grind
    rw [e] at h6
    omega
  · have h7 := val_set T j Q hT
    rw [h.2.2 j (by omega), Nat.zero_mul, Nat.add_zero] at h7
    rw [hS, h7, Nat.add_mul, ← h.2.1]
    have e : Q * 4294967296 ^ j * V = Q * V * 4294967296 ^ j := by grind
    rw [e]
    omega
  · rw [NatP.getD_set_ne _ _ _ _ (by omega)]; exact h.2.2 t (by omega)

theorem dmIn_end {v y P : Nat} {S T : List Nat} (hP : 0 < P) (h : DmIn (v * P) (y * P) 0 S T) : val T = v / y ∧ val S = v % y * P := by
  have h1 := h.1
  rw [Nat.pow_zero, Nat.mul_one] at h1
  have h2 := h.2.1
  have hy : 0 < y * P := by omega
  have e1 : v * P / (y * P) = val T := by
    rw [← h2, Nat.add_mul_div_right _ _ hy, Nat.div_eq_of_lt h1, Nat.zero_add]
  have e2 : v * P % (y * P) = val S := by
    rw [← h2, Nat.add_mul_mod_self_right, Nat.mod_eq_of_lt h1]
  rw [Nat.mul_div_mul_right _ _ hP] at e1
  rw [Nat.mul_mod_mul_right] at e2
  exact ⟨e1.symm, e2.symm⟩

/-- the divisor with its highest bit set: as long as before -/
theorem norm_div {y M s : Nat} (hy : y ≠ 0) (hM : (lm y).length = M) (hs : s + nb ((lm y).getD (M - 1) 0) = 32) :
    y * 2 ^ s < 4294967296 ^ M ∧ 2 ^ 31 * 4294967296 ^ (M - 1) ≤ y * 2 ^ s ∧ (lm (y * 2 ^ s)).length = M ∧ 2147483648 ≤ (lm (y * 2 ^ s)).getD (M - 1) 0 := by
  have hM0 : 0 < M := by
    rw [← hM]; exact List.length_pos_iff.2 fun e => hy (lm_eq_nil.1 e)
  have h1 := nb_top hy
  rw [hM] at h1
  have h2 := nb_mul_two_pow hy s
  have h3 : nb (y * 2 ^ s) = 32 * M := by omega
  have h4 : y * 2 ^ s < 4294967296 ^ M := by rw [pow_32, ← nb_le, h3]; exact Nat.le_refl _
  have h5 : 2 ^ 31 * 4294967296 ^ (M - 1) ≤ y * 2 ^ s := by
    rw [pow_32, ← Nat.pow_add, ← nb_gt, h3]; omega
  have h6 : (lm (y * 2 ^ s)).length = M := by
    have h7 := length_lm_le h4
    have h8 := lt_pow_length (y * 2 ^ s)
    rcases Nat.lt_or_ge (lm (y * 2 ^ s)).length M with h | h
    · have h9 : 4294967296 ^ (lm (y * 2 ^ s)).length ≤ 4294967296 ^ (M - 1) := Nat.pow_le_pow_right (by decide) (by omega)
      have h10 : 1 * 4294967296 ^ (M - 1) ≤ 2 ^ 31 * 4294967296 ^ (M - 1) := Nat.mul_le_mul_right _ (by decide)
      omega
    · omega
  refine ⟨h4, h5, h6, ?_⟩
  rw [getD_val (lim_lm _), val_lm]
  have hp : 0 < 4294967296 ^ (M - 1) := Nat.pow_pos (by decide)
  have h7 : y * 2 ^ s / 4294967296 ^ (M - 1) < 4294967296 := by
    rw [Nat.div_lt_iff_lt_mul hp]
    have : 4294967296 ^ M = 4294967296 * 4294967296 ^ (M - 1) := by rw [Nat.mul_comm, ← Nat.pow_succ]; congr 1; omega
    omega
  rw [Nat.mod_eq_of_lt h7, Nat.le_div_iff_mul_le hp]
  exact h5

theorem dm_first {v y N M s : Nat} (hv : v < 4294967296 ^ N) (hs : s ≤ 31) (hM : 0 < M) (hMN : M ≤ N) (hy : 2 ^ 31 * 4294967296 ^ (M - 1) ≤ y * 2 ^ s) : v * 2 ^ s < y * 2 ^ s * 4294967296 ^ (N - M + 1) := by
  have h1 : 2 ^ 31 * 4294967296 ^ (M - 1) * 4294967296 ^ (N - M + 1) ≤ y * 2 ^ s * 4294967296 ^ (N - M + 1) := Nat.mul_le_mul_right _ hy
  refine Nat.lt_of_lt_of_le ?_ h1
  rw [Nat.mul_assoc, ← Nat.pow_add, show M - 1 + (N - M + 1) = N by omega]
  have h2 : 2 ^ s ≤ 2 ^ 31 := Nat.pow_le_pow_right (by decide) hs
  have h3 : v * 2 ^ s ≤ v * 2 ^ 31 := Nat.mul_le_mul_left _ h2
  have h4 : v * 2 ^ 31 < 4294967296 ^ N * 2 ^ 31 := Nat.mul_lt_mul_of_pos_right hv (by decide)
  rw [Nat.mul_comm (2 ^ 31)]
  omega

theorem dm_q_lt {S : List Nat} {V j : Nat} (h : val S < V * 4294967296 ^ (j + 1)) (hV : 0 < V) : val S / 4294967296 ^ j / V < 4294967296 := by
  rw [Nat.div_lt_iff_lt_mul hV, Nat.div_lt_iff_lt_mul (Nat.pow_pos (by decide)), Nat.mul_assoc, Nat.mul_comm 4294967296, Nat.mul_assoc, ← Nat.pow_succ]
  exact h

/-- the rest, down by the shift, limb by limb -/
def DownIn (S : List Nat) (V P i : Nat) : Prop := (∀ t, t < i → S.getD t 0 = V / P / 4294967296 ^ t % 4294967296) ∧ ∀ t, i ≤ t → S.getD t 0 = V / 4294967296 ^ t % 4294967296

theorem downIn_start {S : List Nat} {V P : Nat} (hS : Lim S) (h : val S = V) : DownIn S V P 0 := ⟨fun t ht => absurd ht (by omega), fun t _ => by rw [← h]; exact getD_val hS t⟩
theorem downIn_step {S : List Nat} {V P i x : Nat} (h : DownIn S V P i) (hi : i < S.length) (hx : x = V / P / 4294967296 ^ i % 4294967296) : DownIn (S.set i x) V P (i + 1) := by
  refine ⟨fun t ht => ?_, fun t ht => ?_⟩
  · by_cases hti : t = i
    · subst hti; rw [getD_set_eq _ _ _ hi, hx]
    · rw [getD_set_ne _ _ _ _ (by omega)]; exact h.1 t (by omega)
  · rw [getD_set_ne _ _ _ _ (by omega)]; exact h.2 t (by omega)
theorem downIn_end {S : List Nat} {V P k : Nat} (h : DownIn S V P k) (hV : V < 4294967296 ^ k) (hk : k ≤ S.length) (hS : Lim S) : val (S.take k) = V / P := by
  refine val_of_limbs (m := k) (by simp; omega) (Nat.lt_of_le_of_lt (Nat.div_le_self _ _) hV) fun t ht => ?_
  rw [getD_take _ _ _ ht]; exact h.1 t ht

end Go.NatP
