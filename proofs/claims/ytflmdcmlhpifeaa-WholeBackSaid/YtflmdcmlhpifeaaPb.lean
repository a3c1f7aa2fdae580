/- PLAIN ARITHMETIC, 2: bits, limbs by division, comparison limb by limb. No program in sight. -/
import Derived.Test.YtflmdcmlhpifeaaPa
namespace Go.NatP

/-- how many bits -/
def nb (n : Nat) : Nat := if n = 0 then 0 else n.log2 + 1

theorem nb_zero : nb 0 = 0 := rfl
theorem nb_le {n k : Nat} : nb n ≤ k ↔ n < 2 ^ k := by
  unfold nb
  split
  · rename_i h; subst h; simp; exact Nat.two_pow_pos k
  · rename_i h
    rw [← Nat.log2_lt h]; omega
theorem nb_gt {n k : Nat} : k < nb n ↔ 2 ^ k ≤ n := by
  rw [← Nat.not_le, nb_le, Nat.not_lt]
theorem lt_two_nb (n : Nat) : n < 2 ^ nb n := nb_le.1 (Nat.le_refl _)
theorem nb_pos {n : Nat} (h : n ≠ 0) : 0 < nb n := nb_gt.2 (by simp; omega)
theorem two_nb_le {n : Nat} (h : n ≠ 0) : 2 ^ (nb n - 1) ≤ n := nb_gt.1 (by have := nb_pos h; omega)
theorem nb_eq {n k : Nat} (h1 : 2 ^ k ≤ n) (h2 : n < 2 ^ (k + 1)) : nb n = k + 1 := by
  have := nb_le.2 h2
  have := nb_gt.2 h1
  omega
theorem nb_mono {m n : Nat} (h : m ≤ n) : nb m ≤ nb n := nb_le.2 (Nat.lt_of_le_of_lt h (lt_two_nb n))
theorem nb_half {n : Nat} (h : n ≠ 0) : nb n = nb (n / 2) + 1 := by
  have h1 := lt_two_nb (n / 2)
  have h3 := nb_pos h
  have h4 : nb n ≤ nb (n / 2) + 1 := nb_le.2 (by rw [Nat.pow_succ]; omega)
  have h5 : nb (n / 2) ≤ nb n - 1 := nb_le.2 (by
    have := lt_two_nb n
    rw [show nb n = (nb n - 1) + 1 by omega, Nat.pow_succ] at this
    omega)
  omega
theorem nb_shift {n j : Nat} (h : 2 ^ j ≤ n) : nb n = j + nb (n / 2 ^ j) := by
  induction j generalizing n with
  | zero => simp
  | succ j ih =>
    have hn : n ≠ 0 := by have := Nat.two_pow_pos (j + 1); omega
    rw [Nat.pow_succ] at h
    rw [nb_half hn, ih (n := n / 2) (by omega), Nat.div_div_eq_div_mul, Nat.pow_succ, Nat.mul_comm 2]
    omega
theorem nb_mul_two_pow {n : Nat} (h : n ≠ 0) (k : Nat) : nb (n * 2 ^ k) = nb n + k := by
  have hp := Nat.two_pow_pos k
  have : 2 ^ k ≤ n * 2 ^ k := Nat.le_mul_of_pos_left _ (by omega)
  rw [nb_shift this, Nat.mul_div_cancel _ hp]; omega

theorem pow_32 (k : Nat) : 4294967296 ^ k = 2 ^ (32 * k) := by rw [Nat.pow_mul]

theorem getD_val {l : List Nat} (h : Lim l) (i : Nat) : l.getD i 0 = val l / 4294967296 ^ i % 4294967296 := by
  induction l generalizing i with
  | nil => simp [val]
  | cons x l ih =>
    have hx := h.head
    cases i with
    | zero => simp [val]; omega
    | succ i =>
      rw [List.getD_cons_succ, ih h.tail, val, Nat.pow_succ, Nat.mul_comm _ 4294967296, ← Nat.div_div_eq_div_mul]
      congr 2
      omega

theorem val_drop_div {l : List Nat} (h : Lim l) (i : Nat) : val (l.drop i) = val l / 4294967296 ^ i := by
  induction l generalizing i with
  | nil => simp [val]
  | cons x l ih =>
    have hx := h.head
    cases i with
    | zero => simp [val]
    | succ i =>
      rw [List.drop_succ_cons, ih h.tail, val, Nat.pow_succ, Nat.mul_comm _ 4294967296, ← Nat.div_div_eq_div_mul]
      congr 1
      omega

theorem val_take_mod {l : List Nat} (h : Lim l) (i : Nat) : val (l.take i) = val l % 4294967296 ^ i := by
  by_cases hi : i ≤ l.length
  · have h1 := val_drop l i hi
    have h2 := val_lt (h.take i)
    rw [List.length_take, Nat.min_eq_left hi] at h2
    rw [h1, Nat.add_mul_mod_self_left, Nat.mod_eq_of_lt h2]
  · rw [List.take_of_length_le (by omega), Nat.mod_eq_of_lt]
    exact Nat.lt_of_lt_of_le (val_lt h) (Nat.pow_le_pow_right (by decide) (by omega))

/-- the highest limb and the bits -/
theorem top_lm {n : Nat} (h : n ≠ 0) : (lm n).getD ((lm n).length - 1) 0 = n / 4294967296 ^ ((lm n).length - 1) := by
  have hl : 0 < (lm n).length := List.length_pos_iff.2 fun e => h (lm_eq_nil.1 e)
  have h1 := getD_val (lim_lm n) ((lm n).length - 1)
  rw [val_lm] at h1
  rw [h1, Nat.mod_eq_of_lt]
  rw [Nat.div_lt_iff_lt_mul (Nat.pow_pos (by decide)), Nat.mul_comm, ← Nat.pow_succ, Nat.succ_eq_add_one, show (lm n).length - 1 + 1 = (lm n).length by omega]
  exact lt_pow_length n

theorem nb_top {n : Nat} (h : n ≠ 0) : nb n = 32 * ((lm n).length - 1) + nb ((lm n).getD ((lm n).length - 1) 0) := by
  have hl : 0 < (lm n).length := List.length_pos_iff.2 fun e => h (lm_eq_nil.1 e)
  rw [top_lm h, pow_32]
  exact nb_shift (by rw [← pow_32]; exact pow_le_lm (by omega))

/-- the order as Go tells it -/
def cmpI (a b : Nat) : Int := if a < b then -1 else if b < a then 1 else 0

theorem lt_of_limb {la lb : List Nat} (ha : Lim la) (hb : Lim lb) {j : Nat} (hd : val la / 4294967296 ^ (j + 1) = val lb / 4294967296 ^ (j + 1)) (h : la.getD j 0 < lb.getD j 0) : val la < val lb := by
  rw [getD_val ha, getD_val hb] at h
  have e : ∀ n : Nat, n / 4294967296 ^ (j + 1) = n / 4294967296 ^ j / 4294967296 := fun n => by rw [Nat.pow_succ, Nat.div_div_eq_div_mul]
  rw [e, e] at hd
  have h2 : val la / 4294967296 ^ j < val lb / 4294967296 ^ j := by omega
  exact Nat.lt_of_not_le fun h3 => by
    have := Nat.div_le_div_right (c := 4294967296 ^ j) h3
    omega

theorem div_of_limb {la lb : List Nat} (ha : Lim la) (hb : Lim lb) {j : Nat} (hd : val la / 4294967296 ^ (j + 1) = val lb / 4294967296 ^ (j + 1)) (h : la.getD j 0 = lb.getD j 0) : val la / 4294967296 ^ j = val lb / 4294967296 ^ j := by
  rw [getD_val ha, getD_val hb] at h
  have e : ∀ n : Nat, n / 4294967296 ^ (j + 1) = n / 4294967296 ^ j / 4294967296 := fun n => by rw [Nat.pow_succ, Nat.div_div_eq_div_mul]
  rw [e, e] at hd
  omega

theorem div_pow_ge {l : List Nat} (h : Lim l) {j : Nat} (hj : l.length ≤ j) : val l / 4294967296 ^ j = 0 :=
  Nat.div_eq_of_lt (Nat.lt_of_lt_of_le (val_lt h) (Nat.pow_le_pow_right (by decide) hj))

theorem cmpI_lt {a b : Nat} (h : a < b) : cmpI a b = -1 := by rw [cmpI, if_pos h]
theorem cmpI_gt {a b : Nat} (h : b < a) : cmpI a b = 1 := by rw [cmpI, if_neg (by omega), if_pos h]
theorem cmpI_eq {a b : Nat} (h : a = b) : cmpI a b = 0 := by rw [cmpI, if_neg (by omega), if_neg (by omega)]
theorem cmpI_neg {a b : Nat} : cmpI a b < 0 ↔ a < b := by
  unfold cmpI; split
  · omega
  · split <;> omega
theorem cmpI_pos {a b : Nat} : 0 < cmpI a b ↔ b < a := by
  unfold cmpI; split
  · omega
  · split <;> omega
theorem cmpI_range (a b : Nat) : -1 ≤ cmpI a b ∧ cmpI a b ≤ 1 := by
  unfold cmpI; split
  · omega
  · split <;> omega

theorem lt_of_length {m n : Nat} (h : (lm m).length < (lm n).length) : m < n :=
  Nat.lt_of_lt_of_le (lt_pow_length m) (pow_le_lm h)

/-- the bit of value 2^i -/
theorem bit_of {l : List Nat} (h : Lim l) (i : Nat) : l.getD (i / 32) 0 / 2 ^ (i % 32) % 2 = val l / 2 ^ i % 2 := by
  rw [getD_val h]
  have e : 2 ^ i = 4294967296 ^ (i / 32) * 2 ^ (i % 32) := by
    rw [pow_32, ← Nat.pow_add]; congr 1; omega
  rw [e, ← Nat.div_div_eq_div_mul]
  generalize val l / 4294967296 ^ (i / 32) = x
  have hk : i % 32 < 32 := Nat.mod_lt _ (by decide)
  generalize i % 32 = k at *
  have e2 : x % 4294967296 = x % (2 ^ k * 2 ^ (32 - k)) := by
    rw [← Nat.pow_add, show k + (32 - k) = 32 by omega]
  rw [e2, Nat.mod_mul_right_div_self]
  have e3 : 2 ^ (32 - k) = 2 * 2 ^ (31 - k) := by
    rw [show 32 - k = (31 - k) + 1 by omega, Nat.pow_succ, Nat.mul_comm]
  rw [e3, Nat.mod_mul_right_mod]

/-- a number of at most so many limbs -/
def Sz (n k : Nat) : Prop := n < 4294967296 ^ k
theorem Sz.len {n k : Nat} (h : Sz n k) : (lm n).length ≤ k := length_lm_le h
theorem Lim.sz {l : List Nat} {k : Nat} (h : Lim l) (hk : l.length ≤ k) : Sz (val l) k := Nat.lt_of_lt_of_le (val_lt h) (Nat.pow_le_pow_right (by decide) hk)
theorem Sz.mono {n m k j : Nat} (h : Sz n k) (hm : m ≤ n) (hk : k ≤ j) : Sz m j := Nat.lt_of_le_of_lt hm (Nat.lt_of_lt_of_le h (Nat.pow_le_pow_right (by decide) hk))
theorem Sz.add {m n k : Nat} (h : Sz m k) (h' : Sz n k) : Sz (m + n) (k + 1) := by
  unfold Sz at *; rw [Nat.pow_succ]; omega
theorem Sz.mul {m n k j : Nat} (h : Sz m k) (h' : Sz n j) : Sz (m * n) (k + j) := by
  unfold Sz at *; rw [Nat.pow_add]
  exact Nat.mul_lt_mul'' h h'

end Go.NatP
