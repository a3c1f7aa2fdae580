/- PLAIN ARITHMETIC, 4: shifts. No program in sight. -/
import Derived.Test.YtflmdcmlhpifeaaPc
namespace Go.NatP

/-- a number times a power of two, rounded down -/
def shv (v : Nat) (n : Int) : Nat := if 0 ≤ n then v * 2 ^ n.toNat else v / 2 ^ (-n).toNat
/-- the shift, where there is one -/
def shN (v : Nat) (n : Int) : Nat := if -262144 ≤ n ∧ n ≤ 262144 then shv v n else 0
def shE (n : Int) : Int := if -262144 ≤ n ∧ n ≤ 262144 then 0 else 3

theorem val_of_limbs {S : List Nat} {V m : Nat} (hS : S.length = m) (hV : V < 4294967296 ^ m) (h : ∀ i, i < m → S.getD i 0 = V / 4294967296 ^ i % 4294967296) : val S = V := by
  have key : ∀ i, i ≤ m → val (S.take i) = V % 4294967296 ^ i := by
    intro i
    induction i with
    | zero => intro _; simp [val, Nat.mod_one]
    | succ i ih =>
      intro hi
      rw [val_take_succ', ih (by omega), h i (by omega), Nat.pow_succ, Nat.mod_mul, Nat.mul_comm (V / _ % _)]
  have := key m (Nat.le_refl _)
  rwa [val_take_all S _ (by omega), Nat.mod_eq_of_lt hV] at this

/-- two limbs shifted down by r bits: the low one -/
theorem shr_limb (V i r : Nat) (hr : r < 32) :
    ((V / 4294967296 ^ (i + 1) % 4294967296) * 4294967296 + V / 4294967296 ^ i % 4294967296) / 2 ^ r % 4294967296 = V / 2 ^ r / 4294967296 ^ i % 4294967296 := by
  rw [Nat.div_div_eq_div_mul V, Nat.mul_comm (2 ^ r), ← Nat.div_div_eq_div_mul, Nat.pow_succ, ← Nat.div_div_eq_div_mul]
  generalize V / 4294967296 ^ i = x
  have e1 : x / 4294967296 % 4294967296 * 4294967296 + x % 4294967296 = x % (4294967296 * 4294967296) := by
    rw [Nat.mod_mul]; omega
  rw [e1]
  have e2 : (4294967296 * 4294967296 : Nat) = 2 ^ r * (4294967296 * 2 ^ (32 - r)) := by
    rw [Nat.mul_left_comm, ← Nat.pow_add, show r + (32 - r) = 32 by omega]
  rw [e2, Nat.mod_mul_right_div_self, Nat.mod_mul_right_mod]

theorem div_small_zero {l : List Nat} (h : Lim l) {q r : Nat} (hq : l.length ≤ q) : val l / 2 ^ (32 * q + r) = 0 := by
  rw [Nat.pow_add, ← pow_32, ← Nat.div_div_eq_div_mul, div_pow_ge h hq]; simp

/-- one bit more -/
theorem mod_two_pow_succ (W i : Nat) : W % 2 ^ (i + 1) = W % 2 ^ i + (W / 2 ^ i % 2) * 2 ^ i := by
  rw [Nat.pow_succ, Nat.mod_mul, Nat.mul_comm (W / _ % _)]

theorem bit_shv_up {v i : Nat} {n : Int} (h0 : 0 ≤ n) (hi : n ≤ i) : shv v n / 2 ^ i % 2 = v / 2 ^ ((i : Int) - n).toNat % 2 := by
  rw [shv, if_pos h0]
  obtain ⟨n, rfl⟩ := Int.eq_ofNat_of_zero_le h0
  rw [Int.toNat_natCast]
  have e : i = n + ((i : Int) - (n : Int)).toNat := by omega
  generalize ((i : Int) - (n : Int)).toNat = k at *
  subst e
  rw [Nat.pow_add, ← Nat.div_div_eq_div_mul, Nat.mul_div_cancel _ (Nat.two_pow_pos n)]
theorem bit_shv_low {v i : Nat} {n : Int} (hi : (i : Int) < n) : shv v n / 2 ^ i % 2 = 0 := by
  rw [shv, if_pos (by omega)]
  obtain ⟨n, rfl⟩ := Int.eq_ofNat_of_zero_le (show 0 ≤ n by omega)
  rw [Int.toNat_natCast]
  obtain ⟨k, rfl⟩ : ∃ k, n = i + (k + 1) := ⟨n - i - 1, by omega⟩
  rw [Nat.pow_add, Nat.mul_comm (2 ^ i), ← Nat.mul_assoc, Nat.mul_div_cancel _ (Nat.two_pow_pos i), Nat.pow_succ, ← Nat.mul_assoc]
  exact Nat.mul_mod_left _ _
theorem bit_shv_down {v i : Nat} {n : Int} (h0 : n < 0) : shv v n / 2 ^ i % 2 = v / 2 ^ ((i : Int) - n).toNat % 2 := by
  rw [shv, if_neg (by omega), Nat.div_div_eq_div_mul, ← Nat.pow_add]
  congr 3
  omega
theorem bit_shv {v i : Nat} {n : Int} (hi : n ≤ i) : shv v n / 2 ^ i % 2 = v / 2 ^ ((i : Int) - n).toNat % 2 := by
  by_cases h : 0 ≤ n
  · exact bit_shv_up h hi
  · exact bit_shv_down (by omega)

theorem shv_lt {v : Nat} {n : Int} {s : Nat} (h : (nb v : Int) + n = s) : shv v n < 2 ^ s := by
  unfold shv
  have hv := lt_two_nb v
  split
  · rename_i h0
    obtain ⟨n, rfl⟩ := Int.eq_ofNat_of_zero_le h0
    rw [Int.toNat_natCast]
    obtain rfl : s = nb v + n := by omega
    rw [Nat.pow_add]
    exact Nat.mul_lt_mul_of_pos_right hv (Nat.two_pow_pos n)
  · rename_i h0
    obtain ⟨m, rfl⟩ : ∃ m : Nat, n = -(m : Int) := ⟨(-n).toNat, by omega⟩
    rw [show (-(-(m : Int))).toNat = m by omega, Nat.div_lt_iff_lt_mul (Nat.two_pow_pos m), ← Nat.pow_add]
    rwa [show s + m = nb v by omega]
theorem shv_zero {v : Nat} {n : Int} (h : (nb v : Int) + n ≤ 0) : shv v n = 0 := by
  unfold shv
  have hv := lt_two_nb v
  split
  · rename_i h0
    have : nb v = 0 := by omega
    have : v = 0 := by
      rcases Nat.eq_zero_or_pos v with h | h
      · exact h
      · have := nb_pos (n := v) (by omega); omega
    subst this; simp
  · rename_i h0
    exact Nat.div_eq_of_lt (Nat.lt_of_lt_of_le hv (Nat.pow_le_pow_right (by decide) (by omega)))

/-- the list that holds W up to bit i -/
def BitsIn (W : Nat) (S : List Nat) (i : Nat) : Prop := val S = W % 2 ^ i
theorem bitsIn_lt {W i : Nat} {S : List Nat} (hL : Lim S) (h : BitsIn W S i) : S.getD (i / 32) 0 < 2 ^ (i % 32) := by
  rw [getD_val hL, h]
  have hlt : W % 2 ^ i < 2 ^ i := Nat.mod_lt _ (Nat.two_pow_pos i)
  refine Nat.lt_of_le_of_lt (Nat.mod_le _ _) ?_
  rw [Nat.div_lt_iff_lt_mul (Nat.pow_pos (by decide)), pow_32, ← Nat.pow_add, show i % 32 + 32 * (i / 32) = i by omega]
  exact hlt
theorem bitsIn_step {W i b : Nat} {S : List Nat} (h : BitsIn W S i) (hl : i / 32 < S.length) (hb : W / 2 ^ i % 2 = b) :
    BitsIn W (S.set (i / 32) (S.getD (i / 32) 0 + b * 2 ^ (i % 32))) (i + 1) := by
  have h1 := val_set S (i / 32) (S.getD (i / 32) 0 + b * 2 ^ (i % 32)) hl
  unfold BitsIn at *
  rw [mod_two_pow_succ, hb, ← h]
  have e : 2 ^ i = 2 ^ (i % 32) * 4294967296 ^ (i / 32) := by
    rw [pow_32, ← Nat.pow_add]; congr 1; omega
  rw [e]
  rw [Nat.add_mul, Nat.mul_assoc] at h1
  omega
theorem bitsIn_skip {W i : Nat} {S : List Nat} (h : BitsIn W S i) (hb : W / 2 ^ i % 2 = 0) : BitsIn W S (i + 1) := by
  unfold BitsIn at *
  rw [mod_two_pow_succ, hb, ← h]; omega

theorem shN_szK {v k K : Nat} {n : Int} (h : Sz v k) (hK : 262144 ≤ 32 * K) : Sz (shN v n) (k + K) := by
  unfold shN
  split
  · rename_i hn
    unfold shv
    split
    · have h2 : 2 ^ n.toNat ≤ 4294967296 ^ K := by
        rw [pow_32]; exact Nat.pow_le_pow_right (by decide) (by omega)
      unfold Sz at *
      rw [Nat.pow_add]
      exact Nat.lt_of_lt_of_le (Nat.mul_lt_mul_of_pos_right h (Nat.two_pow_pos _)) (Nat.mul_le_mul_left _ h2)
    · exact h.mono (Nat.div_le_self _ _) (by omega)
  · exact Nat.pow_pos (by decide)
theorem shN_sz {v k : Nat} {n : Int} (h : Sz v k) : Sz (shN v n) (k + 8192) := shN_szK h (by decide)

end Go.NatP
