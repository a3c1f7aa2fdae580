/- PLAIN ARITHMETIC, 3: one round of a sum, a difference, a product, a division, limb by limb. No program in sight. -/
import Derived.Test.YtflmdcmlhpifeaaPb
namespace Go.NatP

theorem add_step {s c x y P va vb : Nat} (h : s + c * P = va + vb) :
    s + (c + x + y) % 4294967296 * P + (c + x + y) / 4294967296 * (P * 4294967296) = va + x * P + (vb + y * P) := by
  have := Nat.div_add_mod (c + x + y) 4294967296
  generalize (c + x + y) / 4294967296 = q at *
  generalize (c + x + y) % 4294967296 = r at *
  grind

/-- the whole sum -/
theorem add_done {S la lb : List Nat} {N c : Nat} (hS : S.length = N + 1) (ha : la.length ≤ N) (hb : lb.length ≤ N)
    (h : val (S.take N) + c * 4294967296 ^ N = val (la.take N) + val (lb.take N)) : val (S.set N c) = val la + val lb := by
  rw [val_take_all la _ ha, val_take_all lb _ hb] at h
  rw [← h, ← val_set_take S N c (by omega), List.take_of_length_le (by simp; omega)]

theorem sub_step {s c x y P va vb t b : Nat} (h : s + vb = va + c * P) (ht : x + b * 4294967296 = y + c + t) :
    s + t * P + (vb + y * P) = va + x * P + b * (P * 4294967296) := by
  grind

theorem mul_step {s q x y z P c t : Nat} (ht : q + t * 4294967296 = c + x * y + z) : s + q * P + t * (P * 4294967296) = s + c * P + x * (y * P) + z * P := by
  grind

/-- one limb shifted up by n bits, c being what came over -/
def ShlIn (l S : List Nat) (n i : Nat) : Prop :=
  val (S.take (i + 1)) = val (l.take i) * 2 ^ n ∧ S.getD i 0 < 2 ^ n ∧ ∀ t, i < t → S.getD t 0 = 0

theorem shl_low {n x c : Nat} (hn : n < 32) (hx : x < 4294967296) (hc : c < 2 ^ n) :
    c + x * 2 ^ n % 4294967296 < 4294967296 ∧ c ||| (x * 2 ^ n % 4294967296) = c + x * 2 ^ n % 4294967296 ∧ x * 2 ^ n / 4294967296 < 2 ^ n := by
  have e : (4294967296 : Nat) = 2 ^ n * 2 ^ (32 - n) := by rw [← Nat.pow_add, show n + (32 - n) = 32 by omega]
  have hp := Nat.two_pow_pos n
  have e2 : x * 2 ^ n % 4294967296 = 2 ^ n * (x % 2 ^ (32 - n)) := by rw [e, Nat.mul_comm x, Nat.mul_mod_mul_left]
  have hr : x % 2 ^ (32 - n) < 2 ^ (32 - n) := Nat.mod_lt _ (Nat.two_pow_pos _)
  refine ⟨?_, ?_, ?_⟩
  · rw [e2]
    have : 2 ^ n * (x % 2 ^ (32 - n) + 1) ≤ 2 ^ n * 2 ^ (32 - n) := Nat.mul_le_mul_left _ hr
    rw [← e, Nat.mul_add] at this
    omega
  · rw [e2, Nat.or_comm, ← Nat.two_pow_add_eq_or_of_lt hc]; omega
  · rw [Nat.div_lt_iff_lt_mul (by decide), Nat.mul_comm]
    exact (Nat.mul_lt_mul_left hp).2 hx

theorem shlIn_step {l S : List Nat} {n i : Nat} (hn : n < 32) (hl : Lim l) (h : ShlIn l S n i) (hS : i + 1 < S.length) :
    ShlIn l ((S.set i (S.getD i 0 + l.getD i 0 * 2 ^ n % 4294967296)).set (i + 1) (l.getD i 0 * 2 ^ n / 4294967296)) n (i + 1) := by
  have hx := hl.getD i
  obtain ⟨h1, h2, h3⟩ := shl_low hn hx h.2.1
  refine ⟨?_, ?_, fun t ht => ?_⟩
  · rw [val_set_take _ _ _ (by simpa using hS), val_set_take _ _ _ (by omega), val_take_succ']
    have h4 := h.1
    rw [val_take_succ'] at h4
    generalize l.getD i 0 = x at *
    generalize S.getD i 0 = c at *
    have := Nat.div_add_mod (x * 2 ^ n) 4294967296
    generalize x * 2 ^ n / 4294967296 = q at *
    generalize x * 2 ^ n % 4294967296 = r at *
    rw [Nat.pow_succ]
    grind
  · rw [getD_set_eq _ _ _ (by simpa using hS)]; exact h3
  · rw [getD_set_ne _ _ _ _ (by omega), getD_set_ne _ _ _ _ (by omega)]; exact h.2.2 t (by omega)

theorem shlIn_start (l : List Nat) (k n : Nat) : ShlIn l (List.replicate k 0) n 0 := by
  refine ⟨?_, ?_, fun t ht => ?_⟩
  · rw [List.take_replicate, val_replicate_zero]; simp [val]
  · have := Nat.two_pow_pos n
    by_cases h : 0 < k
    · simp [List.getD_eq_getElem?_getD, h]; exact this
    · simp [List.getD_eq_getElem?_getD, h]; exact this
  · by_cases h : t < k
    · simp [List.getD_eq_getElem?_getD, h]
    · simp [List.getD_eq_getElem?_getD, h]

end Go.NatP
