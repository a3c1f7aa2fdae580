/- PLAIN ARITHMETIC, 15: divisors taken out; what is left behind the point, and when it comes again. No program in sight. -/
import Derived.Test.YtnpkmlpmeeidbaaRPP
namespace Go.NatP

/-- a divisor taken out, at most k times: what is left, and how often -/
def outN (p : Nat) : Nat → Nat → Nat × Nat
  | 0, n => (n, 0)
  | k + 1, n => if n % p = 0 then ((outN p k (n / p)).1, (outN p k (n / p)).2 + 1) else (n, 0)
theorem outN_stop {p n : Nat} (k : Nat) (h : n % p ≠ 0) : outN p k n = (n, 0) := by
  cases k
  · rfl
  · rw [outN, if_neg h]
theorem outN_step {p n : Nat} (k : Nat) (h : n % p = 0) : outN p (k + 1) n = ((outN p k (n / p)).1, (outN p k (n / p)).2 + 1) := by
  rw [outN, if_pos h]
theorem outN_spec (p : Nat) : ∀ k n, n = p ^ (outN p k n).2 * (outN p k n).1 ∧ (outN p k n).2 ≤ k ∧ ((outN p k n).2 < k → (outN p k n).1 % p ≠ 0)
  | 0, n => ⟨by simp [outN], by simp [outN], by simp [outN]⟩
  | k + 1, n => by
    by_cases h : n % p = 0
    · obtain ⟨h1, h2, h3⟩ := outN_spec p k (n / p)
      rw [outN_step k h]
      refine ⟨?_, by simp; omega, fun h4 => h3 (by simp at h4; omega)⟩
      show n = p ^ ((outN p k (n / p)).2 + 1) * (outN p k (n / p)).1
      rw [Nat.pow_succ, Nat.mul_assoc, Nat.mul_left_comm, ← h1]
      exact (Nat.mul_div_cancel' (Nat.dvd_of_mod_eq_zero h)).symm
    · rw [outN_stop _ h]
      exact ⟨by simp, by simp, fun _ => h⟩
/-- what is left of a fraction behind i digits -/
def rst (n d : Nat) : Nat → Nat
  | 0 => n % d
  | i + 1 => 10 * rst n d i % d
/-- the digit behind the point, the i-th -/
def dgt (n d i : Nat) : Nat := 10 * rst n d i / d
theorem rst_eq (n d : Nat) : ∀ i, rst n d i = 10 ^ i * n % d
  | 0 => by simp [rst]
  | i + 1 => by rw [rst, rst_eq n d i, Nat.mul_mod_mod, Nat.pow_succ, Nat.mul_comm (10 ^ i) 10, Nat.mul_assoc]
theorem rst_lt {n d : Nat} (h : 0 < d) (i : Nat) : rst n d i < d := by
  cases i
  · exact Nat.mod_lt _ h
  · exact Nat.mod_lt _ h
theorem dgt_lt {n d : Nat} (h : 0 < d) (i : Nat) : dgt n d i < 10 := by
  unfold dgt
  rw [Nat.div_lt_iff_lt_mul h]
  have := rst_lt (n := n) h i
  exact Nat.mul_lt_mul_of_pos_left this (by decide)
theorem rst_zero {n d i : Nat} (hc : Nat.Coprime n d) : rst n d i = 0 ↔ d ∣ 10 ^ i := by
  rw [rst_eq]
  constructor
  · intro h
    exact Nat.Coprime.dvd_of_dvd_mul_right hc.symm (Nat.dvd_of_mod_eq_zero h)
  · intro h
    exact Nat.mod_eq_zero_of_dvd (Nat.dvd_trans h (Nat.dvd_mul_right _ _))
theorem mod_eq_of_dvd_sub {a b d : Nat} (h : b ≤ a) (hd : d ∣ a - b) : b % d = a % d := by
  obtain ⟨c, hc⟩ := hd
  have : a = b + d * c := by omega
  rw [this, Nat.add_mul_mod_self_left]
theorem rst_same {n d i k : Nat} (hc : Nat.Coprime n d) : rst n d i = rst n d (i + k) ↔ d ∣ 10 ^ i * (10 ^ k - 1) := by
  have hs : 10 ^ (i + k) * n - 10 ^ i * n = 10 ^ i * (10 ^ k - 1) * n := by
    rw [Nat.pow_add, ← Nat.sub_mul, Nat.mul_sub, Nat.mul_one]
  have hle : 10 ^ i * n ≤ 10 ^ (i + k) * n := Nat.mul_le_mul_right _ (Nat.pow_le_pow_right (by decide) (by omega))
  rw [rst_eq, rst_eq]
  constructor
  · intro h
    have h1 := Nat.dvd_of_mod_eq_zero (Nat.sub_mod_eq_zero_of_mod_eq h.symm)
    rw [hs] at h1
    exact Nat.Coprime.dvd_of_dvd_mul_right hc.symm h1
  · intro h
    refine mod_eq_of_dvd_sub hle ?_
    rw [hs]
    exact Nat.dvd_trans h (Nat.dvd_mul_right _ _)

/-- i is not less than how often p divides d, where d divides 10^i times what p does not divide -/
theorem pow_dvd_le {p i t x : Nat} (hp : p = 2 ∨ p = 5) (hx : Nat.Coprime p x) (h : p ^ t ∣ 10 ^ i * x) : t ≤ i := by
  have h1 : p ^ t ∣ 10 ^ i := Nat.Coprime.dvd_of_dvd_mul_right (Nat.Coprime.pow_left t hx) h
  have hq : ∃ q, 10 = p * q ∧ Nat.Coprime p q := by
    rcases hp with rfl | rfl
    · exact ⟨5, rfl, by decide⟩
    · exact ⟨2, rfl, by decide⟩
  obtain ⟨q, h10, hpq⟩ := hq
  rw [h10, Nat.mul_pow] at h1
  have h2 : p ^ t ∣ p ^ i := Nat.Coprime.dvd_of_dvd_mul_right (Nat.Coprime.pow _ _ hpq) h1
  have hp1 : 1 < p := by omega
  exact (Nat.pow_dvd_pow_iff_le_right hp1).1 h2
theorem coprime_pred {p k : Nat} (hp : p = 2 ∨ p = 5) (hk : 0 < k) : Nat.Coprime p (10 ^ k - 1) := by
  have h1 : 10 ^ k = 10 * 10 ^ (k - 1) := by
    rw [show k = k - 1 + 1 by omega, Nat.pow_succ, Nat.mul_comm]; rfl
  have hpos : 0 < 10 ^ (k - 1) := Nat.pow_pos (by decide)
  have h2 : Nat.gcd p (10 ^ k - 1) ∣ 1 := by
    have ha : Nat.gcd p (10 ^ k - 1) ∣ 10 ^ k := Nat.dvd_trans (Nat.gcd_dvd_left _ _) (by
      rw [h1]
      refine Nat.dvd_trans ?_ (Nat.dvd_mul_right _ _)
      rcases hp with rfl | rfl
      · exact ⟨5, rfl⟩
      · exact ⟨2, rfl⟩)
    have hb : Nat.gcd p (10 ^ k - 1) ∣ 10 ^ k - 1 := Nat.gcd_dvd_right _ _
    have := Nat.dvd_sub ha hb
    rwa [show 10 ^ k - (10 ^ k - 1) = 1 by omega] at this
  exact Nat.dvd_one.1 h2

/-- d is twos and fives and what is coprime to ten -/
structure Split (d a b m : Nat) : Prop where
  eq : d = 2 ^ a * (5 ^ b * m)
  two : Nat.Coprime 2 m
  five : Nat.Coprime 5 m
theorem Split.ten {d a b m : Nat} (h : Split d a b m) : Nat.Coprime m 10 := (show Nat.Coprime m (2 * 5) from Nat.Coprime.mul_right h.two.symm h.five.symm)
theorem Split.dvd {d a b m i x : Nat} (h : Split d a b m) (ha : a ≤ i) (hb : b ≤ i) (hx : m ∣ x) : d ∣ 10 ^ i * x := by
  rw [h.eq, show (10 : Nat) ^ i = 2 ^ i * 5 ^ i by rw [← Nat.mul_pow], Nat.mul_assoc]
  exact Nat.mul_dvd_mul (Nat.pow_dvd_pow _ ha) (Nat.mul_dvd_mul (Nat.pow_dvd_pow _ hb) hx)
theorem Split.le {d a b m i x : Nat} (h : Split d a b m) (hx2 : Nat.Coprime 2 x) (hx5 : Nat.Coprime 5 x) (hd : d ∣ 10 ^ i * x) : a ≤ i ∧ b ≤ i ∧ m ∣ x := by
  rw [h.eq] at hd
  refine ⟨pow_dvd_le (.inl rfl) hx2 (Nat.dvd_trans (Nat.dvd_mul_right _ _) hd), pow_dvd_le (.inr rfl) hx5 (Nat.dvd_trans (Nat.dvd_trans (Nat.dvd_mul_right _ _) (Nat.dvd_mul_left _ _)) hd), ?_⟩
  have h1 : m ∣ 10 ^ i * x := Nat.dvd_trans (Nat.dvd_trans (Nat.dvd_mul_left _ _) (Nat.dvd_mul_left _ _)) hd
  exact Nat.Coprime.dvd_of_dvd_mul_left (Nat.Coprime.pow_right i h.ten) h1
theorem copr_of_mod {p n : Nat} (hp : p = 2 ∨ p = 5) (h : n % p ≠ 0) : Nat.Coprime p n := by
  rcases hp with rfl | rfl
  · show Nat.gcd 2 n = 1
    rw [Nat.gcd_rec]
    have : n % 2 = 1 := by omega
    rw [this]; rfl
  · show Nat.gcd 5 n = 1
    rw [Nat.gcd_rec]
    have : n % 5 = 1 ∨ n % 5 = 2 ∨ n % 5 = 3 ∨ n % 5 = 4 := by omega
    rcases this with h | h | h | h <;> rw [h] <;> rfl
/-- twos taken out, then fives of what is left -/
theorem split_of {d K : Nat} (h2 : (outN 2 K d).2 < K) (h5 : (outN 5 K (outN 2 K d).1).2 < K) : Split d (outN 2 K d).2 (outN 5 K (outN 2 K d).1).2 (outN 5 K (outN 2 K d).1).1 := by
  obtain ⟨e1, -, g1⟩ := outN_spec 2 K d
  obtain ⟨e2, -, g2⟩ := outN_spec 5 K (outN 2 K d).1
  refine ⟨by rw [← e2]; exact e1, ?_, copr_of_mod (.inr rfl) (g2 h5)⟩
  have h := copr_of_mod (.inl rfl) (g1 h2)
  rw [e2] at h
  exact Nat.Coprime.coprime_mul_left_right h
/-- twos and fives, each taken out of d itself -/
theorem split_of2 {d K : Nat} (h2 : (outN 2 K d).2 < K) (h5 : (outN 5 K d).2 < K) : ∃ m, Split d (outN 2 K d).2 (outN 5 K d).2 m := by
  obtain ⟨e1, -, g1⟩ := outN_spec 2 K d
  obtain ⟨e2, -, g2⟩ := outN_spec 5 K d
  have h : 5 ^ (outN 5 K d).2 ∣ (outN 2 K d).1 := by
    have : 5 ^ (outN 5 K d).2 ∣ 2 ^ (outN 2 K d).2 * (outN 2 K d).1 := by
      rw [← e1]; exact ⟨_, e2⟩
    exact Nat.Coprime.dvd_of_dvd_mul_left (Nat.Coprime.pow _ _ (by decide)) this
  obtain ⟨m, hm⟩ := h
  have c2 := copr_of_mod (.inl rfl) (g1 h2)
  rw [hm] at c2
  have hd : d = 2 ^ (outN 2 K d).2 * (5 ^ (outN 5 K d).2 * m) := by rw [← hm]; exact e1
  have e5 : (outN 5 K d).1 = 2 ^ (outN 2 K d).2 * m := by
    have h3 : 5 ^ (outN 5 K d).2 * (outN 5 K d).1 = 5 ^ (outN 5 K d).2 * (2 ^ (outN 2 K d).2 * m) := by
      rw [← e2, Nat.mul_left_comm]; exact hd
    exact Nat.eq_of_mul_eq_mul_left (Nat.pow_pos (by decide)) h3
  have c5 := copr_of_mod (.inr rfl) (g2 h5)
  rw [e5] at c5
  exact ⟨m, hd, Nat.Coprime.coprime_mul_left_right c2, Nat.Coprime.coprime_mul_left_right c5⟩
/-- nothing is left behind j digits that was left before, and something is left -/
def Fresh (n d j : Nat) : Prop := rst n d j ≠ 0 ∧ ∀ i, i < j → rst n d i ≠ rst n d j
/-- the digits end, or come again: how many stand ahead, and how many there are in all; none: not within most -/
def PerIs (n d most : Nat) : Option (Nat × Nat) → Prop
  | some (A, K) => K ≤ most ∧ (∀ j, j < K → Fresh n d j) ∧ (A < K ∧ rst n d A = rst n d K ∧ rst n d K ≠ 0 ∨ A = K ∧ rst n d K = 0)
  | none => ∀ j, j ≤ most → Fresh n d j
theorem per_all (n d : Nat) : ∀ m, (∀ j, j < m → Fresh n d j) ∨ ∃ K, K < m ∧ ¬ Fresh n d K ∧ ∀ j, j < K → Fresh n d j
  | 0 => .inl fun j h => absurd h (Nat.not_lt_zero _)
  | m + 1 => by
    rcases per_all n d m with h | ⟨K, h1, h2⟩
    · by_cases hf : Fresh n d m
      · refine .inl fun j hj => ?_
        by_cases e : j = m
        · rw [e]; exact hf
        · exact h j (by omega)
      · exact .inr ⟨m, by omega, hf, h⟩
    · exact .inr ⟨K, by omega, h2⟩
theorem per_exists (n d most : Nat) : ∃ R, PerIs n d most R := by
  rcases per_all n d (most + 1) with h | ⟨K, h1, h2, h3⟩
  · exact ⟨none, fun j hj => h j (by omega)⟩
  · by_cases h0 : rst n d K = 0
    · exact ⟨some (K, K), by omega, h3, .inr ⟨rfl, h0⟩⟩
    · obtain ⟨A, hA⟩ : ∃ A, A < K ∧ rst n d A = rst n d K := Classical.byContradiction fun hn => h2 ⟨h0, fun i hi e => hn ⟨i, hi, e⟩⟩
      exact ⟨some (A, K), by omega, h3, .inl ⟨hA.1, hA.2, h0⟩⟩
theorem outN_dvd (p k n : Nat) : p ^ (outN p k n).2 ∣ n := ⟨_, (outN_spec p k n).1⟩
/-- as many digits stand ahead as twos or fives are in the denominator -/
theorem per_ahead {n d most A K : Nat} (hc : Nat.Coprime n d) (h : PerIs n d most (some (A, K))) : max (outN 2 (most + 1) d).2 (outN 5 (most + 1) d).2 = A := by
  obtain ⟨hK, hF, hcase⟩ := h
  obtain ⟨t, ht⟩ : ∃ t, (outN 2 (most + 1) d).2 = t := ⟨_, rfl⟩
  obtain ⟨u, hu⟩ : ∃ u, (outN 5 (most + 1) d).2 = u := ⟨_, rfl⟩
  have d2 := outN_dvd 2 (most + 1) d
  have d5 := outN_dvd 5 (most + 1) d
  rw [ht] at d2
  rw [hu] at d5
  have main : ∀ i x, i ≤ most → Nat.Coprime 2 x → Nat.Coprime 5 x → d ∣ 10 ^ i * x → max t u ≤ i ∧ d ∣ 10 ^ (max t u) * x := by
    intro i x hi h2 h5 hd
    have l2 := pow_dvd_le (.inl rfl) h2 (Nat.dvd_trans d2 hd)
    have l5 := pow_dvd_le (.inr rfl) h5 (Nat.dvd_trans d5 hd)
    obtain ⟨m, hm⟩ := split_of2 (d := d) (K := most + 1) (by omega) (by omega)
    rw [ht, hu] at hm
    exact ⟨by omega, hm.dvd (by omega) (by omega) (hm.le h2 h5 hd).2.2⟩
  rw [ht, hu]
  rcases hcase with ⟨hAK, he, _⟩ | ⟨rfl, h0⟩
  · obtain ⟨k, rfl⟩ : ∃ k, K = A + k := ⟨K - A, by omega⟩
    have h1 := (rst_same hc).1 he
    obtain ⟨h2, h3⟩ := main A _ (by omega) (coprime_pred (.inl rfl) (by omega)) (coprime_pred (.inr rfl) (by omega)) h1
    have h4 := (rst_same hc).2 h3
    by_cases hlt : max t u < A
    · exact absurd h4 ((hF (max t u + k) (by omega)).2 _ (by omega))
    · omega
  · have h1 := (rst_zero hc).1 h0
    obtain ⟨h2, h3⟩ := main A 1 hK (Nat.coprime_one_right_eq_true 2 ▸ trivial) (Nat.coprime_one_right_eq_true 5 ▸ trivial) (by rw [Nat.mul_one]; exact h1)
    rw [Nat.mul_one] at h3
    have h4 := (rst_zero hc).2 h3
    by_cases hlt : max t u < A
    · exact absurd h4 (hF _ hlt).1
    · omega
/-- the first digits -/
def dgs (n d k : Nat) : List Nat := (List.range k).map fun t => dgt n d t + 48
theorem dgs_len (n d k : Nat) : (dgs n d k).length = k := by simp [dgs]
theorem dgs_succ (n d k : Nat) : dgs n d (k + 1) = dgs n d k ++ [dgt n d k + 48] := by simp [dgs, List.range_succ]

/-- is a power of ten divided? as many digits as there are twos or fives, and nothing else -/
theorem ten_dvd {d k K : Nat} (hk : k < K) (h : d ∣ 10 ^ k) : (outN 2 K d).2 ≤ k ∧ (outN 5 K (outN 2 K d).1).2 ≤ k ∧ (outN 5 K (outN 2 K d).1).1 = 1 := by
  have e1 : d ∣ 10 ^ k * 1 := by rw [Nat.mul_one]; exact h
  have l2 := pow_dvd_le (x := 1) (.inl rfl) (by decide) (Nat.dvd_trans (outN_dvd 2 K d) e1)
  have l5 : (outN 5 K (outN 2 K d).1).2 ≤ k := by
    refine pow_dvd_le (x := 1) (.inr rfl) (by decide) (Nat.dvd_trans (outN_dvd 5 K _) (Nat.dvd_trans ?_ e1))
    exact ⟨2 ^ (outN 2 K d).2, by rw [Nat.mul_comm]; exact (outN_spec 2 K d).1⟩
  have hs := split_of (d := d) (K := K) (by omega) (by omega)
  exact ⟨l2, l5, Nat.dvd_one.1 (hs.le (by decide) (by decide) e1).2.2⟩
theorem dvd_ten {d k K : Nat} (h2 : (outN 2 K d).2 ≤ k) (h5 : (outN 5 K (outN 2 K d).1).2 ≤ k) (h1 : (outN 5 K (outN 2 K d).1).1 = 1) : d ∣ 10 ^ k := by
  have e1 := (outN_spec 2 K d).1
  have e2 := (outN_spec 5 K (outN 2 K d).1).1
  rw [h1, Nat.mul_one] at e2
  rw [e2] at e1
  rw [e1, show (10 : Nat) ^ k = 2 ^ k * 5 ^ k by rw [← Nat.mul_pow]]
  exact Nat.mul_dvd_mul (Nat.pow_dvd_pow _ h2) (Nat.pow_dvd_pow _ h5)
end Go.NatP
/- PLAIN LAW: decimal numbers as texts: what the program takes apart and what the document takes apart are alike; texts with a point. No program in sight. -/
namespace Go.NatP
set_option linter.unusedSimpArgs false

/-- a digit's byte -/
def isD (c : Nat) : Bool := decide (48 ≤ c) && decide (c ≤ 57)
theorem okD_all (l : List Nat) : okD l = l.all isD := rfl
theorem okD_cons (c : Nat) (l : List Nat) : okD (c :: l) = (isD c && okD l) := rfl
theorem okD_app (l m : List Nat) : okD (l ++ m) = (okD l && okD m) := by simp [okD_all]
/-- the digits that a text begins with, and what stands behind them -/
def dgA (l : List Nat) : List Nat := l.takeWhile isD
def dgB (l : List Nat) : List Nat := l.dropWhile isD
theorem dgAB (l : List Nat) : dgA l ++ dgB l = l := List.takeWhile_append_dropWhile
theorem okD_dgA : ∀ l : List Nat, okD (dgA l) = true
  | [] => rfl
  | c :: l => by
    unfold dgA
    rw [List.takeWhile_cons]
    split
    · rename_i h
      rw [okD_cons, h]
      exact okD_dgA l
    · rfl
/-- how many digits a text begins with -/
def dgw (l : List Nat) : Nat := (dgA l).length
theorem dgw_le (l : List Nat) : dgw l ≤ l.length := by
  have := congrArg List.length (dgAB l)
  rw [List.length_append] at this
  unfold dgw
  omega
theorem dgA_take (l : List Nat) : l.take (dgw l) = dgA l := by
  have h := List.take_left' (l₁ := dgA l) (l₂ := dgB l) (i := dgw l) rfl
  rwa [dgAB] at h
theorem dgB_drop (l : List Nat) : l.drop (dgw l) = dgB l := by
  have h := List.drop_left' (l₁ := dgA l) (l₂ := dgB l) (i := dgw l) rfl
  rwa [dgAB] at h
theorem dgw_eq : ∀ {l : List Nat} {i : Nat}, okD (l.take i) = true → i ≤ l.length → (i = l.length ∨ isD (l.getD i 0) = false) → dgw l = i
  | [], i, _, hi, _ => by simp at hi; subst hi; rfl
  | c :: l, 0, _, _, h => by
    rcases h with h | h
    · simp at h
    · have : isD c = false := by simpa using h
      unfold dgw dgA
      rw [List.takeWhile_cons, this]
      rfl
  | c :: l, i + 1, ho, hi, h => by
    rw [List.take_succ_cons, okD_cons, Bool.and_eq_true] at ho
    have := dgw_eq (l := l) (i := i) ho.2 (by simpa using hi) (by
      rcases h with h | h
      · exact .inl (by simpa using h)
      · exact .inr (by simpa using h))
    unfold dgw dgA at this ⊢
    rw [List.takeWhile_cons, ho.1]
    simpa using this
theorem dgw_all {l : List Nat} : dgw l = l.length ↔ okD l = true := by
  constructor
  · intro h
    have h1 := dgA_take l
    rw [h, List.take_length] at h1
    rw [h1]; exact okD_dgA l
  · intro h
    exact dgw_eq (by rw [List.take_length]; exact h) (Nat.le_refl _) (.inl rfl)

/-! ### the exponent -/
/-- a sign ahead of the exponent's digits: is it below 0, and what stands behind -/
def exS : List Nat → Bool × List Nat
  | [] => (false, [])
  | c :: t => if c = 45 then (true, t) else if c = 43 then (false, t) else (false, c :: t)
def exV (d : Bool) (n : Nat) : Int := if d then -(n : Int) else n
/-- what stands behind e or E -/
def exT (t : List Nat) : Option Int := if (exS t).2 ≠ [] ∧ okD (exS t).2 = true ∧ numD (exS t).2 ≤ 1000 then some (exV (exS t).1 (numD (exS t).2)) else none
/-- what stands behind the digits -/
def exP : List Nat → Option Int
  | [] => some 0
  | c :: t => if c = 101 ∨ c = 69 then exT t else none
theorem exP_e {c : Nat} (t : List Nat) (h : c = 101 ∨ c = 69) : exP (c :: t) = exT t := if_pos h
theorem exP_no {c : Nat} (t : List Nat) (h : ¬ (c = 101 ∨ c = 69)) : exP (c :: t) = none := if_neg h
/-- a sign ahead of a number -/
def sgS : List Nat → Bool × List Nat
  | [] => (false, [])
  | c :: t => if c = 45 then (true, t) else (false, c :: t)
/-! ### the program's way -/
def dcG (A B r : List Nat) : Option (List Nat × Int) := if A = [] then none else (exP r).map fun e => (A ++ B, e - (B.length : Int))
def dcU (s : List Nat) : Option (List Nat × Int) :=
  match dgB s with
  | [] => dcG (dgA s) [] []
  | c :: t => if c = 46 then (if dgA t = [] then none else dcG (dgA s) (dgA t) (dgB t)) else dcG (dgA s) [] (c :: t)
/-- a decimal number: is it below 0, its digits, its exponent -/
def dcP (l : List Nat) : Option (Bool × List Nat × Int) := (dcU (sgS l).2).map fun p => ((sgS l).1, p)
/-! ### the document's way -/
theorem okD_mem {l : List Nat} (h : okD l = true) {c : Nat} (hc : c ∈ l) : 48 ≤ c ∧ c ≤ 57 := by
  rw [okD_all, List.all_eq_true] at h
  have := h c hc
  simpa [isD] using this
/-! ### the value -/
/-- a decimal number's value -/
def dcV (p : Bool × List Nat × Int) : Rat := if 0 ≤ p.2.2 then mkRat (zv p.1 (numD p.2.1 * 10 ^ p.2.2.toNat)) 1 else mkRat (zv p.1 (numD p.2.1)) (10 ^ (-p.2.2).toNat)
def dcQ (l : List Nat) : Rat := match dcP l with | some p => dcV p | none => 0
def dcE (l : List Nat) : Int := match dcP l with | some _ => 0 | none => 22

/-! ### texts with a point -/
/-- noughts ahead, so that more than so many digits stand there -/
def pad (s : List Nat) (k : Nat) : List Nat := List.replicate (k + 1 - s.length) 48 ++ s
theorem pad_long {s : List Nat} {k : Nat} (h : k < s.length) : pad s k = s := by unfold pad; rw [show k + 1 - s.length = 0 by omega]; rfl
theorem pad_len (s : List Nat) (k : Nat) : (pad s k).length = max s.length (k + 1) := by unfold pad; simp; omega
/-- a whole number's text, with a point ahead of the last k digits -/
def ptd (v k : Nat) : List Nat := if k = 0 then tx v else (pad (tx v) k).take ((pad (tx v) k).length - k) ++ 46 :: (pad (tx v) k).drop ((pad (tx v) k).length - k)
/-- rounded to k digits: the number above the power of ten -/
def rdN (n d k : Nat) : Nat := (2 * n * 10 ^ k + d) / (2 * d)
/-! ### written exactly -/
/-- as many digits behind the point as are needed: the least power of ten that is divided, of those up to the 4096th -/
def ExIs (d : Nat) : Option Nat → Prop
  | some n => n ≤ 4096 ∧ d ∣ 10 ^ n ∧ ∀ k, k < n → ¬ d ∣ 10 ^ k
  | none => ∀ k, k ≤ 4096 → ¬ d ∣ 10 ^ k
theorem ex_some {d n : Nat} (h : ExIs d (some n)) : max (outN 2 4097 d).2 (outN 5 4097 (outN 2 4097 d).1).2 = n ∧ (outN 5 4097 (outN 2 4097 d).1).1 = 1 ∧ n ≤ 4096 := by
  obtain ⟨h1, h2, h3⟩ := h
  obtain ⟨a, b, c⟩ := ten_dvd (K := 4097) (by omega) h2
  have h4 := dvd_ten (d := d) (k := max (outN 2 4097 d).2 (outN 5 4097 (outN 2 4097 d).1).2) (K := 4097) (by omega) (by omega) c
  have h5 := mt (h3 (max (outN 2 4097 d).2 (outN 5 4097 (outN 2 4097 d).1).2)) (fun hn => hn h4)
  exact ⟨by omega, c, h1⟩
theorem ex_none {d : Nat} (h : ExIs d none) : 4096 < max (outN 2 4097 d).2 (outN 5 4097 (outN 2 4097 d).1).2 ∨ (outN 5 4097 (outN 2 4097 d).1).1 ≠ 1 := by
  by_cases h1 : (outN 5 4097 (outN 2 4097 d).1).1 = 1
  · refine .inl (Nat.lt_of_not_le fun hle => ?_)
    exact h _ hle (dvd_ten (K := 4097) (by omega) (by omega) h1)
  · exact .inr h1
end Go.NatP
