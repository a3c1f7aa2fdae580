/- PLAIN LAW: decimal numbers written and read again; as few digits as can be; off by at most half of the last digit. No program in sight. -/
import Derived.Test.YtnpkmlpmeeidbaaREa
import Derived.Test.YtnpkmlpmeeidbaaRPn
namespace Go.NatP
set_option linter.unusedSimpArgs false

/-! ### as few digits as can be -/
end Go.NatP
/- PLAIN LAW: rounded decimals lie near; digits that repeat are the fraction. No program in sight. -/
namespace Go.NatP
set_option linter.unusedSimpArgs false

/-! ### rounded: off by at most half of the last digit -/
theorem mkRat_neg_iff {n : Int} {d : Nat} (h : d ≠ 0) : mkRat n d < 0 ↔ n < 0 := by
  rw [show (0 : Rat) = mkRat 0 1 from rfl, mkRat_lt_iff h (by decide)]
  simp
/-- the fraction, rounded to k digits -/
def rdQ (q : Rat) (k : Nat) : Rat := mkRat (zv (decide (q.num < 0)) (rdN q.num.natAbs q.den k)) (10 ^ k)
/-! ### digits that repeat -/
theorem rst_step (n d i : Nat) : 10 * rst n d i = dgt n d i * d + rst n d (i + 1) := by
  have := Nat.div_add_mod (10 * rst n d i) d
  show 10 * rst n d i = 10 * rst n d i / d * d + 10 * rst n d i % d
  rw [Nat.mul_comm (_ / d)]
  exact this.symm
/-- the digits from place A on, so many -/
def seg (n d A L : Nat) : List Nat := (List.range L).map fun t => dgt n d (A + t) + 48
theorem seg_len (n d A L : Nat) : (seg n d A L).length = L := by simp [seg]
theorem seg_succ (n d A L : Nat) : seg n d A (L + 1) = seg n d A L ++ [dgt n d (A + L) + 48] := by simp [seg, List.range_succ]
theorem seg_get {n d A L i : Nat} (h : i < L) : (seg n d A L).getD i 0 = dgt n d (A + i) + 48 := by
  simp [seg, List.getD_eq_getElem?_getD, h]
theorem dgs_seg (n d k : Nat) : dgs n d k = seg n d 0 k := by
  unfold dgs seg
  refine List.map_congr_left fun t _ => by rw [Nat.zero_add]
theorem dgs_drop {n d A K : Nat} (h : A ≤ K) : (dgs n d K).drop A = seg n d A (K - A) := by
  refine List.ext_getElem? fun i => ?_
  rw [List.getElem?_drop]
  unfold dgs seg
  rw [List.getElem?_map, List.getElem?_map]
  by_cases hi : i < K - A
  · rw [List.getElem?_range (by omega), List.getElem?_range hi]; rfl
  · rw [List.getElem?_eq_none (by simp; omega), List.getElem?_eq_none (by simp; omega)]; rfl
theorem seg_ok {n d : Nat} (hd : 0 < d) (A : Nat) : ∀ L, okD (seg n d A L) = true
  | 0 => rfl
  | L + 1 => by
    have := dgt_lt (n := n) hd (A + L)
    rw [seg_succ, okD_append, seg_ok hd A L]
    simp [okD]
    omega
theorem seg_num (n d A : Nat) : ∀ L, 10 ^ L * rst n d A = numD (seg n d A L) * d + rst n d (A + L)
  | 0 => by simp [seg, numD]
  | L + 1 => by
    have h1 := seg_num n d A L
    have h2 := rst_step n d (A + L)
    rw [seg_succ, numD_snoc, Nat.add_sub_cancel, Nat.add_mul, Nat.mul_assoc, Nat.pow_succ, Nat.mul_comm (10 ^ L) 10, Nat.mul_assoc, h1, Nat.mul_add, h2, ← Nat.add_assoc]
    rfl
/-- the period's end: what is left comes again -/
structure Per (n d A L : Nat) : Prop where
  pos : 0 < L
  eq : rst n d A = rst n d (A + L)
  nz : rst n d A ≠ 0
  fresh : ∀ j, j < A + L → Fresh n d j
theorem per_some {n d most A K : Nat} (h : PerIs n d most (some (A, K))) : A ≤ K ∧ K ≤ most ∧ (∀ j, j < K → Fresh n d j) ∧ (K = A → rst n d A = 0) ∧ (A < K → Per n d A (K - A)) := by
  obtain ⟨h1, h2, h3⟩ := h
  rcases h3 with ⟨h3, h4, h5⟩ | ⟨h3, h4⟩
  · have e : A + (K - A) = K := by omega
    exact ⟨by omega, h1, h2, fun e => by omega, fun _ => ⟨by omega, by rw [e]; exact h4, by rw [h4]; exact h5, by rw [e]; exact h2⟩⟩
  · exact ⟨by omega, h1, h2, fun e => by rw [h3]; exact h4, fun hh => by omega⟩
section
variable {n d A L : Nat}
theorem Per.num (h : Per n d A L) : numD (seg n d A L) * d = (10 ^ L - 1) * rst n d A := by
  have h1 := seg_num n d A L
  rw [← h.eq] at h1
  rw [Nat.sub_mul, h1]
  omega
/-- the digits go on as they began -/
theorem Per.rst (h : Per n d A L) : ∀ i, rst n d (A + i) = rst n d (A + L + i)
  | 0 => h.eq
  | i + 1 => by
    show 10 * NatP.rst n d (A + i) % d = 10 * NatP.rst n d (A + L + i) % d
    rw [h.rst i]
theorem Per.dgt (h : Per n d A L) (i : Nat) : dgt n d (A + i) = dgt n d (A + L + i) := by
  unfold NatP.dgt
  rw [h.rst i]
theorem Per.more (h : Per n d A L) : 1 < 10 ^ L := Nat.lt_of_lt_of_le (by decide) (Nat.pow_le_pow_right (n := 10) (by decide) h.pos)
/-- not noughts alone, nor nines -/
theorem all_num (c : Nat) : ∀ L, (∀ i, i < L → NatP.dgt n d (A + i) = c) → numD (seg n d A L) * 9 = c * (10 ^ L - 1)
  | 0, _ => by simp [seg, numD]
  | L + 1, h => by
    have h1 := all_num c L fun i hi => h i (by omega)
    have hp : 0 < 10 ^ L := Nat.pow_pos (by decide)
    rw [seg_succ, numD_snoc, Nat.add_sub_cancel, h L (by omega), Nat.add_mul, Nat.mul_assoc, h1, Nat.pow_succ]
    obtain ⟨P, hP⟩ : ∃ P, 10 ^ L = P + 1 := ⟨10 ^ L - 1, by omega⟩
    rw [hP, Nat.add_sub_cancel, show (P + 1) * 10 - 1 = 10 * P + 9 by omega, Nat.mul_add, Nat.mul_left_comm]
theorem Per.not_nought (h : Per n d A L) (h0 : ∀ i, i < L → NatP.dgt n d (A + i) = 0) : False := by
  have h1 := all_num (n := n) (d := d) (A := A) 0 L h0
  have h2 := h.num
  have h3 := h.more
  have h4 : numD (seg n d A L) = 0 := by omega
  rw [h4, Nat.zero_mul] at h2
  rcases Nat.mul_eq_zero.1 h2.symm with h5 | h5
  · omega
  · exact h.nz h5
theorem Per.not_nine (h : Per n d A L) (hd : 0 < d) (h0 : ∀ i, i < L → NatP.dgt n d (A + i) = 9) : False := by
  have h1 := all_num (n := n) (d := d) (A := A) 9 L h0
  have h2 := h.num
  have h3 := h.more
  have h4 : numD (seg n d A L) = 10 ^ L - 1 := by omega
  rw [h4] at h2
  have h5 := Nat.eq_of_mul_eq_mul_left (show 0 < 10 ^ L - 1 by omega) h2
  have h6 := rst_lt (n := n) hd A
  omega
/-- not the same digits twice: turned by less than its length, the period is another one -/
theorem Per.turn (h : Per n d A L) {t : Nat} (ht : 0 < t) (htL : t < L) (hd : L % t = 0) (he : ∀ i, i < L - t → NatP.dgt n d (A + i) = NatP.dgt n d (A + i + t)) : False := by
  have hall : ∀ i, i < L → NatP.dgt n d (A + t + i) = NatP.dgt n d (A + i) := by
    intro i hi
    by_cases h1 : i < L - t
    · rw [he i h1, Nat.add_right_comm]
    · have e1 : NatP.dgt n d (A + t + i) = NatP.dgt n d (A + (i - (L - t))) := by
        rw [h.dgt (i - (L - t))]
        congr 1
        omega
      rw [e1]
      obtain ⟨m, hm⟩ := Nat.dvd_of_mod_eq_zero hd
      have hback : ∀ k j, j + k * t < L → NatP.dgt n d (A + j) = NatP.dgt n d (A + (j + k * t)) := by
        intro k
        induction k with
        | zero => intro j _; simp
        | succ k ih =>
          intro j hj
          rw [Nat.succ_mul] at hj ⊢
          rw [ih j (by omega), he (j + k * t) (by omega)]
          congr 1
          omega
      have hm2 : m = (m - 1) + 1 := by
        cases m with
        | zero => omega
        | succ m => rfl
      have e2 : L = (m - 1) * t + t := by
        rw [hm2, Nat.mul_succ, Nat.mul_comm] at hm
        exact hm
      rw [hback (m - 1) (i - (L - t)) (by omega)]
      congr 1
      omega
  have hs : seg n d (A + t) L = seg n d A L := by
    unfold seg
    refine List.map_congr_left fun i hi => ?_
    rw [hall i (List.mem_range.1 hi)]
  have h1 := seg_num n d A L
  have h2 := seg_num n d (A + t) L
  rw [hs] at h2
  have h3 := h.rst t
  rw [show A + L + t = A + t + L by omega] at h3
  rw [← h3] at h2
  rw [← h.eq] at h1
  have h4 := h.more
  have h5 : (10 ^ L - 1) * NatP.rst n d A = (10 ^ L - 1) * NatP.rst n d (A + t) := by
    rw [Nat.sub_mul, Nat.sub_mul, h1, h2]
    omega
  have h6 := Nat.eq_of_mul_eq_mul_left (show 0 < 10 ^ L - 1 by omega) h5
  exact (h.fresh (A + t) (by omega)).2 A (by omega) h6
/-- the digit ahead of the period is not the period's last one -/
theorem Per.ahead (h : Per n d A L) (hA : 0 < A) : NatP.dgt n d (A - 1) ≠ NatP.dgt n d (A + L - 1) := by
  intro he
  have h1 := rst_step n d (A - 1)
  have h2 := rst_step n d (A + L - 1)
  have hL := h.pos
  rw [show A - 1 + 1 = A by omega] at h1
  rw [show A + L - 1 + 1 = A + L by omega, ← h.eq, ← he, ← h1] at h2
  exact (h.fresh (A + L - 1) (by omega)).2 (A - 1) (by omega) (by omega)
end
theorem last_nz {n d A : Nat} (hA : 0 < A) (h0 : rst n d A = 0) (hF : ∀ j, j < A → Fresh n d j) : dgt n d (A - 1) ≠ 0 := by
  intro he
  have h1 := rst_step n d (A - 1)
  rw [show A - 1 + 1 = A by omega, h0, he] at h1
  exact (hF (A - 1) (by omega)).1 (by omega)
/-- the digits are the fraction, where they end -/
theorem rep_end {n d A : Nat} (hd : d ≠ 0) (h : rst n d A = 0) : mkRat (numD (seg n d 0 A) : Int) 1 * mkRat 1 (10 ^ A) = mkRat ((n % d : Nat) : Int) d := by
  have h1 := seg_num n d 0 A
  rw [Nat.zero_add, h, Nat.add_zero] at h1
  rw [← qv_mul, Rat.mkRat_eq_iff (Nat.mul_ne_zero (by decide) (Nat.ne_of_gt (Nat.pow_pos (by decide)))) hd, Int.mul_one, Nat.one_mul, ← Int.natCast_mul, ← Int.natCast_mul, ← h1, Nat.mul_comm]
  rfl
theorem rep_per {n d A L : Nat} (hd : d ≠ 0) (h : Per n d A L) : (mkRat (numD (seg n d 0 A) : Int) 1 + mkRat (numD (seg n d A L) : Int) (10 ^ L - 1)) * mkRat 1 (10 ^ A) = mkRat ((n % d : Nat) : Int) d := by
  have h1 := seg_num n d 0 A
  have h2 := h.num
  have h3 := h.more
  have hA : (10 : Nat) ^ A ≠ 0 := Nat.ne_of_gt (Nat.pow_pos (by decide))
  rw [Nat.zero_add] at h1
  rw [← qv_add _ _ (by decide) (show 10 ^ L - 1 ≠ 0 by omega), ← qv_mul, Rat.mkRat_eq_iff (Nat.mul_ne_zero (Nat.mul_ne_zero (by decide) (by omega)) hA) hd]
  generalize 10 ^ L - 1 = N at *
  generalize numD (seg n d A L) = Q at *
  generalize numD (seg n d 0 A) = P at *
  have h4 : (P * N + Q) * d = n % d * (N * 10 ^ A) := by
    have : 10 ^ A * (n % d) = P * d + rst n d A := h1
    rw [Nat.add_mul, h2, Nat.mul_left_comm, Nat.mul_comm (n % d), this, Nat.mul_add, Nat.mul_right_comm, Nat.mul_comm (P * d)]
  have h5 : ((P * N + Q : Nat) : Int) * (d : Int) = ((n % d : Nat) : Int) * ((N * 10 ^ A : Nat) : Int) := by
    rw [← Int.natCast_mul, ← Int.natCast_mul, h4]
  rw [Nat.one_mul]
  simpa using h5
end Go.NatP
