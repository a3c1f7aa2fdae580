/- PLAIN ARITHMETIC: the simplest fraction from one to another: it lies there, and has the least denominator and the least numerator of all that lie there. No program in sight. -/
import Derived.Test.YtenmjgnhneofjaaPP
namespace Go.NatP
set_option linter.unusedVariables false

/-- the simplest fraction of two above 0, in at most k steps -/
def smp : Nat → Rat → Rat → Rat
  | 0, _, _ => 0
  | k + 1, a, b => if (a.floor : Rat) = a then (a.floor : Rat) else if (a.floor : Rat) + 1 ≤ b then (a.floor : Rat) + 1 else (a.floor : Rat) + 1 / smp k (1 / (b - (a.floor : Rat))) (1 / (a - (a.floor : Rat)))

theorem add_int (a : Rat) (n : Int) : ((n : Rat) + a).num = n * a.den + a.num ∧ ((n : Rat) + a).den = a.den := by
  have c : (n * a.den + a.num).natAbs.Coprime a.den := by
    have h : Int.gcd (n * a.den + a.num) a.den = Int.gcd a.num a.den := by
      rw [Int.add_comm, Int.gcd_add_mul_right_left]
    have h2 := a.reduced
    show Nat.gcd _ _ = 1
    have h3 : Int.gcd (n * a.den + a.num) (a.den : Int) = Nat.gcd (n * a.den + a.num).natAbs a.den := rfl
    rw [← h3, h]
    exact h2
  have e : (n : Rat) + a = ⟨n * a.den + a.num, a.den, a.den_nz, c⟩ := by
    rw [Rat.add_def', Rat.mk_eq_mkRat]
    simp
  rw [e]
  exact ⟨rfl, rfl⟩
theorem sub_int (a : Rat) (n : Int) : (a - (n : Rat)).num = a.num - n * a.den ∧ (a - (n : Rat)).den = a.den := by
  have h : a - (n : Rat) = ((-n : Int) : Rat) + a := by rw [Rat.intCast_neg, Rat.sub_eq_add_neg, Rat.add_comm]
  rw [h]
  obtain ⟨h1, h2⟩ := add_int a (-n)
  exact ⟨by rw [h1, Int.neg_mul]; omega, h2⟩
theorem inv_pos {q : Rat} (h : 0 < q.num) : (1 / q).num = q.den ∧ ((1 / q).den : Int) = q.num := by
  rw [Rat.div_def, Rat.one_mul, Rat.num_inv, Rat.den_inv, Int.sign_eq_one_of_pos h, if_neg (by omega)]
  exact ⟨by simp, by omega⟩
theorem num_pos_iff (q : Rat) : 0 < q ↔ 0 < q.num := by rw [Rat.lt_iff]; simp
theorem den_pos' (q : Rat) : (0 : Int) < q.den := by have := q.den_nz; omega

/-- what the walk and the law both need of one step: the numbers of all that comes -/
structure SmpIn (a b : Rat) : Prop where
  pos : 0 < a.num
  le : a.num * b.den ≤ b.num * a.den
/-- what is left of both, turned, where no whole number lies between -/
theorem smp_step {a b : Rat} (h : SmpIn a b) (h1 : (a.floor : Rat) ≠ a) (h2 : ¬ (a.floor : Rat) + 1 ≤ b) :
    ∃ n r t : Int, a.floor = n ∧ 0 ≤ n ∧ 0 < r ∧ r < a.den ∧ 0 < t ∧ t < b.den ∧ a.num = n * a.den + r ∧ b.num = n * b.den + t ∧
      (1 / (a - (a.floor : Rat))).num = a.den ∧ ((1 / (a - (a.floor : Rat))).den : Int) = r ∧ (1 / (b - (a.floor : Rat))).num = b.den ∧ ((1 / (b - (a.floor : Rat))).den : Int) = t ∧ r * b.den ≤ t * a.den := by
  have hd := den_pos' a
  have he := den_pos' b
  have hn0 : 0 ≤ a.floor := by rw [Rat.floor_def]; exact Int.ediv_nonneg (by have := h.pos; omega) (by omega)
  have hdm := Int.mul_ediv_add_emod a.num a.den
  have hr0 := Int.emod_nonneg a.num (show (a.den : Int) ≠ 0 by omega)
  have hr1 := Int.emod_lt_of_pos a.num hd
  have hfl : a.floor = a.num / a.den := Rat.floor_def a
  obtain ⟨sa1, sa2⟩ := sub_int a a.floor
  obtain ⟨sb1, sb2⟩ := sub_int b a.floor
  have hrne : a.num % a.den ≠ 0 := by
    intro e
    apply h1
    have : a.num = a.floor * a.den := by rw [hfl, Int.mul_comm]; omega
    have hz : (a - (a.floor : Rat)).num = 0 := by rw [sa1]; omega
    have := Rat.num_eq_zero.1 hz
    have h3 : (a.floor : Rat) = a := by
      have h4 : a - (a.floor : Rat) + (a.floor : Rat) = 0 + (a.floor : Rat) := by rw [this]
      rw [Rat.sub_add_cancel, Rat.zero_add] at h4
      exact h4.symm
    exact h3
  have hb2 : b.num < (a.floor + 1) * b.den := by
    have h3 : b < ((a.floor + 1 : Int) : Rat) := by
      rw [Rat.intCast_add]; exact Rat.not_le.1 h2
    rw [Rat.lt_iff, Rat.num_intCast, Rat.den_intCast] at h3
    simpa using h3
  have hq : a.floor * a.den + a.num % a.den = a.num := by rw [hfl, Int.mul_comm]; exact hdm
  have hcr : a.num % a.den * b.den ≤ (b.num - a.floor * b.den) * a.den := by
    have h3 := h.le
    rw [← hq, Int.add_mul] at h3
    rw [Int.sub_mul]
    have e1 : a.floor * (a.den : Int) * b.den = a.floor * b.den * a.den := by rw [Int.mul_assoc, Int.mul_comm (a.den : Int), ← Int.mul_assoc]
    omega
  have ht0 : 0 < b.num - a.floor * b.den := by
    have h3 : 0 < a.num % a.den * b.den := Int.mul_pos (by omega) he
    have h4 : 0 < (b.num - a.floor * b.den) * a.den := by omega
    exact Int.pos_of_mul_pos_left h4 (by omega)
  have ht1 : b.num - a.floor * b.den < b.den := by rw [Int.add_mul] at hb2; omega
  have ea := inv_pos (q := a - (a.floor : Rat)) (by rw [sa1]; omega)
  have eb := inv_pos (q := b - (a.floor : Rat)) (by rw [sb1]; omega)
  refine ⟨a.floor, a.num % a.den, b.num - a.floor * b.den, rfl, hn0, by omega, hr1, ht0, ht1, hq.symm, by omega, ?_, ?_, ?_, ?_, hcr⟩
  · rw [ea.1, sa2]
  · rw [ea.2, sa1]; omega
  · rw [eb.1, sb2]
  · rw [eb.2, sb1]
/-- it lies there, and none there is simpler -/
theorem smp_all : ∀ (k : Nat) (a b : Rat), SmpIn a b → a.den + b.den ≤ k →
    0 < (smp k a b).num ∧ a.num * (smp k a b).den ≤ (smp k a b).num * a.den ∧ (smp k a b).num * b.den ≤ b.num * (smp k a b).den ∧
      ∀ p q : Int, 0 < q → a.num * q ≤ p * a.den → p * b.den ≤ b.num * q → (smp k a b).num ≤ p ∧ ((smp k a b).den : Int) ≤ q
  | 0, a, b, h, hk => by have := a.den_nz; omega
  | k + 1, a, b, h, hk => by
    have hd := den_pos' a
    have he := den_pos' b
    have hfl : a.floor = a.num / a.den := Rat.floor_def a
    have hdm := Int.mul_ediv_add_emod a.num a.den
    have hr0 := Int.emod_nonneg a.num (show (a.den : Int) ≠ 0 by omega)
    have hn0 : 0 ≤ a.floor := by rw [hfl]; exact Int.ediv_nonneg (by have := h.pos; omega) (by omega)
    have hq : a.floor * a.den + a.num % a.den = a.num := by rw [hfl, Int.mul_comm]; exact hdm
    have hp := h.pos
    have hle := h.le
    by_cases h1 : (a.floor : Rat) = a
    · have hs : smp (k + 1) a b = a := by unfold smp; rw [if_pos h1, h1]
      rw [hs]
      have hden : a.den = 1 := by rw [← h1]; rfl
      refine ⟨hp, Int.le_refl _, hle, fun p q h0 h3 h4 => ?_⟩
      rw [hden] at h3 ⊢
      refine ⟨?_, by omega⟩
      have : a.num * 1 ≤ a.num * q := Int.mul_le_mul_of_nonneg_left (by omega) (by omega)
      omega
    · by_cases h2 : (a.floor : Rat) + 1 ≤ b
      · have hs : smp (k + 1) a b = ((a.floor + 1 : Int) : Rat) := by unfold smp; rw [if_neg h1, if_pos h2, Rat.intCast_add]; rfl
        rw [hs, Rat.num_intCast, Rat.den_intCast]
        have hr1 := Int.emod_lt_of_pos a.num hd
        have hnr : a.num % a.den ≠ 0 := by
          intro e
          have h5 : (a - (a.floor : Rat)).num = 0 := by rw [(sub_int a a.floor).1]; omega
          have h6 := Rat.num_eq_zero.1 h5
          apply h1
          have h4 : a - (a.floor : Rat) + (a.floor : Rat) = 0 + (a.floor : Rat) := by rw [h6]
          rw [Rat.sub_add_cancel, Rat.zero_add] at h4
          exact h4.symm
        have h2' : ((a.floor + 1 : Int) : Rat) ≤ b := by rw [Rat.intCast_add]; exact h2
        rw [Rat.le_iff, Rat.num_intCast, Rat.den_intCast] at h2'
        refine ⟨by omega, by rw [Int.add_mul]; omega, by simpa using h2', fun p q h0 h3 h4 => ?_⟩
        refine ⟨?_, by omega⟩
        by_cases h5 : p ≤ a.floor
        · exfalso
          have h6 : p * a.den ≤ a.floor * a.den := Int.mul_le_mul_of_nonneg_right h5 (by omega)
          have h7 : a.num * 1 ≤ a.num * q := Int.mul_le_mul_of_nonneg_left (by omega) (by omega)
          omega
        · omega
      · obtain ⟨n, r, t, en, n0, r0, r1, t0, t1, ea, eb, ey1, ey2, ex1, ex2, hcr⟩ := smp_step h h1 h2
        have hs : smp (k + 1) a b = (a.floor : Rat) + 1 / smp k (1 / (b - (a.floor : Rat))) (1 / (a - (a.floor : Rat))) := by rw [smp, if_neg h1, if_neg h2]
        rw [hs]
        generalize a.floor = n' at *
        subst en
        generalize 1 / (b - (n' : Rat)) = x at *
        generalize 1 / (a - (n' : Rat)) = y at *
        have IH := smp_all k x y ⟨by omega, by rw [ex1, ey2, ey1, ex2, Int.mul_comm, Int.mul_comm (a.den : Int)]; exact hcr⟩ (by omega)
        generalize smp k x y = z at *
        obtain ⟨i1, i2, i3, i4⟩ := IH
        obtain ⟨w1, w2⟩ := inv_pos i1
        obtain ⟨v1, v2⟩ := add_int (1 / z) n'
        rw [v1, v2, w1, w2]
        rw [ex1, ex2] at i2 i4
        rw [ey1, ey2] at i3 i4
        have hz := den_pos' z
        refine ⟨?_, ?_, ?_, fun p q h0 h3 h4 => ?_⟩
        · have := Int.mul_nonneg n0 (by omega : 0 ≤ z.num)
          omega
        · rw [ea, Int.add_mul, Int.add_mul, Int.mul_comm r, Int.mul_comm (z.den : Int)]
          have e1 : n' * (a.den : Int) * z.num = n' * z.num * a.den := by rw [Int.mul_assoc, Int.mul_comm (a.den : Int), ← Int.mul_assoc]
          omega
        · rw [eb, Int.add_mul, Int.add_mul, Int.mul_comm (z.den : Int), Int.mul_comm t]
          have e1 : n' * (b.den : Int) * z.num = n' * z.num * b.den := by rw [Int.mul_assoc, Int.mul_comm (b.den : Int), ← Int.mul_assoc]
          omega
        · obtain ⟨p', hp'⟩ : ∃ p', p = n' * q + p' := ⟨p - n' * q, by omega⟩
          subst hp'
          have e1 : n' * (a.den : Int) * q = n' * q * a.den := by rw [Int.mul_assoc, Int.mul_comm (a.den : Int), ← Int.mul_assoc]
          have e2 : n' * (b.den : Int) * q = n' * q * b.den := by rw [Int.mul_assoc, Int.mul_comm (b.den : Int), ← Int.mul_assoc]
          rw [ea, Int.add_mul, Int.add_mul] at h3
          rw [eb, Int.add_mul, Int.add_mul] at h4
          have h5 : r * q ≤ p' * a.den := by omega
          have h6 : p' * b.den ≤ t * q := by omega
          have h7 : 0 < p' := by
            have : 0 < r * q := Int.mul_pos r0 h0
            exact Int.pos_of_mul_pos_left (show 0 < p' * a.den by omega) (by omega)
          obtain ⟨j1, j2⟩ := i4 q p' h7 (by rw [Int.mul_comm, Int.mul_comm q]; exact h6) (by rw [Int.mul_comm, Int.mul_comm (a.den : Int)]; exact h5)
          refine ⟨?_, j1⟩
          have h8 : n' * z.num ≤ n' * q := Int.mul_le_mul_of_nonneg_left j1 n0
          omega

theorem smp_pos {k : Nat} {a b : Rat} (h : SmpIn a b) (hk : a.den + b.den ≤ k) : 0 < (smp k a b).num := (smp_all k a b h hk).1
theorem smp_qs {k J : Nat} {a b : Rat} (h : SmpIn a b) (hk : a.den + b.den ≤ k) (ha : QS a J) : QS (smp k a b) J := by
  obtain ⟨h1, _, _, h4⟩ := smp_all k a b h hk
  obtain ⟨h5, h6⟩ := h4 a.num a.den (den_pos' a) (Int.le_refl _) h.le
  have := h.pos
  exact ⟨ha.1.mono (by omega) (Nat.le_refl _), ha.2.mono (by omega) (Nat.le_refl _)⟩
theorem floor_qs {J : Nat} {a : Rat} (h : 0 < a.num) (hJ : 1 ≤ J) (ha : QS a J) : QS (a.floor : Rat) J := by
  have hd := den_pos' a
  have h1 : 0 ≤ a.floor := by rw [Rat.floor_def]; exact Int.ediv_nonneg (by omega) (by omega)
  have h2 : a.floor ≤ a.num := by rw [Rat.floor_def]; exact Int.ediv_le_self _ (by omega)
  refine ⟨ha.1.mono ?_ (Nat.le_refl _), sz_one hJ⟩
  rw [Rat.num_intCast]; omega
/-- what a step of the walk asks of its numbers -/
structure SmpGo (k J : Nat) (a b : Rat) : Prop where
  an : QS (a - (a.floor : Rat)) J
  bn : QS (b - (a.floor : Rat)) J
  x : QS (1 / (b - (a.floor : Rat))) J
  y : QS (1 / (a - (a.floor : Rat))) J
  go : SmpIn (1 / (b - (a.floor : Rat))) (1 / (a - (a.floor : Rat)))
  less : (1 / (b - (a.floor : Rat))).den + (1 / (a - (a.floor : Rat))).den ≤ k
  an0 : a - (a.floor : Rat) ≠ 0
  bn0 : b - (a.floor : Rat) ≠ 0
  z : QS (smp k (1 / (b - (a.floor : Rat))) (1 / (a - (a.floor : Rat)))) J
  z0 : smp k (1 / (b - (a.floor : Rat))) (1 / (a - (a.floor : Rat))) ≠ 0
theorem smp_go {a b : Rat} {J k : Nat} (h : SmpIn a b) (hJ : 1 ≤ J) (ha : QS a J) (hb : QS b J) (hk : a.den + b.den ≤ k + 1) (h1 : (a.floor : Rat) ≠ a) (h2 : ¬ (a.floor : Rat) + 1 ≤ b) : SmpGo k J a b := by
  obtain ⟨n, r, t, en, n0, r0, r1, t0, t1, ea, eb, ey1, ey2, ex1, ex2, hcr⟩ := smp_step h h1 h2
  have sa := sub_int a a.floor
  have sb := sub_int b a.floor
  rw [en] at sa sb ey1 ey2 ex1 ex2
  have e1 : (a - (n : Rat)).num = r := by rw [sa.1, ea]; omega
  have e2 : (b - (n : Rat)).num = t := by rw [sb.1, eb]; omega
  have hx : QS (1 / (b - (n : Rat))) J := ⟨hb.2.mono (by rw [ex1]; omega) (Nat.le_refl _), hb.2.mono (by omega) (Nat.le_refl _)⟩
  have hgo : SmpIn (1 / (b - (n : Rat))) (1 / (a - (n : Rat))) := ⟨by have := den_pos' b; omega, by rw [ex1, ey2, ey1, ex2, Int.mul_comm, Int.mul_comm (a.den : Int)]; exact hcr⟩
  have hlt : (1 / (b - (n : Rat))).den + (1 / (a - (n : Rat))).den ≤ k := by omega
  have hz := smp_qs hgo hlt hx
  have hzp := smp_pos hgo hlt
  exact {
    an := by rw [en]; exact ⟨ha.2.mono (by rw [e1]; omega) (Nat.le_refl _), by rw [sa.2]; exact ha.2⟩
    bn := by rw [en]; exact ⟨hb.2.mono (by rw [e2]; omega) (Nat.le_refl _), by rw [sb.2]; exact hb.2⟩
    x := by rw [en]; exact hx
    y := by rw [en]; exact ⟨ha.2.mono (by rw [ey1]; omega) (Nat.le_refl _), ha.2.mono (by omega) (Nat.le_refl _)⟩
    go := by rw [en]; exact hgo
    less := by rw [en]; exact hlt
    an0 := by rw [en]; intro e; rw [e] at e1; simp at e1; omega
    bn0 := by rw [en]; intro e; rw [e] at e2; simp at e2; omega
    z := by rw [en]; exact hz
    z0 := by rw [en]; intro e; rw [e] at hzp; simp at hzp }
theorem smpIn_of {a b : Rat} (h : 0 < a) (h' : a ≤ b) : SmpIn a b := ⟨(num_pos_iff a).1 h, by rw [Rat.le_iff] at h'; exact h'⟩
theorem smp_succ1 {a b : Rat} {k : Nat} (h1 : (a.floor : Rat) = a) : smp (k + 1) a b = (a.floor : Rat) := by rw [smp, if_pos h1]
theorem smp_succ2 {a b : Rat} {k : Nat} (h1 : (a.floor : Rat) ≠ a) (h2 : (a.floor : Rat) + 1 ≤ b) : smp (k + 1) a b = (a.floor : Rat) + 1 := by rw [smp, if_neg h1, if_pos h2]
theorem smp_succ3 {a b : Rat} {k : Nat} (h1 : (a.floor : Rat) ≠ a) (h2 : ¬ (a.floor : Rat) + 1 ≤ b) : smp (k + 1) a b = (a.floor : Rat) + 1 / smp k (1 / (b - (a.floor : Rat))) (1 / (a - (a.floor : Rat))) := by rw [smp, if_neg h1, if_neg h2]

/-- the simplest fraction from a to b, and the error -/
def spl (a b : Rat) : Rat := if 0 < a then smp (a.den + b.den) a b else if b < 0 then - smp (b.den + a.den) (-b) (-a) else 0
def spE (a b : Rat) : Int := if b < a then 3 else 0
theorem spl_pos {a b : Rat} (h : 0 < a) : spl a b = smp (a.den + b.den) a b := if_pos h
theorem spl_neg {a b : Rat} (h : ¬ 0 < a) (h' : b < 0) : spl a b = - smp (b.den + a.den) (-b) (-a) := by unfold spl; rw [if_neg h, if_pos h']
theorem spl_zero {a b : Rat} (h : ¬ 0 < a) (h' : ¬ b < 0) : spl a b = 0 := by unfold spl; rw [if_neg h, if_neg h']
theorem neg_pos' {b : Rat} (h : b < 0) : 0 < -b := by
  rw [num_pos_iff, Rat.neg_num]
  have : b.num < 0 := by rw [Rat.lt_iff] at h; simpa using h
  omega
theorem spl_qs {a b : Rat} {J : Nat} (hJ : 1 ≤ J) (hle : a ≤ b) (ha : QS a J) (hb : QS b J) : QS (spl a b) J := by
  by_cases h : 0 < a
  · rw [spl_pos h]; exact smp_qs (smpIn_of h hle) (Nat.le_refl _) ha
  · by_cases h' : b < 0
    · rw [spl_neg h h']
      exact (smp_qs (smpIn_of (neg_pos' h') (Rat.neg_le_neg hle)) (by simp) hb.neg).neg
    · rw [spl_zero h h']; exact ⟨by show 0 < _; exact Nat.pow_pos (by decide), sz_one hJ⟩

theorem lt_mk {a : Rat} {n : Int} {d : Nat} (h : d ≠ 0) : mkRat n d < a ↔ n * a.den < a.num * d := by
  have := mkRat_lt_iff (n1 := n) (n2 := a.num) h a.den_nz
  rwa [Rat.mkRat_self] at this
theorem mk_lt {a : Rat} {n : Int} {d : Nat} (h : d ≠ 0) : a < mkRat n d ↔ a.num * d < n * a.den := by
  have := mkRat_lt_iff (n1 := a.num) (n2 := n) a.den_nz h
  rwa [Rat.mkRat_self] at this
theorem spl_in {a b : Rat} (h : a ≤ b) : a ≤ spl a b ∧ spl a b ≤ b := by
  by_cases h1 : 0 < a
  · rw [spl_pos h1]
    obtain ⟨_, h2, h3, _⟩ := smp_all _ a b (smpIn_of h1 h) (Nat.le_refl _)
    exact ⟨(Rat.le_iff _ _).2 h2, (Rat.le_iff _ _).2 h3⟩
  · by_cases h2 : b < 0
    · rw [spl_neg h1 h2]
      obtain ⟨_, h3, h4, _⟩ := smp_all (b.den + a.den) (-b) (-a) (smpIn_of (neg_pos' h2) (Rat.neg_le_neg h)) (by simp)
      have e1 := Rat.neg_le_neg ((Rat.le_iff _ _).2 h3)
      have e2 := Rat.neg_le_neg ((Rat.le_iff _ _).2 h4)
      rw [Rat.neg_neg] at e1 e2
      exact ⟨e2, e1⟩
    · rw [spl_zero h1 h2]
      exact ⟨Rat.not_lt.1 h1, Rat.not_lt.1 h2⟩
theorem spl_least {a b : Rat} (h : a ≤ b) (p q : Int) (hq : 0 < q) (h1 : a.num * q ≤ p * a.den) (h2 : p * b.den ≤ b.num * q) :
    ((spl a b).den : Int) ≤ q ∧ (0 < (spl a b).num → (spl a b).num ≤ p) ∧ ((spl a b).num < 0 → p ≤ (spl a b).num) := by
  by_cases h3 : 0 < a
  · rw [spl_pos h3]
    obtain ⟨h4, _, _, h5⟩ := smp_all _ a b (smpIn_of h3 h) (Nat.le_refl _)
    obtain ⟨h6, h7⟩ := h5 p q hq h1 h2
    exact ⟨h7, fun _ => h6, fun h => absurd h (by omega)⟩
  · by_cases h4 : b < 0
    · rw [spl_neg h3 h4]
      obtain ⟨h5, _, _, h6⟩ := smp_all (b.den + a.den) (-b) (-a) (smpIn_of (neg_pos' h4) (Rat.neg_le_neg h)) (by simp)
      obtain ⟨h7, h8⟩ := h6 (-p) q hq (by simp [Int.neg_mul]; omega) (by simp [Int.neg_mul]; omega)
      rw [Rat.neg_num, Rat.neg_den]
      exact ⟨h8, fun h => by omega, fun h => by omega⟩
    · rw [spl_zero h3 h4]
      exact ⟨by show (1 : Int) ≤ q; omega, fun h => absurd h (by decide), fun h => absurd h (by decide)⟩
theorem mul_int_floor (x : Rat) (d : Nat) : (x * ((d : Int) : Rat)).floor = x.num * d / x.den ∧ (-(x * ((d : Int) : Rat))).floor = -(x.num * d) / x.den := by
  have e : x * ((d : Int) : Rat) = mkRat (x.num * d) x.den := by rw [Rat.mul_def']; simp
  rw [e, Rat.neg_mkRat]
  exact ⟨floor_mk _ x.den_nz, floor_mk _ x.den_nz⟩
/-- none there has a denominator that is less -/
theorem least_den {a b : Rat} (h : a ≤ b) {d : Nat} (h0 : 0 < d) (hd : d < (spl a b).den) : cmpZ (-(-(a * ((d : Int) : Rat))).floor) (b * ((d : Int) : Rat)).floor = 1 := by
  rw [(mul_int_floor a d).2, (mul_int_floor b d).1]
  have ha := den_pos' a
  have hb := den_pos' b
  rcases cmpZ_cases (-(-(a.num * d) / a.den)) (b.num * d / b.den) with ⟨hc, _⟩ | ⟨hc, _⟩ | ⟨_, e⟩
  · exfalso
    have h1 := Int.mul_ediv_add_emod (b.num * d) b.den
    have h2 := Int.emod_nonneg (b.num * d) (show (b.den : Int) ≠ 0 by omega)
    have h3 := Int.mul_ediv_add_emod (-(a.num * d)) a.den
    have h4 := Int.emod_nonneg (-(a.num * d)) (show (a.den : Int) ≠ 0 by omega)
    generalize b.num * d / b.den = p at *
    generalize -(a.num * d) / a.den = r at *
    have h5 : (-p) * a.den ≤ r * a.den := Int.mul_le_mul_of_nonneg_right (by omega) (by omega)
    rw [Int.neg_mul, Int.mul_comm r] at h5
    have := (spl_least h p d (by omega) (by omega) (by rw [Int.mul_comm p]; omega)).1
    omega
  · exfalso
    have h1 := Int.mul_ediv_add_emod (b.num * d) b.den
    have h2 := Int.emod_nonneg (b.num * d) (show (b.den : Int) ≠ 0 by omega)
    have h3 := Int.mul_ediv_add_emod (-(a.num * d)) a.den
    have h4 := Int.emod_nonneg (-(a.num * d)) (show (a.den : Int) ≠ 0 by omega)
    generalize b.num * d / b.den = p at *
    generalize -(a.num * d) / a.den = r at *
    have h5 : (-p) * a.den ≤ r * a.den := Int.mul_le_mul_of_nonneg_right (by omega) (by omega)
    rw [Int.neg_mul, Int.mul_comm r] at h5
    have := (spl_least h p d (by omega) (by omega) (by rw [Int.mul_comm p]; omega)).1
    omega
  · exact e
/-- of its denominator none is nearer to 0 -/
theorem least_near {a b : Rat} (h : a ≤ b) (hs : (spl a b).num ≠ 0) : cmpQ (spl a b - mkRat (sgn (spl a b).num) (spl a b).den) a < 0 ∨ 0 < cmpQ (spl a b - mkRat (sgn (spl a b).num) (spl a b).den) b := by
  have hL := spl_least h
  have hz := (spl a b).den_nz
  have he : spl a b - mkRat (sgn (spl a b).num) (spl a b).den = mkRat ((spl a b).num - sgn (spl a b).num) (spl a b).den := by
    have e0 : spl a b = mkRat (spl a b).num (spl a b).den := (Rat.mkRat_self _).symm
    conv => lhs; arg 1; rw [e0]
    rw [Rat.sub_eq_add_neg, Rat.neg_mkRat, ← Rat.divInt_ofNat, ← Rat.divInt_ofNat, ← Rat.divInt_ofNat, Rat.divInt_add_divInt _ _ (by omega) (by omega), ← Int.add_mul]
    rw [Rat.divInt_mul_right (by omega)]
    rfl
  rw [he]
  generalize spl a b = s at *
  by_cases h1 : mkRat (s.num - sgn s.num) s.den < a
  · exact .inl (by rw [cmpQ_lt h1]; omega)
  · by_cases h2 : b < mkRat (s.num - sgn s.num) s.den
    · exact .inr (by rw [cmpQ_swap, cmpQ_lt h2]; omega)
    · exfalso
      rw [lt_mk hz] at h1
      rw [mk_lt hz] at h2
      have := hL (s.num - sgn s.num) s.den (by omega) (by omega) (by omega)
      rcases sgn_cases s.num with ⟨h3, e⟩ | ⟨h3, e⟩ | ⟨h3, e⟩ <;> omega
end Go.NatP
