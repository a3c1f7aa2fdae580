/- PLAIN ARITHMETIC: the simplest fraction from one to another: it lies there, and has the least denominator and the least numerator of all that lie there. No program in sight. -/
import Derived.Test.YtgddnmmllchndaaGreatPP
import Derived.Test.YtgddnmmllchndaaGreatQu
namespace Go.NatP
set_option linter.unusedVariables false

/-- the simplest fraction of two above 0, in at most k steps -/
def smp : Nat → Rat → Rat → Rat
  | 0, _, _ => 0
  | k + 1, a, b => if (a.floor : Rat) = a then (a.floor : Rat) else if (a.floor : Rat) + 1 ≤ b then (a.floor : Rat) + 1 else (a.floor : Rat) + 1 / smp k (1 / (b - (a.floor : Rat))) (1 / (a - (a.floor : Rat)))

theorem add_int (a : Rat) (n : Int) : ((n : Rat) + a).num = n * a.den + a.num ∧ ((n : Rat) + a).den = a.den := by
  have c : (n * a.den + a.num).natAbs.Coprime a.den := by
    have h : Int.gcd (n * a.den + a.num) a.den = Int.gcd a.num a.den := by
      rw [Int.add_comm, Int.gcd_add_mul_right_left]
    have h2 := a.reduced
    show Nat.gcd _ _ = 1
    have h3 : Int.gcd (n * a.den + a.num) (a.den : Int) = Nat.gcd (n * a.den + a.num).natAbs a.den := rfl
    rw [← h3, h]
    exact h2
  have e : (n : Rat) + a = ⟨n * a.den + a.num, a.den, a.den_nz, c⟩ := by
    rw [Rat.add_def', Rat.mk_eq_mkRat]
    simp
  rw [e]
  exact ⟨rfl, rfl⟩
theorem sub_int (a : Rat) (n : Int) : (a - (n : Rat)).num = a.num - n * a.den ∧ (a - (n : Rat)).den = a.den := by
  have h : a - (n : Rat) = ((-n : Int) : Rat) + a := by rw [Rat.intCast_neg, Rat.sub_eq_add_neg, Rat.add_comm]
  rw [h]
  obtain ⟨h1, h2⟩ := add_int a (-n)
  exact ⟨by rw [h1, Int.neg_mul]; omega, h2⟩
theorem inv_pos {q : Rat} (h : 0 < q.num) : (1 / q).num = q.den ∧ ((1 / q).den : Int) = q.num := by
  rw [Rat.div_def, Rat.one_mul, Rat.num_inv, Rat.den_inv, Int.sign_eq_one_of_pos h, if_neg (by omega)]
  exact ⟨by simp, by omega⟩
theorem num_pos_iff (q : Rat) : 0 < q ↔ 0 < q.num := by rw [Rat.lt_iff]; simp
theorem den_pos' (q : Rat) : (0 : Int) < q.den := by have := q.den_nz; omega

/-- what the walk and the law both need of one step: the numbers of all that comes -/
structure SmpIn (a b : Rat) : Prop where
  pos : 0 < a.num
  le : a.num * b.den ≤ b.num * a.den
/-- what is left of both, turned, where no whole number lies between -/
theorem smp_step {a b : Rat} (h : SmpIn a b) (h1 : (a.floor : Rat) ≠ a) (h2 : ¬ (a.floor : Rat) + 1 ≤ b) :
    ∃ n r t : Int, a.floor = n ∧ 0 ≤ n ∧ 0 < r ∧ r < a.den ∧ 0 < t ∧ t < b.den ∧ a.num = n * a.den + r ∧ b.num = n * b.den + t ∧
      (1 / (a - (a.floor : Rat))).num = a.den ∧ ((1 / (a - (a.floor : Rat))).den : Int) = r ∧ (1 / (b - (a.floor : Rat))).num = b.den ∧ ((1 / (b - (a.floor : Rat))).den : Int) = t ∧ r * b.den ≤ t * a.den := by
  have hd := den_pos' a
  have he := den_pos' b
  have hn0 : 0 ≤ a.floor := by rw [Rat.floor_def]; exact Int.ediv_nonneg (by have := h.pos; omega) (by omega)
  have hdm := Int.mul_ediv_add_emod a.num a.den
  have hr0 := Int.emod_nonneg a.num (show (a.den : Int) ≠ 0 by omega)
  have hr1 := Int.emod_lt_of_pos a.num hd
  have hfl : a.floor = a.num / a.den := Rat.floor_def a
  obtain ⟨sa1, sa2⟩ := sub_int a a.floor
  obtain ⟨sb1, sb2⟩ := sub_int b a.floor
  have hrne : a.num % a.den ≠ 0 := by
    intro e
    apply h1
    have : a.num = a.floor * a.den := by rw [hfl, Int.mul_comm]; omega
    have hz : (a - (a.floor : Rat)).num = 0 := by rw [sa1]; omega
    have := Rat.num_eq_zero.1 hz
    have h3 : (a.floor : Rat) = a := by
      have h4 : a - (a.floor : Rat) + (a.floor : Rat) = 0 + (a.floor : Rat) := by rw [this]
      rw [Rat.sub_add_cancel, Rat.zero_add] at h4
      exact h4.symm
    exact h3
  have hb2 : b.num < (a.floor + 1) * b.den := by
    have h3 : b < ((a.floor + 1 : Int) : Rat) := by
      rw [Rat.intCast_add]; exact Rat.not_le.1 h2
    rw [Rat.lt_iff, Rat.num_intCast, Rat.den_intCast] at h3
    simpa using h3
  have hq : a.floor * a.den + a.num % a.den = a.num := by rw [hfl, Int.mul_comm]; exact hdm
  have hcr : a.num % a.den * b.den ≤ (b.num - a.floor * b.den) * a.den := by
    have h3 := h.le
    rw [← hq, Int.add_mul] at h3
    rw [Int.sub_mul]
    have e1 : a.floor * (a.den : Int) * b.den = a.floor * b.den * a.den := by rw [Int.mul_assoc, Int.mul_comm (a.den : Int), ← Int.mul_assoc]
    omega
  have ht0 : 0 < b.num - a.floor * b.den := by
    have h3 : 0 < a.num % a.den * b.den := Int.mul_pos (by omega) he
    have h4 : 0 < (b.num - a.floor * b.den) * a.den := by omega
    exact Int.pos_of_mul_pos_left h4 (by omega)
  have ht1 : b.num - a.floor * b.den < b.den := by rw [Int.add_mul] at hb2; omega
  have ea := inv_pos (q := a - (a.floor : Rat)) (by rw [sa1]; omega)
  have eb := inv_pos (q := b - (a.floor : Rat)) (by rw [sb1]; omega)
  refine ⟨a.floor, a.num % a.den, b.num - a.floor * b.den, rfl, hn0, by omega, hr1, ht0, ht1, hq.symm, by omega, ?_, ?_, ?_, ?_, hcr⟩
  · rw [ea.1, sa2]
  · rw [ea.2, sa1]; omega
  · rw [eb.1, sb2]
  · rw [eb.2, sb1]
/-- it lies there, and none there is simpler -/
theorem smp_all : ∀ (k : Nat) (a b : Rat), SmpIn a b → a.den + b.den ≤ k →
    0 < (smp k a b).num ∧ a.num * (smp k a b).den ≤ (smp k a b).num * a.den ∧ (smp k a b).num * b.den ≤ b.num * (smp k a b).den ∧
      ∀ p q : Int, 0 < q → a.num * q ≤ p * a.den → p * b.den ≤ b.num * q → (smp k a b).num ≤ p ∧ ((smp k a b).den : Int) ≤ q
  | 0, a, b, h, hk => by have := a.den_nz; omega
  | k + 1, a, b, h, hk => by
    have hd := den_pos' a
    have he := den_pos' b
    have hfl : a.floor = a.num / a.den := Rat.floor_def a
    have hdm := Int.mul_ediv_add_emod a.num a.den
    have hr0 := Int.emod_nonneg a.num (show (a.den : Int) ≠ 0 by omega)
    have hn0 : 0 ≤ a.floor := by rw [hfl]; exact Int.ediv_nonneg (by have := h.pos; omega) (by omega)
    have hq : a.floor * a.den + a.num % a.den = a.num := by rw [hfl, Int.mul_comm]; exact hdm
    have hp := h.pos
    have hle := h.le
    by_cases h1 : (a.floor : Rat) = a
    · have hs : smp (k + 1) a b = a := by unfold smp; rw [if_pos h1, h1]
      rw [hs]
      have hden : a.den = 1 := by rw [← h1]; rfl
      refine ⟨hp, Int.le_refl _, hle, fun p q h0 h3 h4 => ?_⟩
      rw [hden] at h3 ⊢
      refine ⟨?_, by omega⟩
      have : a.num * 1 ≤ a.num * q := Int.mul_le_mul_of_nonneg_left (by omega) (by omega)
      omega
    · by_cases h2 : (a.floor : Rat) + 1 ≤ b
      · have hs : smp (k + 1) a b = ((a.floor + 1 : Int) : Rat) := by unfold smp; rw [if_neg h1, if_pos h2, Rat.intCast_add]; rfl
        rw [hs, Rat.num_intCast, Rat.den_intCast]
        have hr1 := Int.emod_lt_of_pos a.num hd
        have hnr : a.num % a.den ≠ 0 := by
          intro e
          have h5 : (a - (a.floor : Rat)).num = 0 := by rw [(sub_int a a.floor).1]; omega
          have h6 := Rat.num_eq_zero.1 h5
          apply h1
          have h4 : a - (a.floor : Rat) + (a.floor : Rat) = 0 + (a.floor : Rat) := by rw [h6]
          rw [Rat.sub_add_cancel, Rat.zero_add] at h4
          exact h4.symm
        have h2' : ((a.floor + 1 : Int) : Rat) ≤ b := by rw [Rat.intCast_add]; exact h2
        rw [Rat.le_iff, Rat.num_intCast, Rat.den_intCast] at h2'
        refine ⟨by omega, by rw [Int.add_mul]; omega, by simpa using h2', fun p q h0 h3 h4 => ?_⟩
        refine ⟨?_, by omega⟩
        by_cases h5 : p ≤ a.floor
        · exfalso
          have h6 : p * a.den ≤ a.floor * a.den := Int.mul_le_mul_of_nonneg_right h5 (by omega)
          have h7 : a.num * 1 ≤ a.num * q := Int.mul_le_mul_of_nonneg_left (by omega) (by omega)
          omega
        · omega
      · obtain ⟨n, r, t, en, n0, r0, r1, t0, t1, ea, eb, ey1, ey2, ex1, ex2, hcr⟩ := smp_step h h1 h2
        have hs : smp (k + 1) a b = (a.floor : Rat) + 1 / smp k (1 / (b - (a.floor : Rat))) (1 / (a - (a.floor : Rat))) := by rw [smp, if_neg h1, if_neg h2]
        rw [hs]
        generalize a.floor = n' at *
        subst en
        generalize 1 / (b - (n' : Rat)) = x at *
        generalize 1 / (a - (n' : Rat)) = y at *
        have IH := smp_all k x y ⟨by omega, by rw [ex1, ey2, ey1, ex2, Int.mul_comm, Int.mul_comm (a.den : Int)]; exact hcr⟩ (by omega)
        generalize smp k x y = z at *
        obtain ⟨i1, i2, i3, i4⟩ := IH
        obtain ⟨w1, w2⟩ := inv_pos i1
        obtain ⟨v1, v2⟩ := add_int (1 / z) n'
        rw [v1, v2, w1, w2]
        rw [ex1, ex2] at i2 i4
        rw [ey1, ey2] at i3 i4
        have hz := den_pos' z
        refine ⟨?_, ?_, ?_, fun p q h0 h3 h4 => ?_⟩
        · have := Int.mul_nonneg n0 (by omega : 0 ≤ z.num)
          omega
        · rw [ea, Int.add_mul, Int.add_mul, Int.mul_comm r, Int.mul_comm (z.den : Int)]
          have e1 : n' * (a.den : Int) * z.num = n' * z.num * a.den := by rw [Int.mul_assoc, Int.mul_comm (a.den : Int), ← Int.mul_assoc]
          omega
        · rw [eb, Int.add_mul, Int.add_mul, Int.mul_comm (z.den : Int), Int.mul_comm t]
          have e1 : n' * (b.den : Int) * z.num = n' * z.num * b.den := by rw [Int.mul_assoc, Int.mul_comm (b.den : Int), ← Int.mul_assoc]
          omega
        · obtain ⟨p', hp'⟩ : ∃ p', p = n' * q + p' := ⟨p - n' * q, by omega⟩
          subst hp'
          have e1 : n' * (a.den : Int) * q = n' * q * a.den := by rw [Int.mul_assoc, Int.mul_comm (a.den : Int), ← Int.mul_assoc]
          have e2 : n' * (b.den : Int) * q = n' * q * b.den := by rw [Int.mul_assoc, Int.mul_comm (b.den : Int), ← Int.mul_assoc]
          rw [ea, Int.add_mul, Int.add_mul] at h3
          rw [eb, Int.add_mul, Int.add_mul] at h4
          have h5 : r * q ≤ p' * a.den := by omega
          have h6 : p' * b.den ≤ t * q := by omega
          have h7 : 0 < p' := by
            have : 0 < r * q := Int.mul_pos r0 h0
            exact Int.pos_of_mul_pos_left (show 0 < p' * a.den by omega) (by omega)
          obtain ⟨j1, j2⟩ := i4 q p' h7 (by rw [Int.mul_comm, Int.mul_comm q]; exact h6) (by rw [Int.mul_comm, Int.mul_comm (a.den : Int)]; exact h5)
          refine ⟨?_, j1⟩
          have h8 : n' * z.num ≤ n' * q := Int.mul_le_mul_of_nonneg_left j1 n0
          omega

theorem smp_pos {k : Nat} {a b : Rat} (h : SmpIn a b) (hk : a.den + b.den ≤ k) : 0 < (smp k a b).num := (smp_all k a b h hk).1
theorem smp_qs {k J : Nat} {a b : Rat} (h : SmpIn a b) (hk : a.den + b.den ≤ k) (ha : QS a J) : QS (smp k a b) J := by
  obtain ⟨h1, _, _, h4⟩ := smp_all k a b h hk
  obtain ⟨h5, h6⟩ := h4 a.num a.den (den_pos' a) (Int.le_refl _) h.le
  have := h.pos
  exact ⟨ha.1.mono (by omega) (Nat.le_refl _), ha.2.mono (by omega) (Nat.le_refl _)⟩
theorem floor_qs {J : Nat} {a : Rat} (h : 0 < a.num) (hJ : 1 ≤ J) (ha : QS a J) : QS (a.floor : Rat) J := by
  have hd := den_pos' a
  have h1 : 0 ≤ a.floor := by rw [Rat.floor_def]; exact Int.ediv_nonneg (by omega) (by omega)
  have h2 : a.floor ≤ a.num := by rw [Rat.floor_def]; exact Int.ediv_le_self _ (by omega)
  refine ⟨ha.1.mono ?_ (Nat.le_refl _), sz_one hJ⟩
  rw [Rat.num_intCast]; omega
/-- what a step of the walk asks of its numbers -/
structure SmpGo (k J : Nat) (a b : Rat) : Prop where
  an : QS (a - (a.floor : Rat)) J
  bn : QS (b - (a.floor : Rat)) J
  x : QS (1 / (b - (a.floor : Rat))) J
  y : QS (1 / (a - (a.floor : Rat))) J
  go : SmpIn (1 / (b - (a.floor : Rat))) (1 / (a - (a.floor : Rat)))
  less : (1 / (b - (a.floor : Rat))).den + (1 / (a - (a.floor : Rat))).den ≤ k
  an0 : a - (a.floor : Rat) ≠ 0
  bn0 : b - (a.floor : Rat) ≠ 0
  z : QS (smp k (1 / (b - (a.floor : Rat))) (1 / (a - (a.floor : Rat)))) J
  z0 : smp k (1 / (b - (a.floor : Rat))) (1 / (a - (a.floor : Rat))) ≠ 0
theorem smp_go {a b : Rat} {J k : Nat} (h : SmpIn a b) (hJ : 1 ≤ J) (ha : QS a J) (hb : QS b J) (hk : a.den + b.den ≤ k + 1) (h1 : (a.floor : Rat) ≠ a) (h2 : ¬ (a.floor : Rat) + 1 ≤ b) : SmpGo k J a b := by
  obtain ⟨n, r, t, en, n0, r0, r1, t0, t1, ea, eb, ey1, ey2, ex1, ex2, hcr⟩ := smp_step h h1 h2
  have sa := sub_int a a.floor
  have sb := sub_int b a.floor
  rw [en] at sa sb ey1 ey2 ex1 ex2
  have e1 : (a - (n : Rat)).num = r := by rw [sa.1, ea]; omega
  have e2 : (b - (n : Rat)).num = t := by rw [sb.1, eb]; omega
  have hx : QS (1 / (b - (n : Rat))) J := ⟨hb.2.mono (by rw [ex1]; omega) (Nat.le_refl _), hb.2.mono (by omega) (Nat.le_refl _)⟩
  have hgo : SmpIn (1 / (b - (n : Rat))) (1 / (a - (n : Rat))) := ⟨by have := den_pos' b; omega, by rw [ex1, ey2, ey1, ex2, Int.mul_comm, Int.mul_comm (a.den : Int)]; exact hcr⟩
  have hlt : (1 / (b - (n : Rat))).den + (1 / (a - (n : Rat))).den ≤ k := by omega
  have hz := smp_qs hgo hlt hx
  have hzp := smp_pos hgo hlt
  exact {
    an := by rw [en]; exact ⟨ha.2.mono (by rw [e1]; omega) (Nat.le_refl _), by rw [sa.2]; exact ha.2⟩
    bn := by rw [en]; exact ⟨hb.2.mono (by rw [e2]; omega) (Nat.le_refl _), by rw [sb.2]; exact hb.2⟩
    x := by rw [en]; exact hx
    y := by rw [en]; exact ⟨ha.2.mono (by rw [ey1]; omega) (Nat.le_refl _), ha.2.mono (by omega) (Nat.le_refl _)⟩
    go := by rw [en]; exact hgo
    less := by rw [en]; exact hlt
    an0 := by rw [en]; intro e; rw [e] at e1; simp at e1; omega
    bn0 := by rw [en]; intro e; rw [e] at e2; simp at e2; omega
    z := by rw [en]; exact hz
    z0 := by rw [en]; intro e; rw [e] at hzp; simp at hzp }
theorem smpIn_of {a b : Rat} (h : 0 < a) (h' : a ≤ b) : SmpIn a b := ⟨(num_pos_iff a).1 h, by rw [Rat.le_iff] at h'; exact h'⟩
theorem smp_succ1 {a b : Rat} {k : Nat} (h1 : (a.floor : Rat) = a) : smp (k + 1) a b = (a.floor : Rat) := by rw [smp, if_pos h1]
theorem smp_succ2 {a b : Rat} {k : Nat} (h1 : (a.floor : Rat) ≠ a) (h2 : (a.floor : Rat) + 1 ≤ b) : smp (k + 1) a b = (a.floor : Rat) + 1 := by rw [smp, if_neg h1, if_pos h2]
theorem smp_succ3 {a b : Rat} {k : Nat} (h1 : (a.floor : Rat) ≠ a) (h2 : ¬ (a.floor : Rat) + 1 ≤ b) : smp (k + 1) a b = (a.floor : Rat) + 1 / smp k (1 / (b - (a.floor : Rat))) (1 / (a - (a.floor : Rat))) := by rw [smp, if_neg h1, if_neg h2]

/-- the simplest fraction from a to b, and the error -/
def spl (a b : Rat) : Rat := if 0 < a then smp (a.den + b.den) a b else if b < 0 then - smp (b.den + a.den) (-b) (-a) else 0
def spE (a b : Rat) : Int := if b < a then 3 else 0
theorem spl_pos {a b : Rat} (h : 0 < a) : spl a b = smp (a.den + b.den) a b := if_pos h
theorem spl_neg {a b : Rat} (h : ¬ 0 < a) (h' : b < 0) : spl a b = - smp (b.den + a.den) (-b) (-a) := by unfold spl; rw [if_neg h, if_pos h']
theorem spl_zero {a b : Rat} (h : ¬ 0 < a) (h' : ¬ b < 0) : spl a b = 0 := by unfold spl; rw [if_neg h, if_neg h']
theorem neg_pos' {b : Rat} (h : b < 0) : 0 < -b := by
  rw [num_pos_iff, Rat.neg_num]
  have : b.num < 0 := by rw [Rat.lt_iff] at h; simpa using h
  omega
theorem spl_qs {a b : Rat} {J : Nat} (hJ : 1 ≤ J) (hle : a ≤ b) (ha : QS a J) (hb : QS b J) : QS (spl a b) J := by
  by_cases h : 0 < a
  · rw [spl_pos h]; exact smp_qs (smpIn_of h hle) (Nat.le_refl _) ha
  · by_cases h' : b < 0
    · rw [spl_neg h h']
      exact (smp_qs (smpIn_of (neg_pos' h') (Rat.neg_le_neg hle)) (by simp) hb.neg).neg
    · rw [spl_zero h h']; exact ⟨by show 0 < _; exact Nat.pow_pos (by decide), sz_one hJ⟩

theorem lt_mk {a : Rat} {n : Int} {d : Nat} (h : d ≠ 0) : mkRat n d < a ↔ n * a.den < a.num * d := by
  have := mkRat_lt_iff (n1 := n) (n2 := a.num) h a.den_nz
  rwa [Rat.mkRat_self] at this
theorem mk_lt {a : Rat} {n : Int} {d : Nat} (h : d ≠ 0) : a < mkRat n d ↔ a.num * d < n * a.den := by
  have := mkRat_lt_iff (n1 := a.num) (n2 := n) a.den_nz h
  rwa [Rat.mkRat_self] at this
theorem spl_in {a b : Rat} (h : a ≤ b) : a ≤ spl a b ∧ spl a b ≤ b := by
  by_cases h1 : 0 < a
  · rw [spl_pos h1]
    obtain ⟨_, h2, h3, _⟩ := smp_all _ a b (smpIn_of h1 h) (Nat.le_refl _)
    exact ⟨(Rat.le_iff _ _).2 h2, (Rat.le_iff _ _).2 h3⟩
  · by_cases h2 : b < 0
    · rw [spl_neg h1 h2]
      obtain ⟨_, h3, h4, _⟩ := smp_all (b.den + a.den) (-b) (-a) (smpIn_of (neg_pos' h2) (Rat.neg_le_neg h)) (by simp)
      have e1 := Rat.neg_le_neg ((Rat.le_iff _ _).2 h3)
      have e2 := Rat.neg_le_neg ((Rat.le_iff _ _).2 h4)
      rw [Rat.neg_neg] at e1 e2
      exact ⟨e2, e1⟩
    · rw [spl_zero h1 h2]
      exact ⟨Rat.not_lt.1 h1, Rat.not_lt.1 h2⟩
theorem spl_least {a b : Rat} (h : a ≤ b) (p q : Int) (hq : 0 < q) (h1 : a.num * q ≤ p * a.den) (h2 : p * b.den ≤ b.num * q) :
    ((spl a b).den : Int) ≤ q ∧ (0 < (spl a b).num → (spl a b).num ≤ p) ∧ ((spl a b).num < 0 → p ≤ (spl a b).num) := by
  by_cases h3 : 0 < a
  · rw [spl_pos h3]
    obtain ⟨h4, _, _, h5⟩ := smp_all _ a b (smpIn_of h3 h) (Nat.le_refl _)
    obtain ⟨h6, h7⟩ := h5 p q hq h1 h2
    exact ⟨h7, fun _ => h6, fun h => absurd h (by omega)⟩
  · by_cases h4 : b < 0
    · rw [spl_neg h3 h4]
      obtain ⟨h5, _, _, h6⟩ := smp_all (b.den + a.den) (-b) (-a) (smpIn_of (neg_pos' h4) (Rat.neg_le_neg h)) (by simp)
      obtain ⟨h7, h8⟩ := h6 (-p) q hq (by simp [Int.neg_mul]; omega) (by simp [Int.neg_mul]; omega)
      rw [Rat.neg_num, Rat.neg_den]
      exact ⟨h8, fun h => by omega, fun h => by omega⟩
    · rw [spl_zero h3 h4]
      exact ⟨by show (1 : Int) ≤ q; omega, fun h => absurd h (by decide), fun h => absurd h (by decide)⟩
theorem mul_int_floor (x : Rat) (d : Nat) : (x * ((d : Int) : Rat)).floor = x.num * d / x.den ∧ (-(x * ((d : Int) : Rat))).floor = -(x.num * d) / x.den := by
  have e : x * ((d : Int) : Rat) = mkRat (x.num * d) x.den := by rw [Rat.mul_def']; simp
  rw [e, Rat.neg_mkRat]
  exact ⟨floor_mk _ x.den_nz, floor_mk _ x.den_nz⟩
/-- none there has a denominator that is less -/
theorem least_den {a b : Rat} (h : a ≤ b) {d : Nat} (h0 : 0 < d) (hd : d < (spl a b).den) : cmpZ (-(-(a * ((d : Int) : Rat))).floor) (b * ((d : Int) : Rat)).floor = 1 := by
  rw [(mul_int_floor a d).2, (mul_int_floor b d).1]
  have ha := den_pos' a
  have hb := den_pos' b
  rcases cmpZ_cases (-(-(a.num * d) / a.den)) (b.num * d / b.den) with ⟨hc, _⟩ | ⟨hc, _⟩ | ⟨_, e⟩
  · exfalso
    have h1 := Int.mul_ediv_add_emod (b.num * d) b.den
    have h2 := Int.emod_nonneg (b.num * d) (show (b.den : Int) ≠ 0 by omega)
    have h3 := Int.mul_ediv_add_emod (-(a.num * d)) a.den
    have h4 := Int.emod_nonneg (-(a.num * d)) (show (a.den : Int) ≠ 0 by omega)
    generalize b.num * d / b.den = p at *
    generalize -(a.num * d) / a.den = r at *
    have h5 : (-p) * a.den ≤ r * a.den := Int.mul_le_mul_of_nonneg_right (by omega) (by omega)
    rw [Int.neg_mul, Int.mul_comm r] at h5
    have := (spl_least h p d (by omega) (by omega) (by rw [Int.mul_comm p]; omega)).1
    omega
  · exfalso
    have h1 := Int.mul_ediv_add_emod (b.num * d) b.den
    have h2 := Int.emod_nonneg (b.num * d) (show (b.den : Int) ≠ 0 by omega)
    have h3 := Int.mul_ediv_add_emod (-(a.num * d)) a.den
    have h4 := Int.emod_nonneg (-(a.num * d)) (show (a.den : Int) ≠ 0 by omega)
    generalize b.num * d / b.den = p at *
    generalize -(a.num * d) / a.den = r at *
    have h5 : (-p) * a.den ≤ r * a.den := Int.mul_le_mul_of_nonneg_right (by omega) (by omega)
    rw [Int.neg_mul, Int.mul_comm r] at h5
    have := (spl_least h p d (by omega) (by omega) (by rw [Int.mul_comm p]; omega)).1
    omega
  · exact e
/-- of its denominator none is nearer to 0 -/
theorem least_near {a b : Rat} (h : a ≤ b) (hs : (spl a b).num ≠ 0) : cmpQ (spl a b - mkRat (sgn (spl a b).num) (spl a b).den) a < 0 ∨ 0 < cmpQ (spl a b - mkRat (sgn (spl a b).num) (spl a b).den) b := by
  have hL := spl_least h
  have hz := (spl a b).den_nz
  have he : spl a b - mkRat (sgn (spl a b).num) (spl a b).den = mkRat ((spl a b).num - sgn (spl a b).num) (spl a b).den := by
    have e0 : spl a b = mkRat (spl a b).num (spl a b).den := (Rat.mkRat_self _).symm
    conv => lhs; arg 1; rw [e0]
    rw [Rat.sub_eq_add_neg, Rat.neg_mkRat, ← Rat.divInt_ofNat, ← Rat.divInt_ofNat, ← Rat.divInt_ofNat, Rat.divInt_add_divInt _ _ (by omega) (by omega), ← Int.add_mul]
    rw [Rat.divInt_mul_right (by omega)]
    rfl
  rw [he]
  generalize spl a b = s at *
  by_cases h1 : mkRat (s.num - sgn s.num) s.den < a
  · exact .inl (by rw [cmpQ_lt h1]; omega)
  · by_cases h2 : b < mkRat (s.num - sgn s.num) s.den
    · exact .inr (by rw [cmpQ_swap, cmpQ_lt h2]; omega)
    · exfalso
      rw [lt_mk hz] at h1
      rw [mk_lt hz] at h2
      have := hL (s.num - sgn s.num) s.den (by omega) (by omega) (by omega)
      rcases sgn_cases s.num with ⟨h3, e⟩ | ⟨h3, e⟩ | ⟨h3, e⟩ <;> omega
end Go.NatP
/- WALKS OF FRACTIONS, 20: the simplest between two. -/
namespace Go.Proofs.YtgddnmmllchndaaGreat
set_option linter.unusedVariables false
set_option linter.unusedSimpArgs false
open Go.ChangeShapes Go.WideShapes Go.ChangeAt Go.RowKit Go.NatP

theorem qv_int (z : Int) : qv (decide (z < 0)) z.natAbs 1 = (z : Rat) := by
  unfold qv
  rw [zv_self, und_of (by decide), Rat.mkRat_one]
theorem rdq_int {J B B' : Nat} {W : World} {a b : Option Addr} {n c m d : Nat} {z : Int} (h : Own B W a n c (lm z.natAbs)) (h' : Own B' W b m d (lm 1)) (hs : Sz z.natAbs J) (hJ : 1 ≤ J) : RdQ J W (decide (z < 0)) a n c b m d (z : Rat) :=
  ⟨_, _, h.rdN hs, h'.rdN (sz_one hJ), qv_int z⟩
theorem rdq_one {B B' : Nat} {W : World} {a b : Option Addr} {n c m d : Nat} (h : Own B W a n c (lm 1)) (h' : Own B' W b m d (lm 1)) : RdQ 1 W false a n c b m d 1 :=
  ⟨_, _, h.rdN (sz_one (by decide)), h'.rdN (sz_one (by decide)), qv_int 1⟩
theorem zone_any {w : World} : Calls Tryz.prog 164 #[.int .i64 1] w (fun e w' => ∃ a n c, e = .returned (.agg #[.bool false, .slice a n c]) ∧ Own w.heap.size w' a n c (lm 1) ∧ Below w.heap.size w w') :=
  zofi_any 1 (by omega) (by omega)
theorem retqe_k (w : World) {q : Rat} {er : Int} (h : er = 0) : RetQE w q er = RetQK w q := by rw [h]; rfl
structure BtwC (J k : Nat) : Prop where
  go : ∀ {w : World} {a1 b1 : Option Addr} {n1 c1 m1 d1 : Nat} {s : Bool} {x : Rat} {a2 b2 : Option Addr} {n2 c2 m2 d2 : Nat} {t : Bool} {y : Rat},
    SmpIn x y → x.den + y.den ≤ k → RdQ J w s a1 n1 c1 b1 m1 d1 x → RdQ J w t a2 n2 c2 b2 m2 d2 y → Calls Tryz.prog 134 #[.agg #[.bool s, .slice a1 n1 c1, .slice b1 m1 d1], .agg #[.bool t, .slice a2 n2 c2, .slice b2 m2 d2]] w (RetQ w (smp k x y))

set_option maxRecDepth 100000 in
set_option maxHeartbeats 40000000 in
theorem qbtw1 {w : World} {a1 b1 : Option Addr} {n1 c1 m1 d1 : Nat} {s : Bool} {x : Rat} {a2 b2 : Option Addr} {n2 c2 m2 d2 : Nat} {t : Bool} {y : Rat} {J k : Nat} (hJ1 : 1 ≤ J) (hJ : J ≤ 200000) (hin : SmpIn x y) (hx : RdQ J w s a1 n1 c1 b1 m1 d1 x) (hy : RdQ J w t a2 n2 c2 b2 m2 d2 y) (h1 : (x.floor : Rat) = x) :
    Calls Tryz.prog 134 #[.agg #[.bool s, .slice a1 n1 c1, .slice b1 m1 d1], .agg #[.bool t, .slice a2 n2 c2, .slice b2 m2 d2]] w (RetQ w (smp (k + 1) x y)) := by
  have hqx := hx.qs hJ1
  have hqy := hy.qs hJ1
  have sf : Sz x.floor.natAbs J := (floor_qs hin.pos hJ1 hqx).1
  have hqf := floor_qs hin.pos hJ1 hqx
  rw [smp_succ1 h1]
  have hc := hid (cmpQ_eq h1)
  clear hin h1
  generalize hf0 : x.floor = f at *
  have hf := hid hf0
  clear hf0
  have hsf := hid sf
  clear sf hqf hqx hqy
  have hent := ent3 w #[Value.bool s, Value.slice a1 n1 c1, Value.slice b1 m1 d1] #[Value.bool t, Value.slice a2 n2 c2, Value.slice b2 m2 d2] #[Value.bool false, Value.slice none 0 0, Value.slice none 0 0] 38 38 38
  go_enter Tryz.func134, Tryz.ntmps134
  go_wp2_with fail
  generalize (((w.alloc (.cells #[Value.bool s, Value.slice a1 n1 c1, Value.slice b1 m1 d1] 38)).alloc (.cells #[Value.bool t, Value.slice a2 n2 c2, Value.slice b2 m2 d2] 38)).alloc (.cells #[Value.bool false, Value.slice none 0 0, Value.slice none 0 0] 38)) = W0 at hent ⊢
  obtain ⟨X_0, Y_0, R0_0, hbel_0, hsz_0⟩ := hent
  have cX_0_0 : _ = some (Value.bool s) := X_0.cell 0
  have cX_0_1 : _ = some (Value.slice a1 n1 c1) := X_0.cell 1
  have cX_0_2 : _ = some (Value.slice b1 m1 d1) := X_0.cell 2
  have cY_0_0 : _ = some (Value.bool t) := Y_0.cell 0
  have cY_0_1 : _ = some (Value.slice a2 n2 c2) := Y_0.cell 1
  have cY_0_2 : _ = some (Value.slice b2 m2 d2) := Y_0.cell 2
  have cR0_0_0 : _ = some (Value.bool false) := R0_0.cell 0
  have fR0_0_0 := R0_0.free 0
  have cR0_0_1 : _ = some (Value.slice none 0 0) := R0_0.cell 1
  have fR0_0_1 := R0_0.free 1
  have cR0_0_2 : _ = some (Value.slice none 0 0) := R0_0.cell 2
  have fR0_0_2 := R0_0.free 2
  have hx_0 := hx.below hbel_0
  clear hx
  have hy_0 := hy.below hbel_0
  clear hy
  go_wp2_with fail
  refine (zone_any).mono ?_
  rintro e w1 ⟨oa, on, oc, rfl, hO, hB⟩
  have hB_1 : Below W0.heap.size W0 w1 := (bl.next hB)
  have X_1 := X_0.next hB_1
  have cX_1_0 : _ = some (Value.bool s) := X_1.cell 0
  have cX_1_1 : _ = some (Value.slice a1 n1 c1) := X_1.cell 1
  have cX_1_2 : _ = some (Value.slice b1 m1 d1) := X_1.cell 2
  have Y_1 := Y_0.next hB_1
  have cY_1_0 : _ = some (Value.bool t) := Y_1.cell 0
  have cY_1_1 : _ = some (Value.slice a2 n2 c2) := Y_1.cell 1
  have cY_1_2 : _ = some (Value.slice b2 m2 d2) := Y_1.cell 2
  have R0_1 := R0_0.next hB_1
  have cR0_1_0 : _ = some (Value.bool false) := R0_1.cell 0
  have fR0_1_0 := R0_1.free 0
  have cR0_1_1 : _ = some (Value.slice none 0 0) := R0_1.cell 1
  have fR0_1_1 := R0_1.free 1
  have cR0_1_2 : _ = some (Value.slice none 0 0) := R0_1.cell 2
  have fR0_1_2 := R0_1.free 2
  have hx_1 := hx_0.below hB_1
  have hy_1 := hy_0.below hB_1
  have hbel_1 := hbel_0.next hB_1
  have hsz_1 := hB_1.size
  clear X_0 cX_0_0 cX_0_1 cX_0_2 Y_0 cY_0_0 cY_0_1 cY_0_2 R0_0 cR0_0_0 fR0_0_0 cR0_0_1 fR0_0_1 cR0_0_2 fR0_0_2 hx_0 hy_0 hbel_0 hB_1
  have Oo_1 := hO
  have ltOo := hO.ltB
  clear hO
  try clear hB
  go_wp2_with fail
  refine (of_any 1 (by omega) (by omega)).mono ?_
  rintro e w2 ⟨ob, om, od, rfl, hO, hB⟩
  have hB_2 : Below w1.heap.size w1 w2 := (bl.next hB)
  have X_2 := X_1.next hB_2
  have cX_2_0 : _ = some (Value.bool s) := X_2.cell 0
  have cX_2_1 : _ = some (Value.slice a1 n1 c1) := X_2.cell 1
  have cX_2_2 : _ = some (Value.slice b1 m1 d1) := X_2.cell 2
  have Y_2 := Y_1.next hB_2
  have cY_2_0 : _ = some (Value.bool t) := Y_2.cell 0
  have cY_2_1 : _ = some (Value.slice a2 n2 c2) := Y_2.cell 1
  have cY_2_2 : _ = some (Value.slice b2 m2 d2) := Y_2.cell 2
  have R0_2 := R0_1.next hB_2
  have cR0_2_0 : _ = some (Value.bool false) := R0_2.cell 0
  have fR0_2_0 := R0_2.free 0
  have cR0_2_1 : _ = some (Value.slice none 0 0) := R0_2.cell 1
  have fR0_2_1 := R0_2.free 1
  have cR0_2_2 : _ = some (Value.slice none 0 0) := R0_2.cell 2
  have fR0_2_2 := R0_2.free 2
  have hx_2 := hx_1.below hB_2
  have hy_2 := hy_1.below hB_2
  have Oo_2 := Oo_1.below hB_2
  have hbel_2 := hbel_1.next hB_2
  have hsz_2 := hB_2.size
  clear X_1 cX_1_0 cX_1_1 cX_1_2 Y_1 cY_1_0 cY_1_1 cY_1_2 R0_1 cR0_1_0 fR0_1_0 cR0_1_1 fR0_1_1 cR0_1_2 fR0_1_2 hx_1 hy_1 Oo_1 hbel_1 hB_2
  have Po_2 := hO
  have ltPo := hO.ltB
  clear hO
  try clear hB
  have hbx := blk_new w2 #[Value.bool false, Value.slice oa on oc, Value.slice ob om od] 38
  have hbB := (Below.refl w2.heap.size w2).alloc (Nat.le_refl _) (.cells #[Value.bool false, Value.slice oa on oc, Value.slice ob om od] 38)
  have hltO := hbx.lt
  have hB_3 : Below w2.heap.size w2 (w2.alloc (.cells #[Value.bool false, Value.slice oa on oc, Value.slice ob om od] 38)) := hbB
  have X_3 := X_2.next hB_3
  have cX_3_0 : _ = some (Value.bool s) := X_3.cell 0
  have cX_3_1 : _ = some (Value.slice a1 n1 c1) := X_3.cell 1
  have cX_3_2 : _ = some (Value.slice b1 m1 d1) := X_3.cell 2
  have Y_3 := Y_2.next hB_3
  have cY_3_0 : _ = some (Value.bool t) := Y_3.cell 0
  have cY_3_1 : _ = some (Value.slice a2 n2 c2) := Y_3.cell 1
  have cY_3_2 : _ = some (Value.slice b2 m2 d2) := Y_3.cell 2
  have R0_3 := R0_2.next hB_3
  have cR0_3_0 : _ = some (Value.bool false) := R0_3.cell 0
  have fR0_3_0 := R0_3.free 0
  have cR0_3_1 : _ = some (Value.slice none 0 0) := R0_3.cell 1
  have fR0_3_1 := R0_3.free 1
  have cR0_3_2 : _ = some (Value.slice none 0 0) := R0_3.cell 2
  have fR0_3_2 := R0_3.free 2
  have hx_3 := hx_2.below hB_3
  have hy_3 := hy_2.below hB_3
  have Oo_3 := Oo_2.below hB_3
  have Po_3 := Po_2.below hB_3
  have hbel_3 := hbel_2.next hB_3
  have hsz_3 := hB_3.size
  clear hB_3
  have O_3 := hbx
  clear hbx hbB
  have cO_3_0 : _ = some (Value.bool false) := O_3.cell 0
  have cO_3_1 : _ = some (Value.slice oa on oc) := O_3.cell 1
  have cO_3_2 : _ = some (Value.slice ob om od) := O_3.cell 2
  go_wp2_with fail
  clear X_2 cX_2_0 cX_2_1 cX_2_2 Y_2 cY_2_0 cY_2_1 cY_2_2 R0_2 cR0_2_0 fR0_2_0 cR0_2_1 fR0_2_1 cR0_2_2 fR0_2_2 hx_2 hy_2 Oo_2 Po_2 hbel_2
  generalize (w2.alloc (.cells #[Value.bool false, Value.slice oa on oc, Value.slice ob om od] 38)) = v3 at *
  have QO_3 := rdq_one Oo_3 Po_3
  clear Oo_3
  clear Po_3
  go_wp2_with fail
  refine (qfloor hx_3 (by omega)).mono ?_
  rw [hf.out]
  rintro e w4 ⟨fa, fn, fc, rfl, hO, hB⟩
  have hB_4 : Below v3.heap.size v3 w4 := (bl.next hB)
  have X_4 := X_3.next hB_4
  have cX_4_0 : _ = some (Value.bool s) := X_4.cell 0
  have cX_4_1 : _ = some (Value.slice a1 n1 c1) := X_4.cell 1
  have cX_4_2 : _ = some (Value.slice b1 m1 d1) := X_4.cell 2
  have Y_4 := Y_3.next hB_4
  have cY_4_0 : _ = some (Value.bool t) := Y_4.cell 0
  have cY_4_1 : _ = some (Value.slice a2 n2 c2) := Y_4.cell 1
  have cY_4_2 : _ = some (Value.slice b2 m2 d2) := Y_4.cell 2
  have R0_4 := R0_3.next hB_4
  have cR0_4_0 : _ = some (Value.bool false) := R0_4.cell 0
  have fR0_4_0 := R0_4.free 0
  have cR0_4_1 : _ = some (Value.slice none 0 0) := R0_4.cell 1
  have fR0_4_1 := R0_4.free 1
  have cR0_4_2 : _ = some (Value.slice none 0 0) := R0_4.cell 2
  have fR0_4_2 := R0_4.free 2
  have O_4 := O_3.next hB_4
  have cO_4_0 : _ = some (Value.bool false) := O_4.cell 0
  have cO_4_1 : _ = some (Value.slice oa on oc) := O_4.cell 1
  have cO_4_2 : _ = some (Value.slice ob om od) := O_4.cell 2
  have hx_4 := hx_3.below hB_4
  have hy_4 := hy_3.below hB_4
  have QO_4 := QO_3.below hB_4
  have hbel_4 := hbel_3.next hB_4
  have hsz_4 := hB_4.size
  clear X_3 cX_3_0 cX_3_1 cX_3_2 Y_3 cY_3_0 cY_3_1 cY_3_2 R0_3 cR0_3_0 fR0_3_0 cR0_3_1 fR0_3_1 cR0_3_2 fR0_3_2 O_3 cO_3_0 cO_3_1 cO_3_2 hx_3 hy_3 QO_3 hbel_3 hB_4
  have Of_4 := hO
  have ltOf := hO.ltB
  clear hO
  try clear hB
  go_wp2_with fail
  refine (of_any 1 (by omega) (by omega)).mono ?_
  rintro e w5 ⟨fb, fm, fd, rfl, hO, hB⟩
  have hB_5 : Below w4.heap.size w4 w5 := (bl.next hB)
  have X_5 := X_4.next hB_5
  have cX_5_0 : _ = some (Value.bool s) := X_5.cell 0
  have cX_5_1 : _ = some (Value.slice a1 n1 c1) := X_5.cell 1
  have cX_5_2 : _ = some (Value.slice b1 m1 d1) := X_5.cell 2
  have Y_5 := Y_4.next hB_5
  have cY_5_0 : _ = some (Value.bool t) := Y_5.cell 0
  have cY_5_1 : _ = some (Value.slice a2 n2 c2) := Y_5.cell 1
  have cY_5_2 : _ = some (Value.slice b2 m2 d2) := Y_5.cell 2
  have R0_5 := R0_4.next hB_5
  have cR0_5_0 : _ = some (Value.bool false) := R0_5.cell 0
  have fR0_5_0 := R0_5.free 0
  have cR0_5_1 : _ = some (Value.slice none 0 0) := R0_5.cell 1
  have fR0_5_1 := R0_5.free 1
  have cR0_5_2 : _ = some (Value.slice none 0 0) := R0_5.cell 2
  have fR0_5_2 := R0_5.free 2
  have O_5 := O_4.next hB_5
  have cO_5_0 : _ = some (Value.bool false) := O_5.cell 0
  have cO_5_1 : _ = some (Value.slice oa on oc) := O_5.cell 1
  have cO_5_2 : _ = some (Value.slice ob om od) := O_5.cell 2
  have hx_5 := hx_4.below hB_5
  have hy_5 := hy_4.below hB_5
  have QO_5 := QO_4.below hB_5
  have Of_5 := Of_4.below hB_5
  have hbel_5 := hbel_4.next hB_5
  have hsz_5 := hB_5.size
  clear X_4 cX_4_0 cX_4_1 cX_4_2 Y_4 cY_4_0 cY_4_1 cY_4_2 R0_4 cR0_4_0 fR0_4_0 cR0_4_1 fR0_4_1 cR0_4_2 fR0_4_2 O_4 cO_4_0 cO_4_1 cO_4_2 hx_4 hy_4 QO_4 Of_4 hbel_4 hB_5
  have Pf_5 := hO
  have ltPf := hO.ltB
  have hDf := ltOf.diff hO (by omega)
  clear hO
  try clear hB
  have hbx := blk_new w5 #[Value.bool (decide (f < 0)), Value.slice fa fn fc, Value.slice fb fm fd] 38
  have hbB := (Below.refl w5.heap.size w5).alloc (Nat.le_refl _) (.cells #[Value.bool (decide (f < 0)), Value.slice fa fn fc, Value.slice fb fm fd] 38)
  have hltN := hbx.lt
  have hB_6 : Below w5.heap.size w5 (w5.alloc (.cells #[Value.bool (decide (f < 0)), Value.slice fa fn fc, Value.slice fb fm fd] 38)) := hbB
  have X_6 := X_5.next hB_6
  have cX_6_0 : _ = some (Value.bool s) := X_6.cell 0
  have cX_6_1 : _ = some (Value.slice a1 n1 c1) := X_6.cell 1
  have cX_6_2 : _ = some (Value.slice b1 m1 d1) := X_6.cell 2
  have Y_6 := Y_5.next hB_6
  have cY_6_0 : _ = some (Value.bool t) := Y_6.cell 0
  have cY_6_1 : _ = some (Value.slice a2 n2 c2) := Y_6.cell 1
  have cY_6_2 : _ = some (Value.slice b2 m2 d2) := Y_6.cell 2
  have R0_6 := R0_5.next hB_6
  have cR0_6_0 : _ = some (Value.bool false) := R0_6.cell 0
  have fR0_6_0 := R0_6.free 0
  have cR0_6_1 : _ = some (Value.slice none 0 0) := R0_6.cell 1
  have fR0_6_1 := R0_6.free 1
  have cR0_6_2 : _ = some (Value.slice none 0 0) := R0_6.cell 2
  have fR0_6_2 := R0_6.free 2
  have O_6 := O_5.next hB_6
  have cO_6_0 : _ = some (Value.bool false) := O_6.cell 0
  have cO_6_1 : _ = some (Value.slice oa on oc) := O_6.cell 1
  have cO_6_2 : _ = some (Value.slice ob om od) := O_6.cell 2
  have hx_6 := hx_5.below hB_6
  have hy_6 := hy_5.below hB_6
  have QO_6 := QO_5.below hB_6
  have Of_6 := Of_5.below hB_6
  have Pf_6 := Pf_5.below hB_6
  have hbel_6 := hbel_5.next hB_6
  have hsz_6 := hB_6.size
  clear hB_6
  have N_6 := hbx
  clear hbx hbB
  have cN_6_0 : _ = some (Value.bool (decide (f < 0))) := N_6.cell 0
  have cN_6_1 : _ = some (Value.slice fa fn fc) := N_6.cell 1
  have cN_6_2 : _ = some (Value.slice fb fm fd) := N_6.cell 2
  go_wp2_with fail
  clear X_5 cX_5_0 cX_5_1 cX_5_2 Y_5 cY_5_0 cY_5_1 cY_5_2 R0_5 cR0_5_0 fR0_5_0 cR0_5_1 fR0_5_1 cR0_5_2 fR0_5_2 O_5 cO_5_0 cO_5_1 cO_5_2 hx_5 hy_5 QO_5 Of_5 Pf_5 hbel_5
  generalize (w5.alloc (.cells #[Value.bool (decide (f < 0)), Value.slice fa fn fc, Value.slice fb fm fd] 38)) = v6 at *
  have QN_6 := rdq_int Of_6 Pf_6 hsf.out hJ1
  go_wp2_with fail
  refine (qcmp QN_6 (by omega) hx_6 (by omega)).mono ?_
  rw [hc.out]
  rintro e w7 ⟨rfl, hB⟩
  have hB_7 : Below v6.heap.size v6 w7 := (bl.next hB)
  have X_7 := X_6.next hB_7
  have cX_7_0 : _ = some (Value.bool s) := X_7.cell 0
  have cX_7_1 : _ = some (Value.slice a1 n1 c1) := X_7.cell 1
  have cX_7_2 : _ = some (Value.slice b1 m1 d1) := X_7.cell 2
  have Y_7 := Y_6.next hB_7
  have cY_7_0 : _ = some (Value.bool t) := Y_7.cell 0
  have cY_7_1 : _ = some (Value.slice a2 n2 c2) := Y_7.cell 1
  have cY_7_2 : _ = some (Value.slice b2 m2 d2) := Y_7.cell 2
  have R0_7 := R0_6.next hB_7
  have cR0_7_0 : _ = some (Value.bool false) := R0_7.cell 0
  have fR0_7_0 := R0_7.free 0
  have cR0_7_1 : _ = some (Value.slice none 0 0) := R0_7.cell 1
  have fR0_7_1 := R0_7.free 1
  have cR0_7_2 : _ = some (Value.slice none 0 0) := R0_7.cell 2
  have fR0_7_2 := R0_7.free 2
  have O_7 := O_6.next hB_7
  have cO_7_0 : _ = some (Value.bool false) := O_7.cell 0
  have cO_7_1 : _ = some (Value.slice oa on oc) := O_7.cell 1
  have cO_7_2 : _ = some (Value.slice ob om od) := O_7.cell 2
  have N_7 := N_6.next hB_7
  have cN_7_0 : _ = some (Value.bool (decide (f < 0))) := N_7.cell 0
  have cN_7_1 : _ = some (Value.slice fa fn fc) := N_7.cell 1
  have cN_7_2 : _ = some (Value.slice fb fm fd) := N_7.cell 2
  have hx_7 := hx_6.below hB_7
  have hy_7 := hy_6.below hB_7
  have QO_7 := QO_6.below hB_7
  have Of_7 := Of_6.below hB_7
  have Pf_7 := Pf_6.below hB_7
  have QN_7 := QN_6.below hB_7
  have hbel_7 := hbel_6.next hB_7
  have hsz_7 := hB_7.size
  clear X_6 cX_6_0 cX_6_1 cX_6_2 Y_6 cY_6_0 cY_6_1 cY_6_2 R0_6 cR0_6_0 fR0_6_0 cR0_6_1 fR0_6_1 cR0_6_2 fR0_6_2 O_6 cO_6_0 cO_6_1 cO_6_2 N_6 cN_6_0 cN_6_1 cN_6_2 hx_6 hy_6 QO_6 Of_6 Pf_6 QN_6 hbel_6 hB_7
  try clear hB
  go_wp2
  refine bodyPost_ret (v := .agg #[.bool (decide (f < 0)), .slice fa fn fc, .slice fb fm fd]) (by simp [results, Tryz.results134, go_sem, cR0_7_0, cR0_7_1, cR0_7_2]) rfl ?_
  exact retq_set' rfl rfl Of_7 Pf_7 hDf.symm hbel_7 (by omega) (by omega) (by omega)

set_option maxRecDepth 100000 in
set_option maxHeartbeats 40000000 in
theorem qbtw2 {w : World} {a1 b1 : Option Addr} {n1 c1 m1 d1 : Nat} {s : Bool} {x : Rat} {a2 b2 : Option Addr} {n2 c2 m2 d2 : Nat} {t : Bool} {y : Rat} {J k : Nat} (hJ1 : 1 ≤ J) (hJ : J ≤ 200000) (hin : SmpIn x y) (hx : RdQ J w s a1 n1 c1 b1 m1 d1 x) (hy : RdQ J w t a2 n2 c2 b2 m2 d2 y) (h1 : (x.floor : Rat) ≠ x) (h2 : (x.floor : Rat) + 1 ≤ y) :
    Calls Tryz.prog 134 #[.agg #[.bool s, .slice a1 n1 c1, .slice b1 m1 d1], .agg #[.bool t, .slice a2 n2 c2, .slice b2 m2 d2]] w (RetQ w (smp (k + 1) x y)) := by
  have hqx := hx.qs hJ1
  have hqy := hy.qs hJ1
  have sf : Sz x.floor.natAbs J := (floor_qs hin.pos hJ1 hqx).1
  have hqf := floor_qs hin.pos hJ1 hqx
  have hc := hid (cmpQ_lt (Rat.lt_of_le_of_ne (Rat.floor_le x) h1))
  rw [smp_succ2 h1 h2]
  obtain ⟨c2', hc20⟩ : ∃ c, cmpQ ((x.floor : Rat) + 1) y = c := ⟨_, rfl⟩
  have hc3 : c2' ≤ 0 := by rw [← hc20]; rcases cmpQ_cases ((x.floor : Rat) + 1) y with ⟨h, e⟩ | ⟨h, e⟩ | ⟨h, e⟩ <;> first | (rw [e]; omega) | (exfalso; exact h2 (Rat.le_of_lt h)) | (exfalso; exact h2 (by rw [h]; exact Rat.le_refl)) | (exfalso; exact absurd h2 (Rat.not_le.2 h))
  have hc2 := hid hc20
  clear hc20 h2
  clear hin h1
  generalize hf0 : x.floor = f at *
  have hf := hid hf0
  clear hf0
  have qp : QS ((f : Rat) + 1) (J + 2) := (hqf.add (show QS 1 1 from ⟨sz_one (by decide), sz_one (by decide)⟩)).mono (by omega)
  generalize hp0 : (f : Rat) + 1 = p at *
  have hp := hid hp0
  clear hp0
  have hqp := hid qp
  clear qp
  have hsf := hid sf
  clear sf hqf hqx hqy
  have hent := ent3 w #[Value.bool s, Value.slice a1 n1 c1, Value.slice b1 m1 d1] #[Value.bool t, Value.slice a2 n2 c2, Value.slice b2 m2 d2] #[Value.bool false, Value.slice none 0 0, Value.slice none 0 0] 38 38 38
  go_enter Tryz.func134, Tryz.ntmps134
  go_wp2_with fail
  generalize (((w.alloc (.cells #[Value.bool s, Value.slice a1 n1 c1, Value.slice b1 m1 d1] 38)).alloc (.cells #[Value.bool t, Value.slice a2 n2 c2, Value.slice b2 m2 d2] 38)).alloc (.cells #[Value.bool false, Value.slice none 0 0, Value.slice none 0 0] 38)) = W0 at hent ⊢
  obtain ⟨X_0, Y_0, R0_0, hbel_0, hsz_0⟩ := hent
  have cX_0_0 : _ = some (Value.bool s) := X_0.cell 0
  have cX_0_1 : _ = some (Value.slice a1 n1 c1) := X_0.cell 1
  have cX_0_2 : _ = some (Value.slice b1 m1 d1) := X_0.cell 2
  have cY_0_0 : _ = some (Value.bool t) := Y_0.cell 0
  have cY_0_1 : _ = some (Value.slice a2 n2 c2) := Y_0.cell 1
  have cY_0_2 : _ = some (Value.slice b2 m2 d2) := Y_0.cell 2
  have cR0_0_0 : _ = some (Value.bool false) := R0_0.cell 0
  have fR0_0_0 := R0_0.free 0
  have cR0_0_1 : _ = some (Value.slice none 0 0) := R0_0.cell 1
  have fR0_0_1 := R0_0.free 1
  have cR0_0_2 : _ = some (Value.slice none 0 0) := R0_0.cell 2
  have fR0_0_2 := R0_0.free 2
  have hx_0 := hx.below hbel_0
  clear hx
  have hy_0 := hy.below hbel_0
  clear hy
  go_wp2_with fail
  refine (zone_any).mono ?_
  rintro e w1 ⟨oa, on, oc, rfl, hO, hB⟩
  have hB_1 : Below W0.heap.size W0 w1 := (bl.next hB)
  have X_1 := X_0.next hB_1
  have cX_1_0 : _ = some (Value.bool s) := X_1.cell 0
  have cX_1_1 : _ = some (Value.slice a1 n1 c1) := X_1.cell 1
  have cX_1_2 : _ = some (Value.slice b1 m1 d1) := X_1.cell 2
  have Y_1 := Y_0.next hB_1
  have cY_1_0 : _ = some (Value.bool t) := Y_1.cell 0
  have cY_1_1 : _ = some (Value.slice a2 n2 c2) := Y_1.cell 1
  have cY_1_2 : _ = some (Value.slice b2 m2 d2) := Y_1.cell 2
  have R0_1 := R0_0.next hB_1
  have cR0_1_0 : _ = some (Value.bool false) := R0_1.cell 0
  have fR0_1_0 := R0_1.free 0
  have cR0_1_1 : _ = some (Value.slice none 0 0) := R0_1.cell 1
  have fR0_1_1 := R0_1.free 1
  have cR0_1_2 : _ = some (Value.slice none 0 0) := R0_1.cell 2
  have fR0_1_2 := R0_1.free 2
  have hx_1 := hx_0.below hB_1
  have hy_1 := hy_0.below hB_1
  have hbel_1 := hbel_0.next hB_1
  have hsz_1 := hB_1.size
  clear X_0 cX_0_0 cX_0_1 cX_0_2 Y_0 cY_0_0 cY_0_1 cY_0_2 R0_0 cR0_0_0 fR0_0_0 cR0_0_1 fR0_0_1 cR0_0_2 fR0_0_2 hx_0 hy_0 hbel_0 hB_1
  have Oo_1 := hO
  have ltOo := hO.ltB
  clear hO
  try clear hB
  go_wp2_with fail
  refine (of_any 1 (by omega) (by omega)).mono ?_
  rintro e w2 ⟨ob, om, od, rfl, hO, hB⟩
  have hB_2 : Below w1.heap.size w1 w2 := (bl.next hB)
  have X_2 := X_1.next hB_2
  have cX_2_0 : _ = some (Value.bool s) := X_2.cell 0
  have cX_2_1 : _ = some (Value.slice a1 n1 c1) := X_2.cell 1
  have cX_2_2 : _ = some (Value.slice b1 m1 d1) := X_2.cell 2
  have Y_2 := Y_1.next hB_2
  have cY_2_0 : _ = some (Value.bool t) := Y_2.cell 0
  have cY_2_1 : _ = some (Value.slice a2 n2 c2) := Y_2.cell 1
  have cY_2_2 : _ = some (Value.slice b2 m2 d2) := Y_2.cell 2
  have R0_2 := R0_1.next hB_2
  have cR0_2_0 : _ = some (Value.bool false) := R0_2.cell 0
  have fR0_2_0 := R0_2.free 0
  have cR0_2_1 : _ = some (Value.slice none 0 0) := R0_2.cell 1
  have fR0_2_1 := R0_2.free 1
  have cR0_2_2 : _ = some (Value.slice none 0 0) := R0_2.cell 2
  have fR0_2_2 := R0_2.free 2
  have hx_2 := hx_1.below hB_2
  have hy_2 := hy_1.below hB_2
  have Oo_2 := Oo_1.below hB_2
  have hbel_2 := hbel_1.next hB_2
  have hsz_2 := hB_2.size
  clear X_1 cX_1_0 cX_1_1 cX_1_2 Y_1 cY_1_0 cY_1_1 cY_1_2 R0_1 cR0_1_0 fR0_1_0 cR0_1_1 fR0_1_1 cR0_1_2 fR0_1_2 hx_1 hy_1 Oo_1 hbel_1 hB_2
  have Po_2 := hO
  have ltPo := hO.ltB
  clear hO
  try clear hB
  have hbx := blk_new w2 #[Value.bool false, Value.slice oa on oc, Value.slice ob om od] 38
  have hbB := (Below.refl w2.heap.size w2).alloc (Nat.le_refl _) (.cells #[Value.bool false, Value.slice oa on oc, Value.slice ob om od] 38)
  have hltO := hbx.lt
  have hB_3 : Below w2.heap.size w2 (w2.alloc (.cells #[Value.bool false, Value.slice oa on oc, Value.slice ob om od] 38)) := hbB
  have X_3 := X_2.next hB_3
  have cX_3_0 : _ = some (Value.bool s) := X_3.cell 0
  have cX_3_1 : _ = some (Value.slice a1 n1 c1) := X_3.cell 1
  have cX_3_2 : _ = some (Value.slice b1 m1 d1) := X_3.cell 2
  have Y_3 := Y_2.next hB_3
  have cY_3_0 : _ = some (Value.bool t) := Y_3.cell 0
  have cY_3_1 : _ = some (Value.slice a2 n2 c2) := Y_3.cell 1
  have cY_3_2 : _ = some (Value.slice b2 m2 d2) := Y_3.cell 2
  have R0_3 := R0_2.next hB_3
  have cR0_3_0 : _ = some (Value.bool false) := R0_3.cell 0
  have fR0_3_0 := R0_3.free 0
  have cR0_3_1 : _ = some (Value.slice none 0 0) := R0_3.cell 1
  have fR0_3_1 := R0_3.free 1
  have cR0_3_2 : _ = some (Value.slice none 0 0) := R0_3.cell 2
  have fR0_3_2 := R0_3.free 2
  have hx_3 := hx_2.below hB_3
  have hy_3 := hy_2.below hB_3
  have Oo_3 := Oo_2.below hB_3
  have Po_3 := Po_2.below hB_3
  have hbel_3 := hbel_2.next hB_3
  have hsz_3 := hB_3.size
  clear hB_3
  have O_3 := hbx
  clear hbx hbB
  have cO_3_0 : _ = some (Value.bool false) := O_3.cell 0
  have cO_3_1 : _ = some (Value.slice oa on oc) := O_3.cell 1
  have cO_3_2 : _ = some (Value.slice ob om od) := O_3.cell 2
  go_wp2_with fail
  clear X_2 cX_2_0 cX_2_1 cX_2_2 Y_2 cY_2_0 cY_2_1 cY_2_2 R0_2 cR0_2_0 fR0_2_0 cR0_2_1 fR0_2_1 cR0_2_2 fR0_2_2 hx_2 hy_2 Oo_2 Po_2 hbel_2
  generalize (w2.alloc (.cells #[Value.bool false, Value.slice oa on oc, Value.slice ob om od] 38)) = v3 at *
  have QO_3 := rdq_one Oo_3 Po_3
  clear Oo_3
  clear Po_3
  go_wp2_with fail
  refine (qfloor hx_3 (by omega)).mono ?_
  rw [hf.out]
  rintro e w4 ⟨fa, fn, fc, rfl, hO, hB⟩
  have hB_4 : Below v3.heap.size v3 w4 := (bl.next hB)
  have X_4 := X_3.next hB_4
  have cX_4_0 : _ = some (Value.bool s) := X_4.cell 0
  have cX_4_1 : _ = some (Value.slice a1 n1 c1) := X_4.cell 1
  have cX_4_2 : _ = some (Value.slice b1 m1 d1) := X_4.cell 2
  have Y_4 := Y_3.next hB_4
  have cY_4_0 : _ = some (Value.bool t) := Y_4.cell 0
  have cY_4_1 : _ = some (Value.slice a2 n2 c2) := Y_4.cell 1
  have cY_4_2 : _ = some (Value.slice b2 m2 d2) := Y_4.cell 2
  have R0_4 := R0_3.next hB_4
  have cR0_4_0 : _ = some (Value.bool false) := R0_4.cell 0
  have fR0_4_0 := R0_4.free 0
  have cR0_4_1 : _ = some (Value.slice none 0 0) := R0_4.cell 1
  have fR0_4_1 := R0_4.free 1
  have cR0_4_2 : _ = some (Value.slice none 0 0) := R0_4.cell 2
  have fR0_4_2 := R0_4.free 2
  have O_4 := O_3.next hB_4
  have cO_4_0 : _ = some (Value.bool false) := O_4.cell 0
  have cO_4_1 : _ = some (Value.slice oa on oc) := O_4.cell 1
  have cO_4_2 : _ = some (Value.slice ob om od) := O_4.cell 2
  have hx_4 := hx_3.below hB_4
  have hy_4 := hy_3.below hB_4
  have QO_4 := QO_3.below hB_4
  have hbel_4 := hbel_3.next hB_4
  have hsz_4 := hB_4.size
  clear X_3 cX_3_0 cX_3_1 cX_3_2 Y_3 cY_3_0 cY_3_1 cY_3_2 R0_3 cR0_3_0 fR0_3_0 cR0_3_1 fR0_3_1 cR0_3_2 fR0_3_2 O_3 cO_3_0 cO_3_1 cO_3_2 hx_3 hy_3 QO_3 hbel_3 hB_4
  have Of_4 := hO
  have ltOf := hO.ltB
  clear hO
  try clear hB
  go_wp2_with fail
  refine (of_any 1 (by omega) (by omega)).mono ?_
  rintro e w5 ⟨fb, fm, fd, rfl, hO, hB⟩
  have hB_5 : Below w4.heap.size w4 w5 := (bl.next hB)
  have X_5 := X_4.next hB_5
  have cX_5_0 : _ = some (Value.bool s) := X_5.cell 0
  have cX_5_1 : _ = some (Value.slice a1 n1 c1) := X_5.cell 1
  have cX_5_2 : _ = some (Value.slice b1 m1 d1) := X_5.cell 2
  have Y_5 := Y_4.next hB_5
  have cY_5_0 : _ = some (Value.bool t) := Y_5.cell 0
  have cY_5_1 : _ = some (Value.slice a2 n2 c2) := Y_5.cell 1
  have cY_5_2 : _ = some (Value.slice b2 m2 d2) := Y_5.cell 2
  have R0_5 := R0_4.next hB_5
  have cR0_5_0 : _ = some (Value.bool false) := R0_5.cell 0
  have fR0_5_0 := R0_5.free 0
  have cR0_5_1 : _ = some (Value.slice none 0 0) := R0_5.cell 1
  have fR0_5_1 := R0_5.free 1
  have cR0_5_2 : _ = some (Value.slice none 0 0) := R0_5.cell 2
  have fR0_5_2 := R0_5.free 2
  have O_5 := O_4.next hB_5
  have cO_5_0 : _ = some (Value.bool false) := O_5.cell 0
  have cO_5_1 : _ = some (Value.slice oa on oc) := O_5.cell 1
  have cO_5_2 : _ = some (Value.slice ob om od) := O_5.cell 2
  have hx_5 := hx_4.below hB_5
  have hy_5 := hy_4.below hB_5
  have QO_5 := QO_4.below hB_5
  have Of_5 := Of_4.below hB_5
  have hbel_5 := hbel_4.next hB_5
  have hsz_5 := hB_5.size
  clear X_4 cX_4_0 cX_4_1 cX_4_2 Y_4 cY_4_0 cY_4_1 cY_4_2 R0_4 cR0_4_0 fR0_4_0 cR0_4_1 fR0_4_1 cR0_4_2 fR0_4_2 O_4 cO_4_0 cO_4_1 cO_4_2 hx_4 hy_4 QO_4 Of_4 hbel_4 hB_5
  have Pf_5 := hO
  have ltPf := hO.ltB
  have hDf := ltOf.diff hO (by omega)
  clear hO
  try clear hB
  have hbx := blk_new w5 #[Value.bool (decide (f < 0)), Value.slice fa fn fc, Value.slice fb fm fd] 38
  have hbB := (Below.refl w5.heap.size w5).alloc (Nat.le_refl _) (.cells #[Value.bool (decide (f < 0)), Value.slice fa fn fc, Value.slice fb fm fd] 38)
  have hltN := hbx.lt
  have hB_6 : Below w5.heap.size w5 (w5.alloc (.cells #[Value.bool (decide (f < 0)), Value.slice fa fn fc, Value.slice fb fm fd] 38)) := hbB
  have X_6 := X_5.next hB_6
  have cX_6_0 : _ = some (Value.bool s) := X_6.cell 0
  have cX_6_1 : _ = some (Value.slice a1 n1 c1) := X_6.cell 1
  have cX_6_2 : _ = some (Value.slice b1 m1 d1) := X_6.cell 2
  have Y_6 := Y_5.next hB_6
  have cY_6_0 : _ = some (Value.bool t) := Y_6.cell 0
  have cY_6_1 : _ = some (Value.slice a2 n2 c2) := Y_6.cell 1
  have cY_6_2 : _ = some (Value.slice b2 m2 d2) := Y_6.cell 2
  have R0_6 := R0_5.next hB_6
  have cR0_6_0 : _ = some (Value.bool false) := R0_6.cell 0
  have fR0_6_0 := R0_6.free 0
  have cR0_6_1 : _ = some (Value.slice none 0 0) := R0_6.cell 1
  have fR0_6_1 := R0_6.free 1
  have cR0_6_2 : _ = some (Value.slice none 0 0) := R0_6.cell 2
  have fR0_6_2 := R0_6.free 2
  have O_6 := O_5.next hB_6
  have cO_6_0 : _ = some (Value.bool false) := O_6.cell 0
  have cO_6_1 : _ = some (Value.slice oa on oc) := O_6.cell 1
  have cO_6_2 : _ = some (Value.slice ob om od) := O_6.cell 2
  have hx_6 := hx_5.below hB_6
  have hy_6 := hy_5.below hB_6
  have QO_6 := QO_5.below hB_6
  have Of_6 := Of_5.below hB_6
  have Pf_6 := Pf_5.below hB_6
  have hbel_6 := hbel_5.next hB_6
  have hsz_6 := hB_6.size
  clear hB_6
  have N_6 := hbx
  clear hbx hbB
  have cN_6_0 : _ = some (Value.bool (decide (f < 0))) := N_6.cell 0
  have cN_6_1 : _ = some (Value.slice fa fn fc) := N_6.cell 1
  have cN_6_2 : _ = some (Value.slice fb fm fd) := N_6.cell 2
  go_wp2_with fail
  clear X_5 cX_5_0 cX_5_1 cX_5_2 Y_5 cY_5_0 cY_5_1 cY_5_2 R0_5 cR0_5_0 fR0_5_0 cR0_5_1 fR0_5_1 cR0_5_2 fR0_5_2 O_5 cO_5_0 cO_5_1 cO_5_2 hx_5 hy_5 QO_5 Of_5 Pf_5 hbel_5
  generalize (w5.alloc (.cells #[Value.bool (decide (f < 0)), Value.slice fa fn fc, Value.slice fb fm fd] 38)) = v6 at *
  have QN_6 := rdq_int Of_6 Pf_6 hsf.out hJ1
  clear Of_6
  clear Pf_6
  go_wp2_with fail
  refine (qcmp QN_6 (by omega) hx_6 (by omega)).mono ?_
  rw [hc.out]
  rintro e w7 ⟨rfl, hB⟩
  have hB_7 : Below v6.heap.size v6 w7 := (bl.next hB)
  have X_7 := X_6.next hB_7
  have cX_7_0 : _ = some (Value.bool s) := X_7.cell 0
  have cX_7_1 : _ = some (Value.slice a1 n1 c1) := X_7.cell 1
  have cX_7_2 : _ = some (Value.slice b1 m1 d1) := X_7.cell 2
  have Y_7 := Y_6.next hB_7
  have cY_7_0 : _ = some (Value.bool t) := Y_7.cell 0
  have cY_7_1 : _ = some (Value.slice a2 n2 c2) := Y_7.cell 1
  have cY_7_2 : _ = some (Value.slice b2 m2 d2) := Y_7.cell 2
  have R0_7 := R0_6.next hB_7
  have cR0_7_0 : _ = some (Value.bool false) := R0_7.cell 0
  have fR0_7_0 := R0_7.free 0
  have cR0_7_1 : _ = some (Value.slice none 0 0) := R0_7.cell 1
  have fR0_7_1 := R0_7.free 1
  have cR0_7_2 : _ = some (Value.slice none 0 0) := R0_7.cell 2
  have fR0_7_2 := R0_7.free 2
  have O_7 := O_6.next hB_7
  have cO_7_0 : _ = some (Value.bool false) := O_7.cell 0
  have cO_7_1 : _ = some (Value.slice oa on oc) := O_7.cell 1
  have cO_7_2 : _ = some (Value.slice ob om od) := O_7.cell 2
  have N_7 := N_6.next hB_7
  have cN_7_0 : _ = some (Value.bool (decide (f < 0))) := N_7.cell 0
  have cN_7_1 : _ = some (Value.slice fa fn fc) := N_7.cell 1
  have cN_7_2 : _ = some (Value.slice fb fm fd) := N_7.cell 2
  have hx_7 := hx_6.below hB_7
  have hy_7 := hy_6.below hB_7
  have QO_7 := QO_6.below hB_7
  have QN_7 := QN_6.below hB_7
  have hbel_7 := hbel_6.next hB_7
  have hsz_7 := hB_7.size
  clear X_6 cX_6_0 cX_6_1 cX_6_2 Y_6 cY_6_0 cY_6_1 cY_6_2 R0_6 cR0_6_0 fR0_6_0 cR0_6_1 fR0_6_1 cR0_6_2 fR0_6_2 O_6 cO_6_0 cO_6_1 cO_6_2 N_6 cN_6_0 cN_6_1 cN_6_2 hx_6 hy_6 QO_6 QN_6 hbel_6 hB_7
  try clear hB
  go_wp2_with fail
  refine (qadd QN_7 (by omega) QO_7 (by omega)).mono ?_
  rw [hp.out]
  rintro e w8 ⟨pa, pn, pc, pb, pm, pd, rfl, hO, hO', hDp, hB⟩
  have hB_8 : Below w7.heap.size w7 w8 := (bl.next hB)
  have X_8 := X_7.next hB_8
  have cX_8_0 : _ = some (Value.bool s) := X_8.cell 0
  have cX_8_1 : _ = some (Value.slice a1 n1 c1) := X_8.cell 1
  have cX_8_2 : _ = some (Value.slice b1 m1 d1) := X_8.cell 2
  have Y_8 := Y_7.next hB_8
  have cY_8_0 : _ = some (Value.bool t) := Y_8.cell 0
  have cY_8_1 : _ = some (Value.slice a2 n2 c2) := Y_8.cell 1
  have cY_8_2 : _ = some (Value.slice b2 m2 d2) := Y_8.cell 2
  have R0_8 := R0_7.next hB_8
  have cR0_8_0 : _ = some (Value.bool false) := R0_8.cell 0
  have fR0_8_0 := R0_8.free 0
  have cR0_8_1 : _ = some (Value.slice none 0 0) := R0_8.cell 1
  have fR0_8_1 := R0_8.free 1
  have cR0_8_2 : _ = some (Value.slice none 0 0) := R0_8.cell 2
  have fR0_8_2 := R0_8.free 2
  have O_8 := O_7.next hB_8
  have cO_8_0 : _ = some (Value.bool false) := O_8.cell 0
  have cO_8_1 : _ = some (Value.slice oa on oc) := O_8.cell 1
  have cO_8_2 : _ = some (Value.slice ob om od) := O_8.cell 2
  have N_8 := N_7.next hB_8
  have cN_8_0 : _ = some (Value.bool (decide (f < 0))) := N_8.cell 0
  have cN_8_1 : _ = some (Value.slice fa fn fc) := N_8.cell 1
  have cN_8_2 : _ = some (Value.slice fb fm fd) := N_8.cell 2
  have hx_8 := hx_7.below hB_8
  have hy_8 := hy_7.below hB_8
  have QO_8 := QO_7.below hB_8
  have QN_8 := QN_7.below hB_8
  have hbel_8 := hbel_7.next hB_8
  have hsz_8 := hB_8.size
  clear X_7 cX_7_0 cX_7_1 cX_7_2 Y_7 cY_7_0 cY_7_1 cY_7_2 R0_7 cR0_7_0 fR0_7_0 cR0_7_1 fR0_7_1 cR0_7_2 fR0_7_2 O_7 cO_7_0 cO_7_1 cO_7_2 N_7 cN_7_0 cN_7_1 cN_7_2 hx_7 hy_7 QO_7 QN_7 hbel_7 hB_8
  have Op_8 := hO
  have ltOp := hO.ltB
  have Pp_8 := hO'
  have ltPp := hO'.ltB
  clear hO hO'
  try clear hB
  have hbx := blk_new w8 #[Value.bool (decide ((p).num < 0)), Value.slice pa pn pc, Value.slice pb pm pd] 38
  have hbB := (Below.refl w8.heap.size w8).alloc (Nat.le_refl _) (.cells #[Value.bool (decide ((p).num < 0)), Value.slice pa pn pc, Value.slice pb pm pd] 38)
  have hltP := hbx.lt
  have hB_9 : Below w8.heap.size w8 (w8.alloc (.cells #[Value.bool (decide ((p).num < 0)), Value.slice pa pn pc, Value.slice pb pm pd] 38)) := hbB
  have X_9 := X_8.next hB_9
  have cX_9_0 : _ = some (Value.bool s) := X_9.cell 0
  have cX_9_1 : _ = some (Value.slice a1 n1 c1) := X_9.cell 1
  have cX_9_2 : _ = some (Value.slice b1 m1 d1) := X_9.cell 2
  have Y_9 := Y_8.next hB_9
  have cY_9_0 : _ = some (Value.bool t) := Y_9.cell 0
  have cY_9_1 : _ = some (Value.slice a2 n2 c2) := Y_9.cell 1
  have cY_9_2 : _ = some (Value.slice b2 m2 d2) := Y_9.cell 2
  have R0_9 := R0_8.next hB_9
  have cR0_9_0 : _ = some (Value.bool false) := R0_9.cell 0
  have fR0_9_0 := R0_9.free 0
  have cR0_9_1 : _ = some (Value.slice none 0 0) := R0_9.cell 1
  have fR0_9_1 := R0_9.free 1
  have cR0_9_2 : _ = some (Value.slice none 0 0) := R0_9.cell 2
  have fR0_9_2 := R0_9.free 2
  have O_9 := O_8.next hB_9
  have cO_9_0 : _ = some (Value.bool false) := O_9.cell 0
  have cO_9_1 : _ = some (Value.slice oa on oc) := O_9.cell 1
  have cO_9_2 : _ = some (Value.slice ob om od) := O_9.cell 2
  have N_9 := N_8.next hB_9
  have cN_9_0 : _ = some (Value.bool (decide (f < 0))) := N_9.cell 0
  have cN_9_1 : _ = some (Value.slice fa fn fc) := N_9.cell 1
  have cN_9_2 : _ = some (Value.slice fb fm fd) := N_9.cell 2
  have hx_9 := hx_8.below hB_9
  have hy_9 := hy_8.below hB_9
  have QO_9 := QO_8.below hB_9
  have QN_9 := QN_8.below hB_9
  have Op_9 := Op_8.below hB_9
  have Pp_9 := Pp_8.below hB_9
  have hbel_9 := hbel_8.next hB_9
  have hsz_9 := hB_9.size
  clear hB_9
  have P_9 := hbx
  clear hbx hbB
  have cP_9_0 : _ = some (Value.bool (decide ((p).num < 0))) := P_9.cell 0
  have cP_9_1 : _ = some (Value.slice pa pn pc) := P_9.cell 1
  have cP_9_2 : _ = some (Value.slice pb pm pd) := P_9.cell 2
  go_wp2_with fail
  clear X_8 cX_8_0 cX_8_1 cX_8_2 Y_8 cY_8_0 cY_8_1 cY_8_2 R0_8 cR0_8_0 fR0_8_0 cR0_8_1 fR0_8_1 cR0_8_2 fR0_8_2 O_8 cO_8_0 cO_8_1 cO_8_2 N_8 cN_8_0 cN_8_1 cN_8_2 hx_8 hy_8 QO_8 QN_8 Op_8 Pp_8 hbel_8
  generalize (w8.alloc (.cells #[Value.bool (decide ((p).num < 0)), Value.slice pa pn pc, Value.slice pb pm pd] 38)) = v9 at *
  have QP_9 := Op_9.rdQ Pp_9 hqp.out
  go_wp2_with fail
  refine (qcmp QP_9 (by omega) hy_9 (by omega)).mono ?_
  rw [hc2.out]
  rintro e w10 ⟨rfl, hB⟩
  have hB_10 : Below v9.heap.size v9 w10 := (bl.next hB)
  have X_10 := X_9.next hB_10
  have cX_10_0 : _ = some (Value.bool s) := X_10.cell 0
  have cX_10_1 : _ = some (Value.slice a1 n1 c1) := X_10.cell 1
  have cX_10_2 : _ = some (Value.slice b1 m1 d1) := X_10.cell 2
  have Y_10 := Y_9.next hB_10
  have cY_10_0 : _ = some (Value.bool t) := Y_10.cell 0
  have cY_10_1 : _ = some (Value.slice a2 n2 c2) := Y_10.cell 1
  have cY_10_2 : _ = some (Value.slice b2 m2 d2) := Y_10.cell 2
  have R0_10 := R0_9.next hB_10
  have cR0_10_0 : _ = some (Value.bool false) := R0_10.cell 0
  have fR0_10_0 := R0_10.free 0
  have cR0_10_1 : _ = some (Value.slice none 0 0) := R0_10.cell 1
  have fR0_10_1 := R0_10.free 1
  have cR0_10_2 : _ = some (Value.slice none 0 0) := R0_10.cell 2
  have fR0_10_2 := R0_10.free 2
  have O_10 := O_9.next hB_10
  have cO_10_0 : _ = some (Value.bool false) := O_10.cell 0
  have cO_10_1 : _ = some (Value.slice oa on oc) := O_10.cell 1
  have cO_10_2 : _ = some (Value.slice ob om od) := O_10.cell 2
  have N_10 := N_9.next hB_10
  have cN_10_0 : _ = some (Value.bool (decide (f < 0))) := N_10.cell 0
  have cN_10_1 : _ = some (Value.slice fa fn fc) := N_10.cell 1
  have cN_10_2 : _ = some (Value.slice fb fm fd) := N_10.cell 2
  have P_10 := P_9.next hB_10
  have cP_10_0 : _ = some (Value.bool (decide ((p).num < 0))) := P_10.cell 0
  have cP_10_1 : _ = some (Value.slice pa pn pc) := P_10.cell 1
  have cP_10_2 : _ = some (Value.slice pb pm pd) := P_10.cell 2
  have hx_10 := hx_9.below hB_10
  have hy_10 := hy_9.below hB_10
  have QO_10 := QO_9.below hB_10
  have QN_10 := QN_9.below hB_10
  have Op_10 := Op_9.below hB_10
  have Pp_10 := Pp_9.below hB_10
  have QP_10 := QP_9.below hB_10
  have hbel_10 := hbel_9.next hB_10
  have hsz_10 := hB_10.size
  clear X_9 cX_9_0 cX_9_1 cX_9_2 Y_9 cY_9_0 cY_9_1 cY_9_2 R0_9 cR0_9_0 fR0_9_0 cR0_9_1 fR0_9_1 cR0_9_2 fR0_9_2 O_9 cO_9_0 cO_9_1 cO_9_2 N_9 cN_9_0 cN_9_1 cN_9_2 P_9 cP_9_0 cP_9_1 cP_9_2 hx_9 hy_9 QO_9 QN_9 Op_9 Pp_9 QP_9 hbel_9 hB_10
  try clear hB
  go_wp2
  refine bodyPost_ret (v := .agg #[.bool (decide (p.num < 0)), .slice pa pn pc, .slice pb pm pd]) (by simp [results, Tryz.results134, go_sem, cR0_10_0, cR0_10_1, cR0_10_2]) rfl ?_
  exact retq_set Op_10 Pp_10 hDp hbel_10 (by omega) (by omega)

end Go.Proofs.YtgddnmmllchndaaGreat
