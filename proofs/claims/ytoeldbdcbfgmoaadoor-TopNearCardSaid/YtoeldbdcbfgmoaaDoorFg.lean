/- WALKS OF FLOATS, 4: the size of a float, no end, Frexp. -/
import Derived.Test.YtoeldbdcbfgmoaaDoorFb
import Derived.Test.YtoeldbdcbfgmoaaDoorFe
import Derived.Laws.BitsAllLaws
import Derived.Laws.Bits64b
namespace Go.Proofs.YtoeldbdcbfgmoaaDoor
set_option linter.unusedVariables false
set_option linter.unusedSimpArgs false
open Go.ChangeShapes Go.WideShapes Go.ChangeAt Go.RowKit Go.FloatP

theorem f64from (x : Nat) (w : World) : Sem.run Tryd.prog (callFunc 32 #[Value.int .u64 (x : Int)]) w = .ok (.value (.float .f64 x)) w := by kernel_rfl
theorem and_low (x k : Nat) : x &&& (2 ^ k - 1) = x % 2 ^ k := Nat.and_two_pow_sub_one_eq_mod x k
theorem not_sign (x : Nat) (hx : x < 18446744073709551616) : bits BinOp.andNot IntKind.u64 (x : Int) 9223372036854775808 = (fr x : Int) := by
  have h := u64_andNot_nat x 9223372036854775808 (by omega) (by omega)
  rw [show (18446744073709551615 - 9223372036854775808 : Nat) = 2 ^ 63 - 1 by decide, and_low] at h
  exact h
theorem not_exp (x : Nat) (hx : x < 9223372036854775808) : bits BinOp.andNot IntKind.u64 (x : Int) 9218868437227405312 = ((x % 4503599627370496 : Nat) : Int) := by
  have h := u64_andNot_nat x 9218868437227405312 (by omega) (by omega)
  have e : (18446744073709551615 - 9218868437227405312 : Nat) = 2 ^ 63 ||| (2 ^ 52 - 1) := by decide
  have hz : x &&& 2 ^ 63 = 0 := by
    refine Nat.eq_of_testBit_eq fun i => ?_
    rw [Nat.testBit_and, Nat.testBit_two_pow, Nat.zero_testBit]
    by_cases hi : 63 = i
    · subst hi
      rw [Nat.testBit_lt_two_pow (by omega), Bool.false_and]
    · simp [hi]
  rw [e, Nat.and_or_distrib_left, hz, Nat.zero_or, and_low] at h
  exact h
theorem or_half {f : Nat} (hf : f < 4503599627370496) : bits BinOp.or IntKind.u64 (f : Int) 4602678819172646912 = ((1022 * 4503599627370496 + f : Nat) : Int) := by
  have h := bits_or_u64_nat f 4602678819172646912 (by omega) (by omega)
  have e : f ||| 4602678819172646912 = 1022 * 4503599627370496 + f := by
    have := Nat.shiftLeft_add_eq_or_of_lt (b := f) (i := 52) (by simpa using hf) 1022
    rw [Nat.or_comm]
    rw [Nat.shiftLeft_eq] at this
    exact this.symm
  rw [e] at h
  exact h
theorem and_field (a : Nat) (ha : a < 18446744073709551616) : bits BinOp.and IntKind.u64 (a : Int) 2047 = ((a % 2048 : Nat) : Int) := by
  have h := bits_and_u64_nat a 2047 (by omega) (by omega)
  rw [show (2047 : Nat) = 2 ^ 11 - 1 by decide, and_low] at h
  exact h
set_option maxRecDepth 100000 in
theorem abs_any {w : World} (x : Nat) (hx : x < 18446744073709551616) : Calls Tryd.prog 34 #[.float .f64 x] w fun e w' => e = .returned (.float .f64 (fr x)) ∧ w' = w := by
  have hb := f64bits x
  have hf := f64from (fr x)
  have hn := not_sign x hx
  go_enter Tryd.func34, Tryd.ntmps34
  go_wp2
  go_ret
  exact ⟨rfl, rfl⟩
/-- a rung's product by 2^52, and how it compares -/
theorem run_mul52 {r : Nat} (h0 : r ≠ 0) (h : r < 4503599627370496) (w : World) : (binOp BinOp.mul 28 (.float .f64 r) (.float .f64 4841369599423283200)).run Tryd.prog w = .ok (.float .f64 (r.log2 * 4503599627370496 + fK r)) w := by
  have hm : FloatKind.f64.format.mul r 4841369599423283200 = some (r.log2 * 4503599627370496 + fK r) := mul52 h0 h
  simp [binOp, Op.floatArith, hm]
theorem fr_low {r : Nat} (h : r < 9223372036854775808) : fr r = r := by unfold fr; omega
theorem ord_low {r : Nat} (h : r < 4503599627370496) : FloatKind.f64.format.order r 4503599627370496 = some .lt := by
  have h1 : fnan r = false := by unfold fnan; rw [fr_low (by omega)]; simp; omega
  have h2 := fcmp_num (x := r) (y := 4503599627370496) h1 (by decide)
  unfold fcmp at h2
  rw [h2]
  have h3 : fk r = r := by unfold fk; rw [(fs_low (by omega)).1, fr_low (by omega)]; rfl
  have h4 : fk 4503599627370496 = 4503599627370496 := by decide
  unfold ic
  rw [h3, h4, if_pos (by omega)]
theorem ord_high {r : Nat} (h : 4503599627370496 ≤ r) (h2 : r < 9218868437227405312) : (FloatKind.f64.format.order r 4503599627370496 == some .lt) = false := by
  have h1 : fnan r = false := by unfold fnan; rw [fr_low (by omega)]; simp; omega
  have h2 := fcmp_num (x := r) (y := 4503599627370496) h1 (by decide)
  unfold fcmp at h2
  rw [h2]
  have h3 : fk r = r := by unfold fk; rw [(fs_low (by omega)).1, fr_low (by omega)]; rfl
  have h4 : fk 4503599627370496 = 4503599627370496 := by decide
  unfold ic
  rw [h3, h4, if_neg (by omega)]
  split <;> rfl
set_option maxRecDepth 100000 in
theorem norm_low {w : World} {r : Nat} (h0 : r ≠ 0) (h : r < 4503599627370496) : Calls Tryd.prog 85 #[.float .f64 r] w fun e w' => e = .returned (.tuple #[.float .f64 (r.log2 * 4503599627370496 + fK r), .int .i64 (-52)]) ∧ w' = w := by
  have ha := hid (fun w => abs_any (w := w) r (by omega))
  have ho := ord_low h
  have hm := run_mul52 h0 h
  rw [fr_low (by omega)] at ha
  generalize r.log2 * 4503599627370496 + fK r = y at *
  clear h h0
  go_enter Tryd.func85, Tryd.ntmps85
  go_wp2_with fail
  refine (ha.out _).mono ?_
  rintro e w1 ⟨rfl, rfl⟩
  go_wp2
  go_ret2
  exact ⟨rfl, rfl⟩
set_option maxRecDepth 100000 in
theorem norm_high {w : World} {r : Nat} (h : 4503599627370496 ≤ r) (h2 : r < 9218868437227405312) : Calls Tryd.prog 85 #[.float .f64 r] w fun e w' => e = .returned (.tuple #[.float .f64 r, .int .i64 0]) ∧ w' = w := by
  have ha := hid (fun w => abs_any (w := w) r (by omega))
  have ho := ord_high h h2
  rw [fr_low (by omega)] at ha
  clear h h2
  go_enter Tryd.func85, Tryd.ntmps85
  go_wp2_with fail
  refine (ha.out _).mono ?_
  rintro e w1 ⟨rfl, rfl⟩
  go_wp2
  go_ret2
  exact ⟨rfl, rfl⟩
theorem ord_max {r : Nat} (h : r < 9218868437227405312) : (FloatKind.f64.format.order r 9218868437227405311 == some .gt) = false := by
  have h1 : fnan r = false := by unfold fnan; rw [fr_low (by omega)]; simp; omega
  have h2 := fcmp_num (x := r) (y := 9218868437227405311) h1 (by decide)
  unfold fcmp at h2
  rw [h2]
  have h3 : fk r = r := by unfold fk; rw [(fs_low (by omega)).1, fr_low (by omega)]; rfl
  have h4 : fk 9218868437227405311 = 9218868437227405311 := by decide
  unfold ic
  rw [h3, h4]
  by_cases ha : (r : Int) < 9218868437227405311
  · rw [if_pos ha]; rfl
  · rw [if_neg ha, if_pos (by omega)]; rfl
theorem ord_zero {r : Nat} (h0 : r ≠ 0) (h : r < 9218868437227405312) : (FloatKind.f64.format.order r 0 == some .eq) = false := by
  have h1 : fnan r = false := by unfold fnan; rw [fr_low (by omega)]; simp; omega
  have h2 := fcmp_num (x := r) (y := 0) h1 (by decide)
  unfold fcmp at h2
  rw [h2]
  have h3 : fk r = r := by unfold fk; rw [(fs_low (by omega)).1, fr_low (by omega)]; rfl
  have h4 : fk 0 = 0 := by decide
  unfold ic
  rw [h3, h4, if_neg (by omega), if_neg (by omega)]
  rfl
set_option maxRecDepth 100000 in
theorem isinf_fin {w : World} {x : Nat} (hx : x < 18446744073709551616) (h : fr x < 9218868437227405312) : Calls Tryd.prog 11 #[.float .f64 x, .int .i64 0] w fun e w' => e = .returned (.bool false) ∧ w' = w := by
  have ha := hid (fun w => abs_any (w := w) x hx)
  have ho := ord_max h
  generalize fr x = r at *
  clear h hx
  go_enter Tryd.func11, Tryd.ntmps11
  go_wp2_with fail
  refine (ha.out _).mono ?_
  rintro e w1 ⟨rfl, rfl⟩
  go_wp2
  go_ret
  exact ⟨rfl, rfl⟩
set_option maxRecDepth 100000 in
set_option maxHeartbeats 1000000 in
theorem frexp_of {w : World} {r y b f : Nat} {ex : Int} (h0 : r ≠ 0) (h : r < 9218868437227405312) (hN : ∀ w, Calls Tryd.prog 85 #[.float .f64 r] w fun e w' => e = .returned (.tuple #[.float .f64 y, .int .i64 ex]) ∧ w' = w)
    (hy : y = b * 4503599627370496 + f) (hb : b ≤ 2046) (hf : f < 4503599627370496) (he : -60 ≤ ex) (he2 : ex ≤ 60) :
    Calls Tryd.prog 62 #[.float .f64 r] w fun e w' => e = .returned (.tuple #[.float .f64 (1022 * 4503599627370496 + f), .int .i64 (ex + b - 1022)]) ∧ w' = w := by
  have hi := hid (fun w => isinf_fin (w := w) (x := r) (by omega) (by rw [fr_low (by omega)]; exact h))
  have hnan : fnan r = false := by unfold fnan; rw [fr_low (by omega)]; simp; omega
  have hn := hid (fun w => isnan_any (w := w) r)
  rw [hnan] at hn
  have ho := ord_zero h0 h
  have hNh := hid hN
  have hbt := f64bits y
  have hfr := f64from (1022 * 4503599627370496 + f)
  have hsh : (y : Int) / 4503599627370496 = (b : Int) := by omega
  have h1 := and_field b (by omega)
  have h2 := not_exp y (by omega)
  have h3 := or_half hf
  rw [show y % 4503599627370496 = f by omega] at h2
  rw [show b % 2048 = b by omega] at h1
  clear hN hnan h0 h
  obtain ⟨z, hz⟩ : ∃ z, 1022 * 4503599627370496 + f = z := ⟨_, rfl⟩
  rw [hz] at hfr h3 ⊢
  clear hz hy hf
  obtain ⟨X, hX⟩ : ∃ X : Int, ex + (b : Int) - 1022 = X := ⟨_, rfl⟩
  have hX2 : ex + ((b : Int) - 1023 + 1) = X := by omega
  rw [hX]
  clear hX
  go_enter Tryd.func62, Tryd.ntmps62
  go_wp2_with fail
  refine (hi.out _).mono ?_
  rintro e w1 ⟨rfl, rfl⟩
  go_wp2_with fail
  refine (hn.out _).mono ?_
  rintro e w2 ⟨rfl, rfl⟩
  go_wp2_with fail
  refine (hNh.out _).mono ?_
  rintro e w3 ⟨rfl, rfl⟩
  go_wp2
  go_ret2
  exact ⟨by first | rfl | rw [hX2], rfl⟩
theorem frexp_in {w : World} {r : Nat} (h0 : r ≠ 0) (h : r < 9218868437227405312) :
    Calls Tryd.prog 62 #[.float .f64 r] w fun e w' => e = .returned (.tuple #[.float .f64 (1022 * 4503599627370496 + (fK r - 4503599627370496)), .int .i64 (fX r)]) ∧ w' = w := by
  obtain ⟨hk1, hk2⟩ := fK_bd h0
  by_cases hl : r < 4503599627370496
  · have hlog := log2_low h0 hl
    have hX : fX r = -52 + ((r.log2 + 1 : Nat) : Int) - 1022 := by unfold fX; rw [if_pos hl]; omega
    rw [hX]
    exact frexp_of (y := r.log2 * 4503599627370496 + fK r) (b := r.log2 + 1) (f := fK r - 4503599627370496) (ex := -52) h0 h (fun w => norm_low h0 hl) (by omega) (by omega) (by omega) (by decide) (by decide)
  · have hX : fX r = 0 + ((r / 4503599627370496 : Nat) : Int) - 1022 := by unfold fX; rw [if_neg hl]; omega
    have hK : fK r - 4503599627370496 = r % 4503599627370496 := by unfold fK; rw [if_neg hl]; omega
    rw [hX, hK]
    exact frexp_of (y := r) (b := r / 4503599627370496) (f := r % 4503599627370496) (ex := 0) h0 h (fun w => norm_high (by omega) h) (by omega) (by omega) (by omega) (by decide) (by decide)
set_option maxRecDepth 100000 in
theorem frexp_zero {w : World} : Calls Tryd.prog 62 #[.float .f64 0] w fun e w' => e = .returned (.tuple #[.float .f64 0, .int .i64 0]) ∧ w' = w := by
  have ho : FloatKind.f64.format.order 0 0 = some .eq := by decide +kernel
  go_enter Tryd.func62, Tryd.ntmps62
  go_wp2
  go_ret2
  exact ⟨rfl, rfl⟩
/-- Frexp of a size: nought, or 53 digits below 1 and an exponent -/
def fxM (r : Nat) : Nat := if r = 0 then 0 else 1022 * 4503599627370496 + (fK r - 4503599627370496)
def fxE (r : Nat) : Int := if r = 0 then 0 else fX r
theorem Frexp_any {w : World} {r : Nat} (h : r < 9218868437227405312) :
    Calls Tryd.prog 37 #[.float .f64 r] w fun e w' => e = .returned (.tuple #[.float .f64 (fxM r), .int .i64 (fxE r)]) ∧ w' = w := by
  have hi : Hid (∀ w, Calls Tryd.prog 62 #[.float .f64 r] w fun e w' => e = .returned (.tuple #[.float .f64 (fxM r), .int .i64 (fxE r)]) ∧ w' = w) := fun w => by
    unfold fxM fxE
    by_cases h0 : r = 0
    · subst h0; exact frexp_zero
    · rw [if_neg h0, if_neg h0]; exact frexp_in h0 h
  generalize fxM r = m at *
  generalize fxE r = x at *
  go_enter Tryd.func37, Tryd.ntmps37
  go_wp2_with fail
  refine (hi.out _).mono ?_
  rintro e w1 ⟨rfl, rfl⟩
  go_wp2
  go_ret2
  exact ⟨rfl, rfl⟩
/-- the whole number of a Frexp's 53 digits -/
theorem run_mul53 {r : Nat} (h0 : r ≠ 0) (w : World) : (binOp BinOp.mul 28 (.float .f64 (fxM r)) (.float .f64 4845873199050653696)).run Tryd.prog w = .ok (.float .f64 (1074 * 4503599627370496 + fK r)) w := by
  obtain ⟨hk1, hk2⟩ := fK_bd h0
  have hm : FloatKind.f64.format.mul (fxM r) 4845873199050653696 = some (1074 * 4503599627370496 + fK r) := by
    unfold fxM
    rw [if_neg h0]
    exact mul53 hk1 hk2
  simp [binOp, Op.floatArith, hm]
end Go.Proofs.YtoeldbdcbfgmoaaDoor
