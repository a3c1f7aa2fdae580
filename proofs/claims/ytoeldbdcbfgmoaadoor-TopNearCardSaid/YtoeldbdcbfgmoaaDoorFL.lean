/- WALKS OF FLOATS, 5: Ldexp of a number of at most 53 bits; a whole number as a float. -/
import Derived.Test.YtoeldbdcbfgmoaaDoorFg
import Derived.Test.YtoeldbdcbfgmoaaDoorPL
import Derived.Test.YtoeldbdcbfgmoaaDoorNa
import Derived.Test.YtoeldbdcbfgmoaaDoorWy
import Derived.Test.YtoeldbdcbfgmoaaDoorWt
import Derived.Test.YtoeldbdcbfgmoaaDoorWm
import Derived.Test.YtoeldbdcbfgmoaaDoorZd
import Derived.Deep.Cut
import Derived.Deep.CutRange
import Derived.Deep.DeepCutAuto
namespace Go.Proofs.YtoeldbdcbfgmoaaDoor
set_option linter.unusedVariables false
set_option linter.unusedSimpArgs false
open Go.ChangeShapes Go.WideShapes Go.ChangeAt Go.RowKit Go.FloatP Go.NatP

/-- the float of a whole number of at most 53 bits -/
def flN (m : Nat) : Nat := Ieee.double.nearest false m 0
theorem flN_zero : flN 0 = 0 := by decide +kernel
theorem flN_dig {m q b : Nat} (h : Dig m q b) : flN m = (b + 1022) * 4503599627370496 + q := dig_float h
theorem flN_of (m : Nat) : floatOfInt FloatKind.f64 (m : Int) = flN m := by
  have h1 : floatOfInt FloatKind.f64 (m : Int) = Ieee.double.nearest (decide ((m : Int) < 0)) (m : Int).natAbs 0 := rfl
  rw [h1, decide_eq_false (by omega), Int.natAbs_natCast]
  rfl
set_option maxRecDepth 100000 in
theorem run_flN (m : Nat) (w : World) : (convert 50 28 (.int .u64 (m : Int))).run Tryd.prog w = .ok (.float .f64 (flN m)) w := by
  have h := run_convert_int_float (P := Tryd.prog) w 50 28 .u64 .f64 (m : Int) rfl rfl
  rw [flN_of] at h
  exact h
theorem and_i64 (a : Nat) (ha : a < 2147483648) : bits BinOp.and IntKind.i64 (a : Int) 2047 = ((a % 2048 : Nat) : Int) := by
  have h := bits_mask .i64 31 (by decide) (fun n h0 h1 => by rw [IntKind.wrap_i64]; omega) 11 (by decide) (a : Int) (by omega) (by omega)
  rw [show ((2 : Int) ^ 11 - 1) = 2047 by decide] at h
  rw [h]
  omega
theorem or_field {f x : Nat} (hf : f < 4503599627370496) (hx : x < 4096) : bits BinOp.or IntKind.u64 (f : Int) ((x * 4503599627370496 : Nat) : Int) = ((x * 4503599627370496 + f : Nat) : Int) := by
  have h := bits_or_u64_nat f (x * 4503599627370496) (by omega) (by omega)
  have e : f ||| (x * 4503599627370496) = x * 4503599627370496 + f := by
    have := Nat.shiftLeft_add_eq_or_of_lt (b := f) (i := 52) (by simpa using hf) x
    rw [Nat.or_comm]
    rw [Nat.shiftLeft_eq] at this
    exact this.symm
  rw [e] at h
  exact h
theorem ord_pos {r : Nat} (h0 : r ≠ 0) (h : r < 9218868437227405312) : (FloatKind.f64.format.order r 0 == some .lt) = false := by
  have h1 : fnan r = false := by unfold fnan; rw [fr_low (by omega)]; simp; omega
  have h2 := fcmp_num (x := r) (y := 0) h1 (by decide)
  unfold fcmp at h2
  rw [h2]
  have h3 : fk r = r := by unfold fk; rw [(fs_low (by omega)).1, fr_low (by omega)]; rfl
  have h4 : fk 0 = 0 := by decide
  unfold ic
  rw [h3, h4, if_neg (by omega), if_neg (by omega)]
  rfl
set_option maxRecDepth 100000 in
set_option maxHeartbeats 1000000 in
theorem ldexp_mid {w : World} {y c f k W : Nat} {x E : Int} (hy : y = c * 4503599627370496 + f) (hc : 1 ≤ c) (hc2 : c ≤ 2046) (hf : f < 4503599627370496) (hE : x + (c : Int) - 1023 = E) (h1 : -1022 ≤ E) (h2 : E ≤ 1023) (hk : E + 1023 = k) (hW : W = k * 4503599627370496 + f) :
    Calls Tryd.prog 57 #[.float .f64 y, .int .i64 x] w fun e w' => e = .returned (.float .f64 W) ∧ w' = w := by
  have hi := hid (fun w => isinf_fin (w := w) (x := y) (by omega) (by rw [fr_low (by omega)]; omega))
  have hnan : fnan y = false := by unfold fnan; rw [fr_low (by omega)]; simp; omega
  have hn := hid (fun w => isnan_any (w := w) y)
  rw [hnan] at hn
  have ho : (FloatKind.f64.format.order y 0 == some .eq) = false := ord_zero (by omega) (by omega)
  have hN := hid (fun w => norm_high (w := w) (r := y) (by omega) (by omega))
  have hbt := f64bits y
  have hfr := f64from W
  have hsh : (y : Int) / 4503599627370496 = (c : Int) := by omega
  have h3 := and_i64 c (by omega)
  have h4 := not_exp y (by omega)
  have h5 := or_field (f := f) (x := k) hf (by omega)
  rw [← hW, show ((k * 4503599627370496 : Nat) : Int) = (k : Int) * 4503599627370496 by omega] at h5
  rw [show y % 4503599627370496 = f by omega] at h4
  rw [show c % 2048 = c by omega] at h3
  have hm : ∀ w, (binOp BinOp.mul 28 (.float .f64 4607182418800017408) (.float .f64 W)).run Tryd.prog w = .ok (.float .f64 W) w := fun w => run_float_arith w .mul _ .f64 _ _ _ (show Ieee.double.mul 4607182418800017408 W = some W by rw [hW]; exact mul_one' (by omega) (by omega) hf)
  have hE2 : x + ((c : Int) - 1023) = E := by omega
  have d1 : decide (E < -1075) = false := decide_eq_false (by omega)
  have d2 : decide (1023 < E) = false := decide_eq_false (by omega)
  have d3 : decide (E < -1022) = false := decide_eq_false (by omega)
  clear hy hnan hW hf
  go_enter Tryd.func57, Tryd.ntmps57
  go_wp2_with fail
  refine (hi.out _).mono ?_
  rintro e w1 ⟨rfl, rfl⟩
  go_wp2_with fail
  refine (hn.out _).mono ?_
  rintro e w2 ⟨rfl, rfl⟩
  go_wp2_with fail
  refine (hN.out _).mono ?_
  rintro e w3 ⟨rfl, rfl⟩
  go_wp2
  go_ret
  exact ⟨rfl, rfl⟩
set_option maxRecDepth 100000 in
set_option maxHeartbeats 1000000 in
theorem ldexp_over {w : World} {y c f : Nat} {x E : Int} (hy : y = c * 4503599627370496 + f) (hc : 1 ≤ c) (hc2 : c ≤ 2046) (hf : f < 4503599627370496) (hE : x + (c : Int) - 1023 = E) (h1 : 1023 < E) (h2 : E ≤ 3000) :
    Calls Tryd.prog 57 #[.float .f64 y, .int .i64 x] w fun e w' => e = .returned (.float .f64 9218868437227405312) ∧ w' = w := by
  have hi := hid (fun w => isinf_fin (w := w) (x := y) (by omega) (by rw [fr_low (by omega)]; omega))
  have hnan : fnan y = false := by unfold fnan; rw [fr_low (by omega)]; simp; omega
  have hn := hid (fun w => isnan_any (w := w) y)
  rw [hnan] at hn
  have ho : (FloatKind.f64.format.order y 0 == some .eq) = false := ord_zero (by omega) (by omega)
  have hN := hid (fun w => norm_high (w := w) (r := y) (by omega) (by omega))
  have hbt := f64bits y
  have hfr : ∀ w, Sem.run Tryd.prog (callFunc 32 #[Value.int .u64 9218868437227405312]) w = .ok (.value (.float .f64 9218868437227405312)) w := f64from 9218868437227405312
  have hsh : (y : Int) / 4503599627370496 = (c : Int) := by omega
  have h3 := and_i64 c (by omega)
  have h4 := not_exp y (by omega)
  rw [show y % 4503599627370496 = f by omega] at h4
  rw [show c % 2048 = c by omega] at h3
  have hpos : (FloatKind.f64.format.order y 0 == some .lt) = false := ord_pos (by omega) (by omega)
  have hE2 : x + ((c : Int) - 1023) = E := by omega
  have d1 : decide (E < -1075) = false := decide_eq_false (by omega)
  have d2 : decide (1023 < E) = true := decide_eq_true (by omega)
  have d3 : decide (E < -1022) = false := decide_eq_false (by omega)
  clear hy hnan hf
  go_enter Tryd.func57, Tryd.ntmps57
  go_wp2_with fail
  refine (hi.out _).mono ?_
  rintro e w1 ⟨rfl, rfl⟩
  go_wp2_with fail
  refine (hn.out _).mono ?_
  rintro e w2 ⟨rfl, rfl⟩
  go_wp2_with fail
  refine (hN.out _).mono ?_
  rintro e w3 ⟨rfl, rfl⟩
  go_wp2
  go_ret
  exact ⟨rfl, rfl⟩
set_option maxRecDepth 100000 in
set_option maxHeartbeats 1000000 in
theorem ldexp_low {w : World} {y c f k W M j : Nat} {x E : Int} (hy : y = c * 4503599627370496 + f) (hc : 1 ≤ c) (hc2 : c ≤ 2046) (hf : f < 4503599627370496) (hE : x + (c : Int) - 1023 = E) (h1 : -1075 ≤ E) (h2 : E < -1022) (hk : E + 53 + 1023 = k) (hM : M ≠ 0) (hM2 : M < 4503599627370496) (hj : j + k = 106) (hMj : (4503599627370496 + f) * 2 ^ 52 = M * 2 ^ j) (hW : W = k * 4503599627370496 + f) :
    Calls Tryd.prog 57 #[.float .f64 y, .int .i64 x] w fun e w' => e = .returned (.float .f64 M) ∧ w' = w := by
  have hi := hid (fun w => isinf_fin (w := w) (x := y) (by omega) (by rw [fr_low (by omega)]; omega))
  have hnan : fnan y = false := by unfold fnan; rw [fr_low (by omega)]; simp; omega
  have hn := hid (fun w => isnan_any (w := w) y)
  rw [hnan] at hn
  have ho : (FloatKind.f64.format.order y 0 == some .eq) = false := ord_zero (by omega) (by omega)
  have hN := hid (fun w => norm_high (w := w) (r := y) (by omega) (by omega))
  have hbt := f64bits y
  have hfr := f64from W
  have hsh : (y : Int) / 4503599627370496 = (c : Int) := by omega
  have h3 := and_i64 c (by omega)
  have h4 := not_exp y (by omega)
  have h5 := or_field (f := f) (x := k) hf (by omega)
  rw [← hW, show ((k * 4503599627370496 : Nat) : Int) = (k : Int) * 4503599627370496 by omega] at h5
  rw [show y % 4503599627370496 = f by omega] at h4
  rw [show c % 2048 = c by omega] at h3
  have hm : ∀ w, (binOp BinOp.mul 28 (.float .f64 4368491638549381120) (.float .f64 W)).run Tryd.prog w = .ok (.float .f64 M) w := fun w => run_float_arith w .mul _ .f64 _ _ _ (show Ieee.double.mul 4368491638549381120 W = some M by rw [hW]; exact mul_low' (by omega) (by omega) hf hM hM2 hj hMj)
  have hE2 : x + ((c : Int) - 1023) = E := by omega
  have d1 : decide (E < -1075) = false := decide_eq_false (by omega)
  have d2 : decide (1023 < E) = false := decide_eq_false (by omega)
  have d3 : decide (E < -1022) = true := decide_eq_true (by omega)
  clear hy hnan hW hf hMj
  go_enter Tryd.func57, Tryd.ntmps57
  go_wp2_with fail
  refine (hi.out _).mono ?_
  rintro e w1 ⟨rfl, rfl⟩
  go_wp2_with fail
  refine (hn.out _).mono ?_
  rintro e w2 ⟨rfl, rfl⟩
  go_wp2_with fail
  refine (hN.out _).mono ?_
  rintro e w3 ⟨rfl, rfl⟩
  go_wp2
  go_ret
  exact ⟨rfl, rfl⟩
set_option maxRecDepth 100000 in
theorem ldexp_zero {w : World} {x : Int} : Calls Tryd.prog 57 #[.float .f64 0, .int .i64 x] w fun e w' => e = .returned (.float .f64 0) ∧ w' = w := by
  have ho : (FloatKind.f64.format.order 0 0 == some .eq) = true := by decide +kernel
  go_enter Tryd.func57, Tryd.ntmps57
  go_wp2
  go_ret
  exact ⟨rfl, rfl⟩
theorem ldexp_in {w : World} {m : Nat} {e : Int} (hm : m ≤ 9007199254740992) (he : -1074 ≤ e) (he2 : e ≤ 2000) : Calls Tryd.prog 57 #[.float .f64 (flN m), .int .i64 e] w fun d w' => d = .returned (.float .f64 (ldR m e)) ∧ w' = w := by
  unfold ldR
  by_cases h0 : m = 0
  · subst h0; rw [flN_zero, if_pos rfl]; exact ldexp_zero
  rw [if_neg h0]
  obtain ⟨q, hq⟩ := dig_of h0 hm
  have hq1 := hq.lo
  have hq2 := hq.hi
  have hb := hq.le
  obtain ⟨f, rfl⟩ : ∃ f, q = 4503599627370496 + f := ⟨q - 4503599627370496, by omega⟩
  have hy : flN m = (m.log2 + 1023) * 4503599627370496 + f := by rw [flN_dig hq]; omega
  by_cases h1 : 1023 < e + (m.log2 : Int)
  · rw [if_pos h1]
    exact ldexp_over (E := e + (m.log2 : Int)) hy (by omega) (by omega) (by omega) (by omega) h1 (by omega)
  rw [if_neg h1]
  by_cases h2 : e + (m.log2 : Int) < -1022
  · rw [if_pos h2]
    have h3 : m * 2 ^ (e + 1074).toNat < 4503599627370496 := by
      have ha := Nat.mul_lt_mul_of_pos_right (Nat.lt_log2_self (n := m)) (Nat.pow_pos (n := (e + 1074).toNat) (show 0 < 2 by decide))
      rw [← Nat.pow_add] at ha
      exact Nat.lt_of_lt_of_le ha (Nat.pow_le_pow_right (n := 2) (by decide) (show m.log2 + 1 + (e + 1074).toNat ≤ 52 by omega))
    obtain ⟨k, hk⟩ : ∃ k : Nat, e + (m.log2 : Int) + 53 + 1023 = k := ⟨(e + (m.log2 : Int) + 53 + 1023).toNat, by omega⟩
    refine ldexp_low (E := e + (m.log2 : Int)) (k := k) (j := 106 - k) hy (by omega) (by omega) (by omega) (by omega) (by omega) h2 hk (Nat.mul_ne_zero h0 (Nat.ne_of_gt (Nat.pow_pos (by decide)))) h3 (by omega) ?_ rfl
    have he' := hq.eq
    have key : (4503599627370496 + f) * 2 ^ 52 * 2 ^ m.log2 = m * 2 ^ (e + 1074).toNat * 2 ^ (106 - k) * 2 ^ m.log2 := by
      rw [Nat.mul_right_comm, he', Nat.mul_assoc, Nat.mul_assoc, Nat.mul_assoc, ← Nat.pow_add, ← Nat.pow_add, ← Nat.pow_add]
      congr 2
      omega
    exact Nat.eq_of_mul_eq_mul_right (Nat.pow_pos (by decide)) key
  · rw [if_neg h2, dig_div hq]
    obtain ⟨k, hk⟩ : ∃ k : Nat, e + (m.log2 : Int) + 1023 = k := ⟨(e + (m.log2 : Int) + 1023).toNat, by omega⟩
    have hW : (e + (m.log2 : Int) + 1022).toNat * 4503599627370496 + (4503599627370496 + f) = k * 4503599627370496 + f := by
      have : (e + (m.log2 : Int) + 1022).toNat = k - 1 := by omega
      rw [this]; omega
    exact ldexp_mid (E := e + (m.log2 : Int)) (k := k) hy (by omega) (by omega) (by omega) (by omega) (by omega) (by omega) hk hW
set_option maxRecDepth 100000 in
theorem Ldexp_any {w : World} {m : Nat} {e : Int} (hm : m ≤ 9007199254740992) (he : -1074 ≤ e) (he2 : e ≤ 2000) : Calls Tryd.prog 24 #[.float .f64 (flN m), .int .i64 e] w fun d w' => d = .returned (.float .f64 (ldR m e)) ∧ w' = w := by
  have HI := hid (fun w => ldexp_in (w := w) hm he he2)
  clear hm he he2
  generalize ldR m e = r at *
  generalize flN m = y at *
  go_enter Tryd.func24, Tryd.ntmps24
  go_wp2_with fail
  refine (HI.out _).mono ?_
  rintro e w1 ⟨rfl, rfl⟩
  go_wp2
  go_ret
  exact ⟨rfl, rfl⟩
theorem xor_low {x : Nat} (h : x < 9223372036854775808) : x ^^^ 2 ^ 63 = 9223372036854775808 + x := by
  have h1 := xor_sign (x := 9223372036854775808 + x) (by omega) (by omega)
  have h2 : 9223372036854775808 + x - 9223372036854775808 = x := by omega
  rw [h2] at h1
  have h3 := congrArg (· ^^^ 2 ^ 63) h1
  simp only [Nat.xor_assoc, Nat.xor_self, Nat.xor_zero] at h3
  exact h3.symm
theorem Ldexp_b {w : World} {m : Nat} {e : Int} (hm : m ≤ 9007199254740992) (he : -1074 ≤ e) (he2 : e ≤ 2000) : Calls Tryd.prog 24 #[.float .f64 (flN m), .int .i64 e] w fun d w' => d = .returned (.float .f64 (ldR m e)) ∧ Below w.heap.size w w' :=
  (Ldexp_any hm he he2).mono fun d w' ⟨h1, h2⟩ => ⟨h1, h2 ▸ Below.refl _ _⟩
theorem negp {x : Nat} (h : x < 9223372036854775808) (w : World) : Sem.run Tryd.prog (Op.unary .neg (.float .f64 x)) w = .ok (.float .f64 (9223372036854775808 + x)) w := by
  show Result.ok (Value.float .f64 (Op.negFloat .f64 x)) w = _
  rw [show Op.negFloat .f64 x = x ^^^ 2 ^ 63 from rfl, xor_low h]
theorem ord_ne {r : Nat} (h0 : r ≠ 0) (h : r ≤ 9218868437227405312) : FloatKind.f64.format.order r 0 = some .gt := by
  have h1 : fnan r = false := by unfold fnan; rw [fr_low (by omega)]; simp; omega
  have h2 := fcmp_num (x := r) (y := 0) h1 (by decide)
  unfold fcmp at h2
  rw [h2]
  have h3 : fk r = r := by unfold fk; rw [(fs_low (by omega)).1, fr_low (by omega)]; rfl
  have h4 : fk 0 = 0 := by decide
  unfold ic
  rw [h3, h4, if_neg (by omega), if_neg (by omega)]

end Go.Proofs.YtoeldbdcbfgmoaaDoor
/- WALKS OF FLOATS: near.cut of any fraction. -/
namespace Go.Proofs.YtoeldbdcbfgmoaaDoor
set_option linter.unusedVariables false
set_option linter.unusedSimpArgs false
open Go.ChangeShapes Go.WideShapes Go.ChangeAt Go.RowKit Go.NatP Go.FloatP

theorem shR {W : World} {b : Option Addr} {m d v : Nat} {l : List Nat} (h : Rd W b m d l) (hm : m ≤ 100000) (hv : val l = v) (D : Nat) (hD : D ≤ 1200) : Calls Tryd.prog 39 #[.slice b m d, .int .i64 (D : Int)] W (RetE W (lm (v * 2 ^ D)) 0) := by
  have h2 := shift_up h (by omega) D (by omega)
  rwa [hv] at h2
theorem divg {w : World} {a b : Option Addr} {n c m d x v : Nat} {lx lb : List Nat} (ha : Rd w a n c lx) (hlx : val lx = x) (hb : Rd w b m d lb) (hlv : val lb = v) (hv : v ≠ 0) (hn : n ≤ 4194304) : Calls Tryd.prog 53 #[.slice a n c, .slice b m d] w (RetD w (lm (x / v)) (lm (x % v)) 0) := by
  have h := divmod_any ha hb hn
  rwa [hlx, hlv, dvR_pos hv, dvE_pos hv] at h
theorem nb_dv (n : Nat) : nb (dv n) ≤ nb n + 1 := by
  unfold dv
  split
  · exact Nat.le_trans (show nb 1 ≤ 1 by decide) (by omega)
  · omega
/-- what near.cut answers -/
def RetNC (B : Nat) (L M : Int) (u v : Nat) (w : World) (e : Ending) (w' : World) : Prop :=
  ∃ (m : Nat) (E : Int) (more : Bool) (half : Int) (far : Bool), e = .returned (.tuple #[.int .u64 (m : Int), .int .i64 E, .bool more, .int .i64 half, .bool far]) ∧ CutOK B L M u v m E more half far ∧ Below w.heap.size w w'

set_option maxRecDepth 100000 in
set_option maxHeartbeats 4000000 in
theorem deng {w : World} {s : Bool} {a b : Option Addr} {n c m d : Nat} {l : List Nat} (hb : Rd w b m d l) (hm : m ≤ 1000) (h0 : val l ≠ 0) :
    Calls Tryd.prog 51 #[.agg #[.bool s, .slice a n c, .slice b m d]] w (fun e w' => ∃ b' m' d' l', e = .returned (.slice b' m' d') ∧ Rd w' b' m' d' l' ∧ val l' = dv (val l) ∧ m' ≤ 1000 ∧ Below w.heap.size w w') := by
  obtain ⟨k, hk⟩ : ∃ k : Int, (nb (val l) : Int) = k := ⟨_, rfl⟩
  have hk0 : (k == 0) = false := by have := nb_pos h0; simp; omega
  have hkh := hid hk
  have h0h := hid h0
  have hmh := hid hm
  clear hk h0 hm
  have hent := ent1 w #[Value.bool s, Value.slice a n c, Value.slice b m d] 27
  go_enter Tryd.func51, Tryd.ntmps51
  go_wp2_with fail
  generalize (w.alloc (.cells #[Value.bool s, Value.slice a n c, Value.slice b m d] 27)) = W0 at hent ⊢
  obtain ⟨X_0, hbel_0, hsz_0⟩ := hent
  have cX_0_0 : _ = some (Value.bool s) := X_0.cell 0
  have cX_0_1 : _ = some (Value.slice a n c) := X_0.cell 1
  have cX_0_2 : _ = some (Value.slice b m d) := X_0.cell 2
  have hb_0 := hb.below hbel_0
  clear hb
  go_wp2_with fail
  refine (bits_b hb_0 (by have := hmh.out; omega) hkh.out).mono ?_
  rintro e w1 ⟨rfl, hB⟩
  have hB_1 : Below W0.heap.size W0 w1 := (bl.next hB)
  have X_1 := X_0.next hB_1
  have cX_1_0 : _ = some (Value.bool s) := X_1.cell 0
  have cX_1_1 : _ = some (Value.slice a n c) := X_1.cell 1
  have cX_1_2 : _ = some (Value.slice b m d) := X_1.cell 2
  have hb_1 := hb_0.below hB_1
  have hbel_1 := hbel_0.next hB_1
  have hsz_1 := hB_1.size
  clear X_0 cX_0_0 cX_0_1 cX_0_2 hb_0 hbel_0 hB_1
  try clear hB
  go_wp2
  go_ret
  exact ⟨_, _, _, _, rfl, hb_1, (by unfold dv; rw [if_neg h0h.out]), hmh.out, hbel_1⟩

set_option maxRecDepth 100000 in
set_option maxHeartbeats 4000000 in
theorem denz {w : World} {s : Bool} {a b : Option Addr} {n c m d : Nat} {l : List Nat} (hb : Rd w b m d l) (hm : m ≤ 1000) (h0 : val l = 0) :
    Calls Tryd.prog 51 #[.agg #[.bool s, .slice a n c, .slice b m d]] w (fun e w' => ∃ b' m' d' l', e = .returned (.slice b' m' d') ∧ Rd w' b' m' d' l' ∧ val l' = dv (val l) ∧ m' ≤ 1000 ∧ Below w.heap.size w w') := by
  obtain ⟨k, hk⟩ : ∃ k : Int, (nb (val l) : Int) = k := ⟨_, rfl⟩
  have hk0 : (k == 0) = true := by rw [h0, nb_zero] at hk; simp; omega
  have hkh := hid hk
  have h0h := hid h0
  have hmh := hid hm
  clear hk h0 hm
  have hent := ent1 w #[Value.bool s, Value.slice a n c, Value.slice b m d] 27
  go_enter Tryd.func51, Tryd.ntmps51
  go_wp2_with fail
  generalize (w.alloc (.cells #[Value.bool s, Value.slice a n c, Value.slice b m d] 27)) = W0 at hent ⊢
  obtain ⟨X_0, hbel_0, hsz_0⟩ := hent
  have cX_0_0 : _ = some (Value.bool s) := X_0.cell 0
  have cX_0_1 : _ = some (Value.slice a n c) := X_0.cell 1
  have cX_0_2 : _ = some (Value.slice b m d) := X_0.cell 2
  have hb_0 := hb.below hbel_0
  clear hb
  go_wp2_with fail
  refine (bits_b hb_0 (by have := hmh.out; omega) hkh.out).mono ?_
  rintro e w1 ⟨rfl, hB⟩
  have hB_1 : Below W0.heap.size W0 w1 := (bl.next hB)
  have X_1 := X_0.next hB_1
  have cX_1_0 : _ = some (Value.bool s) := X_1.cell 0
  have cX_1_1 : _ = some (Value.slice a n c) := X_1.cell 1
  have cX_1_2 : _ = some (Value.slice b m d) := X_1.cell 2
  have hb_1 := hb_0.below hB_1
  have hbel_1 := hbel_0.next hB_1
  have hsz_1 := hB_1.size
  clear X_0 cX_0_0 cX_0_1 cX_0_2 hb_0 hbel_0 hB_1
  try clear hB
  go_wp2_with fail
  refine (of_any 1 (by decide) (by decide)).mono ?_
  rintro e w2 ⟨oa, on, oc, rfl, hO, hB⟩
  have hB_2 : Below w1.heap.size w1 w2 := (bl.next hB)
  have X_2 := X_1.next hB_2
  have cX_2_0 : _ = some (Value.bool s) := X_2.cell 0
  have cX_2_1 : _ = some (Value.slice a n c) := X_2.cell 1
  have cX_2_2 : _ = some (Value.slice b m d) := X_2.cell 2
  have hb_2 := hb_1.below hB_2
  have hbel_2 := hbel_1.next hB_2
  have hsz_2 := hB_2.size
  clear X_1 cX_1_0 cX_1_1 cX_1_2 hb_1 hbel_1 hB_2
  have O_2 := hO
  have ltO := hO.ltB
  clear hO
  try clear hB
  go_wp2
  go_ret
  exact ⟨_, _, _, _, rfl, O_2.rd, (val_lm _).trans (by unfold dv; rw [if_pos h0h.out]; rfl), (by have h1 := O_2.len; have h2 : (lm (1 : Int).toNat).length = 1 := (by decide +kernel); omega), hbel_2⟩

theorem den_any {w : World} {s : Bool} {a b : Option Addr} {n c m d : Nat} {l : List Nat} (hb : Rd w b m d l) (hm : m ≤ 1000) : Calls Tryd.prog 51 #[.agg #[.bool s, .slice a n c, .slice b m d]] w (fun e w' => ∃ b' m' d' l', e = .returned (.slice b' m' d') ∧ Rd w' b' m' d' l' ∧ val l' = dv (val l) ∧ m' ≤ 1000 ∧ Below w.heap.size w w') := by
  by_cases h0 : val l = 0
  · exact denz hb hm h0
  · exact deng hb hm h0

set_option maxRecDepth 100000 in
set_option maxHeartbeats 8000000 in
theorem cutz_L {w : World} {s : Bool} {a b : Option Addr} {n c m d u v : Nat} {la lb : List Nat} (ha : Rd w a n c la) (hb : Rd w b m d lb) (hn : n ≤ 1000) (hm : m ≤ 1000) (hlu : val la = u) (hlv : dv (val lb) = v) (hv : v ≠ 0) (hu : u = 0) :
    Calls Tryd.prog 23 #[.agg #[.int .i64 53, .int .i64 (-1074), .int .i64 971], .agg #[.bool s, .slice a n c, .slice b m d]] w (RetNC 53 (-1074) 971 u v w) := by
  have hub : nb u ≤ 32000 := by have h1 := nb_limP ha.lim; rw [ha.len, hlu] at h1; omega
  have hvb : nb v ≤ 32001 := by have h1 := nb_limP hb.lim; have h2 := nb_dv (val lb); rw [hb.len] at h1; rw [hlv] at h2; omega
  have hub' := hid hub
  have hvb' := hid hvb
  have huh := hid hu
  have hvh := hid hv
  have hlvh := hid hlv
  have hNN := hid (fun W (a : Option Addr) (n c : Nat) (h : Rd W a n c la) (hn : n ≤ 1000) => norm_any h (by omega))
  simp only [hlu] at hNN
  have hnl : Hid ((lm u).length ≤ 1000) := (by have h1 := length_lm_val ha.lim; rw [hlu, ha.len] at h1; exact Nat.le_trans h1 hn)
  have hnh := hid hn
  have hmh := hid hm
  clear hlu hlv hu hv hn hm hub hvb
  have hent := ent2 w #[Value.int .i64 53, Value.int .i64 (-1074), Value.int .i64 971] #[Value.bool s, Value.slice a n c, Value.slice b m d] 53 27
  go_enter Tryd.func23, Tryd.ntmps23
  go_wp2_with fail
  generalize ((w.alloc (.cells #[Value.int .i64 53, Value.int .i64 (-1074), Value.int .i64 971] 53)).alloc (.cells #[Value.bool s, Value.slice a n c, Value.slice b m d] 27)) = W0 at hent ⊢
  obtain ⟨K_0, R_0, hbel_0, hsz_0⟩ := hent
  have cK_0_0 : _ = some (Value.int .i64 53) := K_0.cell 0
  have cK_0_1 : _ = some (Value.int .i64 (-1074)) := K_0.cell 1
  have cK_0_2 : _ = some (Value.int .i64 971) := K_0.cell 2
  have cR_0_0 : _ = some (Value.bool s) := R_0.cell 0
  have cR_0_1 : _ = some (Value.slice a n c) := R_0.cell 1
  have cR_0_2 : _ = some (Value.slice b m d) := R_0.cell 2
  have ha_0 := ha.below hbel_0
  clear ha
  have hb_0 := hb.below hbel_0
  clear hb
  go_wp2_with fail
  go_region_held3 (fun w' => w'.cell? ⟨w.heap.size + 1, 0, none⟩ = some (Value.bool s) ∧ w'.cell? ⟨w.heap.size + 1, 1, none⟩ = some (Value.slice a n c) ∧ w'.cell? ⟨w.heap.size + 1, 2, none⟩ = some (Value.slice b m d))
    (first | exact ⟨cR_0_0, cR_0_1, cR_0_2⟩ | exact ⟨cR_1_0, cR_1_1, cR_1_2⟩ | exact ⟨cR_2_0, cR_2_1, cR_2_2⟩ | go_keep)
    (first
      | (go_at_call 50; ((with_reducible refine (hNN.out _ _ _ _ (ha_0.below bl) hnh.out).mono ?_); (rintro e w1 ⟨na, nn, nc, rfl, hO, hB⟩; have hB_1 : Below W0.heap.size W0 w1 := (bl.next hB); have K_1 := K_0.next hB_1; have cK_1_0 : _ = some (Value.int .i64 53) := K_1.cell 0; have cK_1_1 : _ = some (Value.int .i64 (-1074)) := K_1.cell 1; have cK_1_2 : _ = some (Value.int .i64 971) := K_1.cell 2; have R_1 := R_0.next hB_1; have cR_1_0 : _ = some (Value.bool s) := R_1.cell 0; have cR_1_1 : _ = some (Value.slice a n c) := R_1.cell 1; have cR_1_2 : _ = some (Value.slice b m d) := R_1.cell 2; have ha_1 := ha_0.below hB_1; have hb_1 := hb_0.below hB_1; have hbel_1 := hbel_0.next hB_1; have hsz_1 := hB_1.size; clear K_0 cK_0_0 cK_0_1 cK_0_2 R_0 cR_0_0 cR_0_1 cR_0_2 ha_0 hb_0 hbel_0 hB_1; have hnn := hid hO.len; have N_1 := hO; have ltN := hO.ltB; clear hO; try clear hB)))
      | (go_at_call 51; ((with_reducible refine (den_any (hb_1.below bl) hmh.out).mono ?_); (rintro e w2 ⟨db, dm, dd, dl, rfl, hR, hdl, hdm, hB⟩; have hB_2 : Below w1.heap.size w1 w2 := (bl.next hB); have K_2 := K_1.next hB_2; have cK_2_0 : _ = some (Value.int .i64 53) := K_2.cell 0; have cK_2_1 : _ = some (Value.int .i64 (-1074)) := K_2.cell 1; have cK_2_2 : _ = some (Value.int .i64 971) := K_2.cell 2; have R_2 := R_1.next hB_2; have cR_2_0 : _ = some (Value.bool s) := R_2.cell 0; have cR_2_1 : _ = some (Value.slice a n c) := R_2.cell 1; have cR_2_2 : _ = some (Value.slice b m d) := R_2.cell 2; have ha_2 := ha_1.below hB_2; have hb_2 := hb_1.below hB_2; have N_2 := N_1.below hB_2; have hbel_2 := hbel_1.next hB_2; have hsz_2 := hB_2.size; clear K_1 cK_1_0 cK_1_1 cK_1_2 R_1 cR_1_0 cR_1_1 cR_1_2 ha_1 hb_1 N_1 hbel_1 hB_2; have hdlh := hid (hdl.trans hlvh.out); have hdmh := hid hdm; have hd_2 := hR; clear hR hdl hdm; try clear hB))))
  clear ha_2
  clear hb_2
  have hn1 : nn = 0 := by have h1 := hnn.out; rw [huh.out] at h1; exact h1.symm
  subst hn1
  go_wp2_with fail
  go_region_held3 (fun w' => w'.cell? ⟨w.heap.size, 0, none⟩ = some (Value.int .i64 53) ∧ w'.cell? ⟨w.heap.size, 1, none⟩ = some (Value.int .i64 (-1074)) ∧ w'.cell? ⟨w.heap.size, 2, none⟩ = some (Value.int .i64 971))
    (first | exact ⟨cK_2_0, cK_2_1, cK_2_2⟩ | go_keep)
    (first
      | fail)
  go_wp2
  refine bodyPost_ret (v := .tuple #[.int .u64 0, .int .i64 (-1074), .bool false, .int .i64 (-1), .bool false]) (by simp [results, Tryd.results23, go_sem]) rfl ?_
  exact ⟨0, _, _, _, _, rfl, by rw [huh.out]; exact cut_zero hvh.out (by decide) (by decide) (by decide), hbel_2.drew⟩

set_option maxRecDepth 100000 in
set_option maxHeartbeats 8000000 in
theorem cutfar_L {w : World} {s : Bool} {a b : Option Addr} {n c m d u v : Nat} {la lb : List Nat} (ha : Rd w a n c la) (hb : Rd w b m d lb) (hn : n ≤ 1000) (hm : m ≤ 1000) (hlu : val la = u) (hlv : dv (val lb) = v) (hv : v ≠ 0) (hu : u ≠ 0) (hs : (1024 : Int) < (nb u : Int) - nb v) :
    Calls Tryd.prog 23 #[.agg #[.int .i64 53, .int .i64 (-1074), .int .i64 971], .agg #[.bool s, .slice a n c, .slice b m d]] w (RetNC 53 (-1074) 971 u v w) := by
  have hub : nb u ≤ 32000 := by have h1 := nb_limP ha.lim; rw [ha.len, hlu] at h1; omega
  have hvb : nb v ≤ 32001 := by have h1 := nb_limP hb.lim; have h2 := nb_dv (val lb); rw [hb.len] at h1; rw [hlv] at h2; omega
  have hub' := hid hub
  have hvb' := hid hvb
  have hup := nb_pos hu
  have hvp := nb_pos hv
  obtain ⟨P, hP⟩ : ∃ P : Int, (nb u : Int) = P := ⟨_, rfl⟩
  obtain ⟨Q, hQ⟩ : ∃ Q : Int, (nb v : Int) = Q := ⟨_, rfl⟩
  obtain ⟨S, hS⟩ : ∃ S : Int, P - Q = S := ⟨_, rfl⟩
  have hsh := hid hs
  rw [hP, hQ, hS] at hs
  have p0 : 1 ≤ P := by omega
  have p1 : P ≤ 40000 := by omega
  have q0 : 1 ≤ Q := by omega
  have q1 : Q ≤ 40000 := by omega
  have hPh := hid hP
  have hQh := hid hQ
  have d1 : decide (1024 < S) = true := decide_eq_true (by omega)
  have hul : (lm u).length ≠ 0 := fun h => hu (lm_eq_nil.1 (List.length_eq_zero_iff.1 h))
  have hulh := hid hul
  clear hul
  have huh := hid hu
  have hvh := hid hv
  have hlvh := hid hlv
  have hNN := hid (fun W (a : Option Addr) (n c : Nat) (h : Rd W a n c la) (hn : n ≤ 1000) => norm_any h (by omega))
  simp only [hlu] at hNN
  have hnl : Hid ((lm u).length ≤ 1000) := (by have h1 := length_lm_val ha.lim; rw [hlu, ha.len] at h1; exact Nat.le_trans h1 hn)
  have hnh := hid hn
  have hmh := hid hm
  clear hlu hlv hu hv hn hm hub hvb hP hQ hup hvp hs
  have hent := ent2 w #[Value.int .i64 53, Value.int .i64 (-1074), Value.int .i64 971] #[Value.bool s, Value.slice a n c, Value.slice b m d] 53 27
  go_enter Tryd.func23, Tryd.ntmps23
  go_wp2_with fail
  generalize ((w.alloc (.cells #[Value.int .i64 53, Value.int .i64 (-1074), Value.int .i64 971] 53)).alloc (.cells #[Value.bool s, Value.slice a n c, Value.slice b m d] 27)) = W0 at hent ⊢
  obtain ⟨K_0, R_0, hbel_0, hsz_0⟩ := hent
  have cK_0_0 : _ = some (Value.int .i64 53) := K_0.cell 0
  have cK_0_1 : _ = some (Value.int .i64 (-1074)) := K_0.cell 1
  have cK_0_2 : _ = some (Value.int .i64 971) := K_0.cell 2
  have cR_0_0 : _ = some (Value.bool s) := R_0.cell 0
  have cR_0_1 : _ = some (Value.slice a n c) := R_0.cell 1
  have cR_0_2 : _ = some (Value.slice b m d) := R_0.cell 2
  have ha_0 := ha.below hbel_0
  clear ha
  have hb_0 := hb.below hbel_0
  clear hb
  go_wp2_with fail
  go_region_held3 (fun w' => w'.cell? ⟨w.heap.size + 1, 0, none⟩ = some (Value.bool s) ∧ w'.cell? ⟨w.heap.size + 1, 1, none⟩ = some (Value.slice a n c) ∧ w'.cell? ⟨w.heap.size + 1, 2, none⟩ = some (Value.slice b m d))
    (first | exact ⟨cR_0_0, cR_0_1, cR_0_2⟩ | exact ⟨cR_1_0, cR_1_1, cR_1_2⟩ | exact ⟨cR_2_0, cR_2_1, cR_2_2⟩ | go_keep)
    (first
      | (go_at_call 50; ((with_reducible refine (hNN.out _ _ _ _ (ha_0.below bl) hnh.out).mono ?_); (rintro e w1 ⟨na, nn, nc, rfl, hO, hB⟩; have hB_1 : Below W0.heap.size W0 w1 := (bl.next hB); have K_1 := K_0.next hB_1; have cK_1_0 : _ = some (Value.int .i64 53) := K_1.cell 0; have cK_1_1 : _ = some (Value.int .i64 (-1074)) := K_1.cell 1; have cK_1_2 : _ = some (Value.int .i64 971) := K_1.cell 2; have R_1 := R_0.next hB_1; have cR_1_0 : _ = some (Value.bool s) := R_1.cell 0; have cR_1_1 : _ = some (Value.slice a n c) := R_1.cell 1; have cR_1_2 : _ = some (Value.slice b m d) := R_1.cell 2; have ha_1 := ha_0.below hB_1; have hb_1 := hb_0.below hB_1; have hbel_1 := hbel_0.next hB_1; have hsz_1 := hB_1.size; clear K_0 cK_0_0 cK_0_1 cK_0_2 R_0 cR_0_0 cR_0_1 cR_0_2 ha_0 hb_0 hbel_0 hB_1; have hnn := hid hO.len; have N_1 := hO; have ltN := hO.ltB; clear hO; try clear hB)))
      | (go_at_call 51; ((with_reducible refine (den_any (hb_1.below bl) hmh.out).mono ?_); (rintro e w2 ⟨db, dm, dd, dl, rfl, hR, hdl, hdm, hB⟩; have hB_2 : Below w1.heap.size w1 w2 := (bl.next hB); have K_2 := K_1.next hB_2; have cK_2_0 : _ = some (Value.int .i64 53) := K_2.cell 0; have cK_2_1 : _ = some (Value.int .i64 (-1074)) := K_2.cell 1; have cK_2_2 : _ = some (Value.int .i64 971) := K_2.cell 2; have R_2 := R_1.next hB_2; have cR_2_0 : _ = some (Value.bool s) := R_2.cell 0; have cR_2_1 : _ = some (Value.slice a n c) := R_2.cell 1; have cR_2_2 : _ = some (Value.slice b m d) := R_2.cell 2; have ha_2 := ha_1.below hB_2; have hb_2 := hb_1.below hB_2; have N_2 := N_1.below hB_2; have hbel_2 := hbel_1.next hB_2; have hsz_2 := hB_2.size; clear K_1 cK_1_0 cK_1_1 cK_1_2 R_1 cR_1_0 cR_1_1 cR_1_2 ha_1 hb_1 N_1 hbel_1 hB_2; have hdlh := hid (hdl.trans hlvh.out); have hdmh := hid hdm; have hd_2 := hR; clear hR hdl hdm; try clear hB))))
  clear ha_2
  clear hb_2
  have hn1 : nn ≠ 0 := fun h => hulh.out (hnn.out.trans h)
  have hn2 : nn ≤ 1000 := by have := hnn.out; have := hnl.out; omega
  have hz : ((nn : Int) == 0) = false := by simp; omega
  go_wp2_with fail
  refine (bits_b (k := P) N_2.rd (by omega) (by rw [val_lm]; exact hPh.out)).mono ?_
  rintro e w3 ⟨rfl, hB⟩
  have hB_3 : Below w2.heap.size w2 w3 := (bl.next hB)
  have K_3 := K_2.next hB_3
  have cK_3_0 : _ = some (Value.int .i64 53) := K_3.cell 0
  have cK_3_1 : _ = some (Value.int .i64 (-1074)) := K_3.cell 1
  have cK_3_2 : _ = some (Value.int .i64 971) := K_3.cell 2
  have R_3 := R_2.next hB_3
  have cR_3_0 : _ = some (Value.bool s) := R_3.cell 0
  have cR_3_1 : _ = some (Value.slice a n c) := R_3.cell 1
  have cR_3_2 : _ = some (Value.slice b m d) := R_3.cell 2
  have N_3 := N_2.below hB_3
  have hd_3 := hd_2.below hB_3
  have hbel_3 := hbel_2.next hB_3
  have hsz_3 := hB_3.size
  clear K_2 cK_2_0 cK_2_1 cK_2_2 R_2 cR_2_0 cR_2_1 cR_2_2 N_2 hd_2 hbel_2 hB_3
  try clear hB
  go_wp2_with fail
  refine (bits_b (k := Q) hd_3 (by have := hdmh.out; omega) (by rw [hdlh.out]; exact hQh.out)).mono ?_
  rintro e w4 ⟨rfl, hB⟩
  have hB_4 : Below w3.heap.size w3 w4 := (bl.next hB)
  have K_4 := K_3.next hB_4
  have cK_4_0 : _ = some (Value.int .i64 53) := K_4.cell 0
  have cK_4_1 : _ = some (Value.int .i64 (-1074)) := K_4.cell 1
  have cK_4_2 : _ = some (Value.int .i64 971) := K_4.cell 2
  have R_4 := R_3.next hB_4
  have cR_4_0 : _ = some (Value.bool s) := R_4.cell 0
  have cR_4_1 : _ = some (Value.slice a n c) := R_4.cell 1
  have cR_4_2 : _ = some (Value.slice b m d) := R_4.cell 2
  have N_4 := N_3.below hB_4
  have hd_4 := hd_3.below hB_4
  have hbel_4 := hbel_3.next hB_4
  have hsz_4 := hB_4.size
  clear K_3 cK_3_0 cK_3_1 cK_3_2 R_3 cR_3_0 cR_3_1 cR_3_2 N_3 hd_3 hbel_3 hB_4
  try clear hB
  go_wp2
  refine bodyPost_ret (v := .tuple #[.int .u64 0, .int .i64 0, .bool false, .int .i64 0, .bool true]) (by simp [results, Tryd.results23, go_sem]) rfl ?_
  exact ⟨0, _, _, _, _, rfl, cut_far huh.out hvh.out (by decide) (by decide) hsh.out, hbel_4⟩

set_option maxRecDepth 100000 in
set_option maxHeartbeats 8000000 in
theorem cuttiny_L {w : World} {s : Bool} {a b : Option Addr} {n c m d u v : Nat} {la lb : List Nat} (ha : Rd w a n c la) (hb : Rd w b m d lb) (hn : n ≤ 1000) (hm : m ≤ 1000) (hlu : val la = u) (hlv : dv (val lb) = v) (hv : v ≠ 0) (hu : u ≠ 0) (hs1 : (nb u : Int) - nb v ≤ 1024) (hs : (nb u : Int) - nb v < -1076) :
    Calls Tryd.prog 23 #[.agg #[.int .i64 53, .int .i64 (-1074), .int .i64 971], .agg #[.bool s, .slice a n c, .slice b m d]] w (RetNC 53 (-1074) 971 u v w) := by
  have hub : nb u ≤ 32000 := by have h1 := nb_limP ha.lim; rw [ha.len, hlu] at h1; omega
  have hvb : nb v ≤ 32001 := by have h1 := nb_limP hb.lim; have h2 := nb_dv (val lb); rw [hb.len] at h1; rw [hlv] at h2; omega
  have hub' := hid hub
  have hvb' := hid hvb
  have hup := nb_pos hu
  have hvp := nb_pos hv
  obtain ⟨P, hP⟩ : ∃ P : Int, (nb u : Int) = P := ⟨_, rfl⟩
  obtain ⟨Q, hQ⟩ : ∃ Q : Int, (nb v : Int) = Q := ⟨_, rfl⟩
  obtain ⟨S, hS⟩ : ∃ S : Int, P - Q = S := ⟨_, rfl⟩
  have hs1h := hid hs1
  rw [hP, hQ, hS] at hs1
  have hsh := hid hs
  rw [hP, hQ, hS] at hs
  have p0 : 1 ≤ P := by omega
  have p1 : P ≤ 40000 := by omega
  have q0 : 1 ≤ Q := by omega
  have q1 : Q ≤ 40000 := by omega
  have hPh := hid hP
  have hQh := hid hQ
  have d1 : decide (1024 < S) = false := decide_eq_false (by omega)
  have d2 : decide (S < -1076) = true := decide_eq_true (by omega)
  have hul : (lm u).length ≠ 0 := fun h => hu (lm_eq_nil.1 (List.length_eq_zero_iff.1 h))
  have hulh := hid hul
  clear hul
  have huh := hid hu
  have hvh := hid hv
  have hlvh := hid hlv
  have hNN := hid (fun W (a : Option Addr) (n c : Nat) (h : Rd W a n c la) (hn : n ≤ 1000) => norm_any h (by omega))
  simp only [hlu] at hNN
  have hnl : Hid ((lm u).length ≤ 1000) := (by have h1 := length_lm_val ha.lim; rw [hlu, ha.len] at h1; exact Nat.le_trans h1 hn)
  have hnh := hid hn
  have hmh := hid hm
  clear hlu hlv hu hv hn hm hub hvb hP hQ hup hvp hs1 hs
  have hent := ent2 w #[Value.int .i64 53, Value.int .i64 (-1074), Value.int .i64 971] #[Value.bool s, Value.slice a n c, Value.slice b m d] 53 27
  go_enter Tryd.func23, Tryd.ntmps23
  go_wp2_with fail
  generalize ((w.alloc (.cells #[Value.int .i64 53, Value.int .i64 (-1074), Value.int .i64 971] 53)).alloc (.cells #[Value.bool s, Value.slice a n c, Value.slice b m d] 27)) = W0 at hent ⊢
  obtain ⟨K_0, R_0, hbel_0, hsz_0⟩ := hent
  have cK_0_0 : _ = some (Value.int .i64 53) := K_0.cell 0
  have cK_0_1 : _ = some (Value.int .i64 (-1074)) := K_0.cell 1
  have cK_0_2 : _ = some (Value.int .i64 971) := K_0.cell 2
  have cR_0_0 : _ = some (Value.bool s) := R_0.cell 0
  have cR_0_1 : _ = some (Value.slice a n c) := R_0.cell 1
  have cR_0_2 : _ = some (Value.slice b m d) := R_0.cell 2
  have ha_0 := ha.below hbel_0
  clear ha
  have hb_0 := hb.below hbel_0
  clear hb
  go_wp2_with fail
  go_region_held3 (fun w' => w'.cell? ⟨w.heap.size + 1, 0, none⟩ = some (Value.bool s) ∧ w'.cell? ⟨w.heap.size + 1, 1, none⟩ = some (Value.slice a n c) ∧ w'.cell? ⟨w.heap.size + 1, 2, none⟩ = some (Value.slice b m d))
    (first | exact ⟨cR_0_0, cR_0_1, cR_0_2⟩ | exact ⟨cR_1_0, cR_1_1, cR_1_2⟩ | exact ⟨cR_2_0, cR_2_1, cR_2_2⟩ | go_keep)
    (first
      | (go_at_call 50; ((with_reducible refine (hNN.out _ _ _ _ (ha_0.below bl) hnh.out).mono ?_); (rintro e w1 ⟨na, nn, nc, rfl, hO, hB⟩; have hB_1 : Below W0.heap.size W0 w1 := (bl.next hB); have K_1 := K_0.next hB_1; have cK_1_0 : _ = some (Value.int .i64 53) := K_1.cell 0; have cK_1_1 : _ = some (Value.int .i64 (-1074)) := K_1.cell 1; have cK_1_2 : _ = some (Value.int .i64 971) := K_1.cell 2; have R_1 := R_0.next hB_1; have cR_1_0 : _ = some (Value.bool s) := R_1.cell 0; have cR_1_1 : _ = some (Value.slice a n c) := R_1.cell 1; have cR_1_2 : _ = some (Value.slice b m d) := R_1.cell 2; have ha_1 := ha_0.below hB_1; have hb_1 := hb_0.below hB_1; have hbel_1 := hbel_0.next hB_1; have hsz_1 := hB_1.size; clear K_0 cK_0_0 cK_0_1 cK_0_2 R_0 cR_0_0 cR_0_1 cR_0_2 ha_0 hb_0 hbel_0 hB_1; have hnn := hid hO.len; have N_1 := hO; have ltN := hO.ltB; clear hO; try clear hB)))
      | (go_at_call 51; ((with_reducible refine (den_any (hb_1.below bl) hmh.out).mono ?_); (rintro e w2 ⟨db, dm, dd, dl, rfl, hR, hdl, hdm, hB⟩; have hB_2 : Below w1.heap.size w1 w2 := (bl.next hB); have K_2 := K_1.next hB_2; have cK_2_0 : _ = some (Value.int .i64 53) := K_2.cell 0; have cK_2_1 : _ = some (Value.int .i64 (-1074)) := K_2.cell 1; have cK_2_2 : _ = some (Value.int .i64 971) := K_2.cell 2; have R_2 := R_1.next hB_2; have cR_2_0 : _ = some (Value.bool s) := R_2.cell 0; have cR_2_1 : _ = some (Value.slice a n c) := R_2.cell 1; have cR_2_2 : _ = some (Value.slice b m d) := R_2.cell 2; have ha_2 := ha_1.below hB_2; have hb_2 := hb_1.below hB_2; have N_2 := N_1.below hB_2; have hbel_2 := hbel_1.next hB_2; have hsz_2 := hB_2.size; clear K_1 cK_1_0 cK_1_1 cK_1_2 R_1 cR_1_0 cR_1_1 cR_1_2 ha_1 hb_1 N_1 hbel_1 hB_2; have hdlh := hid (hdl.trans hlvh.out); have hdmh := hid hdm; have hd_2 := hR; clear hR hdl hdm; try clear hB))))
  clear ha_2
  clear hb_2
  have hn1 : nn ≠ 0 := fun h => hulh.out (hnn.out.trans h)
  have hn2 : nn ≤ 1000 := by have := hnn.out; have := hnl.out; omega
  have hz : ((nn : Int) == 0) = false := by simp; omega
  go_wp2_with fail
  refine (bits_b (k := P) N_2.rd (by omega) (by rw [val_lm]; exact hPh.out)).mono ?_
  rintro e w3 ⟨rfl, hB⟩
  have hB_3 : Below w2.heap.size w2 w3 := (bl.next hB)
  have K_3 := K_2.next hB_3
  have cK_3_0 : _ = some (Value.int .i64 53) := K_3.cell 0
  have cK_3_1 : _ = some (Value.int .i64 (-1074)) := K_3.cell 1
  have cK_3_2 : _ = some (Value.int .i64 971) := K_3.cell 2
  have R_3 := R_2.next hB_3
  have cR_3_0 : _ = some (Value.bool s) := R_3.cell 0
  have cR_3_1 : _ = some (Value.slice a n c) := R_3.cell 1
  have cR_3_2 : _ = some (Value.slice b m d) := R_3.cell 2
  have N_3 := N_2.below hB_3
  have hd_3 := hd_2.below hB_3
  have hbel_3 := hbel_2.next hB_3
  have hsz_3 := hB_3.size
  clear K_2 cK_2_0 cK_2_1 cK_2_2 R_2 cR_2_0 cR_2_1 cR_2_2 N_2 hd_2 hbel_2 hB_3
  try clear hB
  go_wp2_with fail
  refine (bits_b (k := Q) hd_3 (by have := hdmh.out; omega) (by rw [hdlh.out]; exact hQh.out)).mono ?_
  rintro e w4 ⟨rfl, hB⟩
  have hB_4 : Below w3.heap.size w3 w4 := (bl.next hB)
  have K_4 := K_3.next hB_4
  have cK_4_0 : _ = some (Value.int .i64 53) := K_4.cell 0
  have cK_4_1 : _ = some (Value.int .i64 (-1074)) := K_4.cell 1
  have cK_4_2 : _ = some (Value.int .i64 971) := K_4.cell 2
  have R_4 := R_3.next hB_4
  have cR_4_0 : _ = some (Value.bool s) := R_4.cell 0
  have cR_4_1 : _ = some (Value.slice a n c) := R_4.cell 1
  have cR_4_2 : _ = some (Value.slice b m d) := R_4.cell 2
  have N_4 := N_3.below hB_4
  have hd_4 := hd_3.below hB_4
  have hbel_4 := hbel_3.next hB_4
  have hsz_4 := hB_4.size
  clear K_3 cK_3_0 cK_3_1 cK_3_2 R_3 cR_3_0 cR_3_1 cR_3_2 N_3 hd_3 hbel_3 hB_4
  try clear hB
  go_wp2_with fail
  go_region_held3 (fun w' => w'.cell? ⟨w.heap.size, 0, none⟩ = some (Value.int .i64 53) ∧ w'.cell? ⟨w.heap.size, 1, none⟩ = some (Value.int .i64 (-1074)) ∧ w'.cell? ⟨w.heap.size, 2, none⟩ = some (Value.int .i64 971))
    (first | exact ⟨cK_4_0, cK_4_1, cK_4_2⟩ | go_keep)
    (first
      | fail)
  go_wp2
  refine bodyPost_ret (v := .tuple #[.int .u64 0, .int .i64 (-1074), .bool true, .int .i64 (-1), .bool false]) (by simp [results, Tryd.results23, go_sem]) rfl ?_
  exact ⟨0, _, _, _, _, rfl, cut_tiny huh.out hvh.out (by decide) (by decide) (by decide) hsh.out, hbel_4.drew⟩

set_option maxRecDepth 100000 in
set_option maxHeartbeats 8000000 in
theorem cutg_L {w : World} {s : Bool} {a b : Option Addr} {n c m d u v : Nat} {la lb : List Nat} (ha : Rd w a n c la) (hb : Rd w b m d lb) (hn : n ≤ 1000) (hm : m ≤ 1000) (hlu : val la = u) (hlv : dv (val lb) = v) (hv : v ≠ 0) (hu : u ≠ 0) (hs1 : (nb u : Int) - nb v ≤ 1024) (hs2 : -1076 ≤ (nb u : Int) - nb v) :
    Calls Tryd.prog 23 #[.agg #[.int .i64 53, .int .i64 (-1074), .int .i64 971], .agg #[.bool s, .slice a n c, .slice b m d]] w (RetNC 53 (-1074) 971 u v w) := by
  have hub : nb u ≤ 32000 := by have h1 := nb_limP ha.lim; rw [ha.len, hlu] at h1; omega
  have hvb : nb v ≤ 32001 := by have h1 := nb_limP hb.lim; have h2 := nb_dv (val lb); rw [hb.len] at h1; rw [hlv] at h2; omega
  have hub' := hid hub
  have hvb' := hid hvb
  have hup := nb_pos hu
  have hvp := nb_pos hv
  obtain ⟨P, hP⟩ : ∃ P : Int, (nb u : Int) = P := ⟨_, rfl⟩
  obtain ⟨Q, hQ⟩ : ∃ Q : Int, (nb v : Int) = Q := ⟨_, rfl⟩
  obtain ⟨S, hS⟩ : ∃ S : Int, P - Q = S := ⟨_, rfl⟩
  have hs1h := hid hs1
  rw [hP, hQ, hS] at hs1
  have hs2h := hid hs2
  rw [hP, hQ, hS] at hs2
  have p0 : 1 ≤ P := by omega
  have p1 : P ≤ 40000 := by omega
  have q0 : 1 ≤ Q := by omega
  have q1 : Q ≤ 40000 := by omega
  have hPh := hid hP
  have hQh := hid hQ
  have d1 : decide (1024 < S) = false := decide_eq_false (by omega)
  have d2 : decide (S < -1076) = false := decide_eq_false (by omega)
  have hul : (lm u).length ≠ 0 := fun h => hu (lm_eq_nil.1 (List.length_eq_zero_iff.1 h))
  have hulh := hid hul
  clear hul
  have huh := hid hu
  have hvh := hid hv
  have hlvh := hid hlv
  have hNN := hid (fun W (a : Option Addr) (n c : Nat) (h : Rd W a n c la) (hn : n ≤ 1000) => norm_any h (by omega))
  simp only [hlu] at hNN
  have hnl : Hid ((lm u).length ≤ 1000) := (by have h1 := length_lm_val ha.lim; rw [hlu, ha.len] at h1; exact Nat.le_trans h1 hn)
  have hnh := hid hn
  have hmh := hid hm
  clear hlu hlv hu hv hn hm hub hvb hP hQ hup hvp
  have hent := ent2 w #[Value.int .i64 53, Value.int .i64 (-1074), Value.int .i64 971] #[Value.bool s, Value.slice a n c, Value.slice b m d] 53 27
  go_enter Tryd.func23, Tryd.ntmps23
  go_wp2_with fail
  generalize ((w.alloc (.cells #[Value.int .i64 53, Value.int .i64 (-1074), Value.int .i64 971] 53)).alloc (.cells #[Value.bool s, Value.slice a n c, Value.slice b m d] 27)) = W0 at hent ⊢
  obtain ⟨K_0, R_0, hbel_0, hsz_0⟩ := hent
  have cK_0_0 : _ = some (Value.int .i64 53) := K_0.cell 0
  have cK_0_1 : _ = some (Value.int .i64 (-1074)) := K_0.cell 1
  have cK_0_2 : _ = some (Value.int .i64 971) := K_0.cell 2
  have cR_0_0 : _ = some (Value.bool s) := R_0.cell 0
  have cR_0_1 : _ = some (Value.slice a n c) := R_0.cell 1
  have cR_0_2 : _ = some (Value.slice b m d) := R_0.cell 2
  have ha_0 := ha.below hbel_0
  clear ha
  have hb_0 := hb.below hbel_0
  clear hb
  go_wp2_with fail
  go_region_held3 (fun w' => w'.cell? ⟨w.heap.size + 1, 0, none⟩ = some (Value.bool s) ∧ w'.cell? ⟨w.heap.size + 1, 1, none⟩ = some (Value.slice a n c) ∧ w'.cell? ⟨w.heap.size + 1, 2, none⟩ = some (Value.slice b m d))
    (first | exact ⟨cR_0_0, cR_0_1, cR_0_2⟩ | exact ⟨cR_1_0, cR_1_1, cR_1_2⟩ | exact ⟨cR_2_0, cR_2_1, cR_2_2⟩ | go_keep)
    (first
      | (go_at_call 50; ((with_reducible refine (hNN.out _ _ _ _ (ha_0.below bl) hnh.out).mono ?_); (rintro e w1 ⟨na, nn, nc, rfl, hO, hB⟩; have hB_1 : Below W0.heap.size W0 w1 := (bl.next hB); have K_1 := K_0.next hB_1; have cK_1_0 : _ = some (Value.int .i64 53) := K_1.cell 0; have cK_1_1 : _ = some (Value.int .i64 (-1074)) := K_1.cell 1; have cK_1_2 : _ = some (Value.int .i64 971) := K_1.cell 2; have R_1 := R_0.next hB_1; have cR_1_0 : _ = some (Value.bool s) := R_1.cell 0; have cR_1_1 : _ = some (Value.slice a n c) := R_1.cell 1; have cR_1_2 : _ = some (Value.slice b m d) := R_1.cell 2; have ha_1 := ha_0.below hB_1; have hb_1 := hb_0.below hB_1; have hbel_1 := hbel_0.next hB_1; have hsz_1 := hB_1.size; clear K_0 cK_0_0 cK_0_1 cK_0_2 R_0 cR_0_0 cR_0_1 cR_0_2 ha_0 hb_0 hbel_0 hB_1; have hnn := hid hO.len; have N_1 := hO; have ltN := hO.ltB; clear hO; try clear hB)))
      | (go_at_call 51; ((with_reducible refine (den_any (hb_1.below bl) hmh.out).mono ?_); (rintro e w2 ⟨db, dm, dd, dl, rfl, hR, hdl, hdm, hB⟩; have hB_2 : Below w1.heap.size w1 w2 := (bl.next hB); have K_2 := K_1.next hB_2; have cK_2_0 : _ = some (Value.int .i64 53) := K_2.cell 0; have cK_2_1 : _ = some (Value.int .i64 (-1074)) := K_2.cell 1; have cK_2_2 : _ = some (Value.int .i64 971) := K_2.cell 2; have R_2 := R_1.next hB_2; have cR_2_0 : _ = some (Value.bool s) := R_2.cell 0; have cR_2_1 : _ = some (Value.slice a n c) := R_2.cell 1; have cR_2_2 : _ = some (Value.slice b m d) := R_2.cell 2; have ha_2 := ha_1.below hB_2; have hb_2 := hb_1.below hB_2; have N_2 := N_1.below hB_2; have hbel_2 := hbel_1.next hB_2; have hsz_2 := hB_2.size; clear K_1 cK_1_0 cK_1_1 cK_1_2 R_1 cR_1_0 cR_1_1 cR_1_2 ha_1 hb_1 N_1 hbel_1 hB_2; have hdlh := hid (hdl.trans hlvh.out); have hdmh := hid hdm; have hd_2 := hR; clear hR hdl hdm; try clear hB))))
  clear ha_2
  clear hb_2
  have hn1 : nn ≠ 0 := fun h => hulh.out (hnn.out.trans h)
  have hn2 : nn ≤ 1000 := by have := hnn.out; have := hnl.out; omega
  have hz : ((nn : Int) == 0) = false := by simp; omega
  go_wp2_with fail
  refine (bits_b (k := P) N_2.rd (by omega) (by rw [val_lm]; exact hPh.out)).mono ?_
  rintro e w3 ⟨rfl, hB⟩
  have hB_3 : Below w2.heap.size w2 w3 := (bl.next hB)
  have K_3 := K_2.next hB_3
  have cK_3_0 : _ = some (Value.int .i64 53) := K_3.cell 0
  have cK_3_1 : _ = some (Value.int .i64 (-1074)) := K_3.cell 1
  have cK_3_2 : _ = some (Value.int .i64 971) := K_3.cell 2
  have R_3 := R_2.next hB_3
  have cR_3_0 : _ = some (Value.bool s) := R_3.cell 0
  have cR_3_1 : _ = some (Value.slice a n c) := R_3.cell 1
  have cR_3_2 : _ = some (Value.slice b m d) := R_3.cell 2
  have N_3 := N_2.below hB_3
  have hd_3 := hd_2.below hB_3
  have hbel_3 := hbel_2.next hB_3
  have hsz_3 := hB_3.size
  clear K_2 cK_2_0 cK_2_1 cK_2_2 R_2 cR_2_0 cR_2_1 cR_2_2 N_2 hd_2 hbel_2 hB_3
  try clear hB
  go_wp2_with fail
  refine (bits_b (k := Q) hd_3 (by have := hdmh.out; omega) (by rw [hdlh.out]; exact hQh.out)).mono ?_
  rintro e w4 ⟨rfl, hB⟩
  have hB_4 : Below w3.heap.size w3 w4 := (bl.next hB)
  have K_4 := K_3.next hB_4
  have cK_4_0 : _ = some (Value.int .i64 53) := K_4.cell 0
  have cK_4_1 : _ = some (Value.int .i64 (-1074)) := K_4.cell 1
  have cK_4_2 : _ = some (Value.int .i64 971) := K_4.cell 2
  have R_4 := R_3.next hB_4
  have cR_4_0 : _ = some (Value.bool s) := R_4.cell 0
  have cR_4_1 : _ = some (Value.slice a n c) := R_4.cell 1
  have cR_4_2 : _ = some (Value.slice b m d) := R_4.cell 2
  have N_4 := N_3.below hB_4
  have hd_4 := hd_3.below hB_4
  have hbel_4 := hbel_3.next hB_4
  have hsz_4 := hB_4.size
  clear K_3 cK_3_0 cK_3_1 cK_3_2 R_3 cR_3_0 cR_3_1 cR_3_2 N_3 hd_3 hbel_3 hB_4
  try clear hB
  go_wp2_with fail
  have hdd := hid hd_4
  obtain ⟨W1, hW1⟩ : ∃ y : World, y = w4 := ⟨_, rfl⟩
  subst hW1
  go_loopw [5] (fun ev wr => ∃ E : Int, ev = .int .i64 E ∧ (-1074) ≤ E ∧ S - 54 ≤ E ∧ E ≤ 1000 ∧ (E = (-1074) ∨ Hid (2 ^ 53 ≤ ctQ u v (E - 1))) ∧ Below W1.heap.size W1 wr) (fun ev _ => (1000 - intOf ev).toNat)
  case atStart =>
    obtain ⟨E, hE⟩ : ∃ E : Int, E = max (S - 54) (-1074) := ⟨_, rfl⟩
    refine ⟨E, ?_, by omega, by omega, by omega, ?_, Below.refl _ _⟩
    · first | (rw [hE]; rfl) | (rw [hE]; congr 1; omega) | (congr 1; omega)
    · by_cases h : E = (-1074)
      · exact .inl h
      · exact .inr (ct_begin huh.out hvh.out (by rw [hPh.out, hQh.out, hS]; omega))
  case round =>
    obtain ⟨E, rfl, h1, h2, h3, h4, hBW⟩ := hrel
    have K_5 := K_4.next hBW
    have N_5 := N_4.below hBW
    have hd_5 := hdd.out.below hBW
    have hbel_5 := hbel_4.next hBW
    have hsz_5 := hBW.size
    have hbW_5 := hBW
    have cK_5_0 : _ = some (Value.int .i64 53) := K_5.cell 0
    have cK_5_1 : _ = some (Value.int .i64 (-1074)) := K_5.cell 1
    have cK_5_2 : _ = some (Value.int .i64 971) := K_5.cell 2
    by_cases hE : E < 0
    · obtain ⟨D, rfl⟩ : ∃ D : Nat, E = -(D : Int) := ⟨(-E).toNat, by omega⟩
      have hX := hid (show ctX u (-(D : Int)) = u * 2 ^ D by unfold ctX; rw [if_pos hE, Int.neg_neg, Int.toNat_natCast])
      have hY := hid (show ctY v (-(D : Int)) = v from if_pos hE)
      have hY0 := hvh
      have hXl : Hid ((lm (u * 2 ^ D)).length ≤ 2000) := len_mul2 (by have := hub'.out; omega)
      go_wp2_with fail
      refine (shR N_5.rd (by omega) (val_lm _) D (by omega)).mono ?_
      rintro e w6 ⟨sa, sn, sc, rfl, hO, hB⟩
      have hB_6 : Below wr.heap.size wr w6 := (bl.next hB)
      have K_6 := K_5.next hB_6
      have cK_6_0 : _ = some (Value.int .i64 53) := K_6.cell 0
      have cK_6_1 : _ = some (Value.int .i64 (-1074)) := K_6.cell 1
      have cK_6_2 : _ = some (Value.int .i64 971) := K_6.cell 2
      have N_6 := N_5.below hB_6
      have hd_6 := hd_5.below hB_6
      have hbW_6 := hbW_5.next hB_6
      have hbel_6 := hbel_5.next hB_6
      have hsz_6 := hB_6.size
      clear K_5 cK_5_0 cK_5_1 cK_5_2 N_5 hd_5 hbW_5 hbel_5 hB_6
      have S_6 := hO
      have ltS := hO.ltB
      have hsn : sn ≤ 2000 := by have h5 := hO.len; have h6 := hXl.out; omega
      clear hO
      try clear hB
      go_wp2_with fail
      refine (divg S_6.rd (val_lm _) hd_6 hdlh.out hY0.out (by omega)).mono ?_
      rintro e w7 ⟨qa, qn, qc, ra, rn, rc, rfl, hO, hO', hD, hB⟩
      have hB_7 : Below w6.heap.size w6 w7 := (bl.next hB)
      have K_7 := K_6.next hB_7
      have cK_7_0 : _ = some (Value.int .i64 53) := K_7.cell 0
      have cK_7_1 : _ = some (Value.int .i64 (-1074)) := K_7.cell 1
      have cK_7_2 : _ = some (Value.int .i64 971) := K_7.cell 2
      have N_7 := N_6.below hB_7
      have hd_7 := hd_6.below hB_7
      have hbW_7 := hbW_6.next hB_7
      have S_7 := S_6.below hB_7
      have hbel_7 := hbel_6.next hB_7
      have hsz_7 := hB_7.size
      clear K_6 cK_6_0 cK_6_1 cK_6_2 N_6 hd_6 hbW_6 S_6 hbel_6 hB_7
      have Q_7 := hO
      have ltQ := hO.ltB
      have T_7 := hO'
      have ltT := hO'.ltB
      have hlen := hid hO'.len
      have hqn : qn ≤ 2000 := by have h5 := hO.len; have h6 := len_mono (Nat.div_le_self (u * 2 ^ D) v) hXl.out; omega
      have hrn : rn ≤ 2000 := by have h5 := hO'.len; have h6 := len_mono (Nat.mod_le (u * 2 ^ D) v) hXl.out; omega
      clear hO hO' hD
      try clear hB
      go_wp2_with fail
      obtain ⟨Bq, hBq⟩ : ∃ z : Int, (nb (u * 2 ^ D / v) : Int) = z := ⟨_, rfl⟩
      have hBqh := hid hBq
      have hqX := hid (show ctQ u v (-(D : Int)) = u * 2 ^ D / v by unfold ctQ; rw [hX.out, hY.out])
      by_cases hbig : 53 < Bq
      · have hdb : decide (53 < Bq) = true := decide_eq_true hbig
        have hQ53 : 2 ^ 53 ≤ ctQ u v (-(D : Int)) := by rw [hqX.out]; exact nb_gt.1 (by omega)
        have hE2 : -(D : Int) < S - 52 := by
          refine Int.not_le.1 fun h => ?_
          have h5 := ct_end (B := 53) (e := -(D : Int)) huh.out hvh.out (by rw [hPh.out, hQh.out, hS]; omega)
          omega
        have hQh3 := hid hQ53
        clear hQ53 hBq
        go_wp2_with fail
        go_region_held3 (fun w' => w'.cell? ⟨w.heap.size, 0, none⟩ = some (Value.int .i64 53) ∧ w'.cell? ⟨w.heap.size, 1, none⟩ = some (Value.int .i64 (-1074)) ∧ w'.cell? ⟨w.heap.size, 2, none⟩ = some (Value.int .i64 971))
          (first | exact ⟨cK_7_0, cK_7_1, cK_7_2⟩ | exact ⟨cK_8_0, cK_8_1, cK_8_2⟩ | go_keep)
          (first
            | (go_at_call 52; ((with_reducible refine (bits_b (k := Bq) (Q_7.below bl).rd (by omega) (by rw [val_lm]; exact hBqh.out)).mono ?_); (rintro e w8 ⟨rfl, hB⟩; have hB_8 : Below w7.heap.size w7 w8 := (bl.next hB); have K_8 := K_7.next hB_8; have cK_8_0 : _ = some (Value.int .i64 53) := K_8.cell 0; have cK_8_1 : _ = some (Value.int .i64 (-1074)) := K_8.cell 1; have cK_8_2 : _ = some (Value.int .i64 971) := K_8.cell 2; have N_8 := N_7.below hB_8; have hd_8 := hd_7.below hB_8; have hbW_8 := hbW_7.next hB_8; have S_8 := S_7.below hB_8; have Q_8 := Q_7.below hB_8; have T_8 := T_7.below hB_8; have hbel_8 := hbel_7.next hB_8; have hsz_8 := hB_8.size; clear K_7 cK_7_0 cK_7_1 cK_7_2 N_7 hd_7 hbW_7 S_7 Q_7 T_7 hbel_7 hB_8; try clear hB))))
        go_wp2
        go_roundw
        case rel => exact ⟨-(D : Int) + 1, by go_num, by omega, by omega, by omega, .inr (by rw [show -(D : Int) + 1 - 1 = -(D : Int) by omega]; exact hQh3), hbW_8⟩
        case measure => simp [intOf]; omega
      · have hds : decide (53 < Bq) = false := decide_eq_false hbig
        have hQ53 : ctQ u v (-(D : Int)) < 2 ^ 53 := by rw [hqX.out]; exact nb_le.1 (by omega)
        have hQlo : -(D : Int) = (-1074) ∨ 2 ^ 52 ≤ ctQ u v (-(D : Int)) := by
          rcases h4 with h4 | h4
          · exact .inl h4
          · right; have h5 := ct_full (B := 52) (e := -(D : Int) - 1) (Nat.pos_of_ne_zero hvh.out) h4; rwa [show -(D : Int) - 1 + 1 = -(D : Int) by omega] at h5
        have hQ1 := hid hQ53
        have hQ2 := hid hQlo
        clear hQ53 hQlo hBq h4
        go_wp2_with fail
        go_region_held3 (fun w' => w'.cell? ⟨w.heap.size, 0, none⟩ = some (Value.int .i64 53) ∧ w'.cell? ⟨w.heap.size, 1, none⟩ = some (Value.int .i64 (-1074)) ∧ w'.cell? ⟨w.heap.size, 2, none⟩ = some (Value.int .i64 971))
          (first | exact ⟨cK_7_0, cK_7_1, cK_7_2⟩ | exact ⟨cK_8_0, cK_8_1, cK_8_2⟩ | go_keep)
          (first
            | (go_at_call 52; ((with_reducible refine (bits_b (k := Bq) (Q_7.below bl).rd (by omega) (by rw [val_lm]; exact hBqh.out)).mono ?_); (rintro e w8 ⟨rfl, hB⟩; have hB_8 : Below w7.heap.size w7 w8 := (bl.next hB); have K_8 := K_7.next hB_8; have cK_8_0 : _ = some (Value.int .i64 53) := K_8.cell 0; have cK_8_1 : _ = some (Value.int .i64 (-1074)) := K_8.cell 1; have cK_8_2 : _ = some (Value.int .i64 971) := K_8.cell 2; have N_8 := N_7.below hB_8; have hd_8 := hd_7.below hB_8; have hbW_8 := hbW_7.next hB_8; have S_8 := S_7.below hB_8; have Q_8 := Q_7.below hB_8; have T_8 := T_7.below hB_8; have hbel_8 := hbel_7.next hB_8; have hsz_8 := hB_8.size; clear K_7 cK_7_0 cK_7_1 cK_7_2 N_7 hd_7 hbW_7 S_7 Q_7 T_7 hbel_7 hB_8; try clear hB))))
        have huv : Hid (uv (u * 2 ^ D / v) = u * 2 ^ D / v ∧ decide (u * 2 ^ D / v < two64) = true) := by
          have h5 := hQ1.out
          rw [hqX.out] at h5
          have h6 : u * 2 ^ D / v < two64 := Nat.lt_of_lt_of_le h5 (by decide)
          exact ⟨by unfold uv; first | (rw [if_pos h6]) | exact Nat.mod_eq_of_lt h6, decide_eq_true h6⟩
        have HUI := hid (fun W (a : Option Addr) (n c B : Nat) (h : Own B W a n c (lm (u * 2 ^ D / v))) => (uint_any h.rd).mono fun e w' h2 => (show e = Ending.returned (.tuple #[.int .u64 ((u * 2 ^ D / v : Nat) : Int), .bool true]) ∧ Below W.heap.size W w' by rw [val_lm] at h2; unfold RetUint at h2; rw [huv.out.1, huv.out.2] at h2; exact h2))
        go_wp2_with fail
        refine (HUI.out _ _ _ _ _ Q_8).mono ?_
        rintro e w9 ⟨rfl, hB⟩
        have hB_9 : Below w8.heap.size w8 w9 := (bl.next hB)
        have K_9 := K_8.next hB_9
        have cK_9_0 : _ = some (Value.int .i64 53) := K_9.cell 0
        have cK_9_1 : _ = some (Value.int .i64 (-1074)) := K_9.cell 1
        have cK_9_2 : _ = some (Value.int .i64 971) := K_9.cell 2
        have N_9 := N_8.below hB_9
        have hd_9 := hd_8.below hB_9
        have hbW_9 := hbW_8.next hB_9
        have S_9 := S_8.below hB_9
        have Q_9 := Q_8.below hB_9
        have T_9 := T_8.below hB_9
        have hbel_9 := hbel_8.next hB_9
        have hsz_9 := hB_9.size
        clear K_8 cK_8_0 cK_8_1 cK_8_2 N_8 hd_8 hbW_8 S_8 Q_8 T_8 hbel_8 hB_9
        try clear hB
        go_wp2_with fail
        refine (shR T_9.rd (by omega) (val_lm _) 1 (by omega)).mono ?_
        rintro e w10 ⟨wa, wn, wd, rfl, hO, hB⟩
        have hB_10 : Below w9.heap.size w9 w10 := (bl.next hB)
        have K_10 := K_9.next hB_10
        have cK_10_0 : _ = some (Value.int .i64 53) := K_10.cell 0
        have cK_10_1 : _ = some (Value.int .i64 (-1074)) := K_10.cell 1
        have cK_10_2 : _ = some (Value.int .i64 971) := K_10.cell 2
        have N_10 := N_9.below hB_10
        have hd_10 := hd_9.below hB_10
        have hbW_10 := hbW_9.next hB_10
        have S_10 := S_9.below hB_10
        have Q_10 := Q_9.below hB_10
        have T_10 := T_9.below hB_10
        have hbel_10 := hbel_9.next hB_10
        have hsz_10 := hB_10.size
        clear K_9 cK_9_0 cK_9_1 cK_9_2 N_9 hd_9 hbW_9 S_9 Q_9 T_9 hbel_9 hB_10
        have W2_10 := hO
        have ltW2 := hO.ltB
        clear hO
        try clear hB
        go_wp2_with fail
        go_wp2_with fail
        go_region_held3 (fun w' => w'.cell? ⟨w.heap.size, 0, none⟩ = some (Value.int .i64 53) ∧ w'.cell? ⟨w.heap.size, 1, none⟩ = some (Value.int .i64 (-1074)) ∧ w'.cell? ⟨w.heap.size, 2, none⟩ = some (Value.int .i64 971))
          (first | exact ⟨cK_10_0, cK_10_1, cK_10_2⟩ | exact ⟨cK_11_0, cK_11_1, cK_11_2⟩ | go_keep)
          (first
            | (go_at_call 55; ((with_reducible refine (cmp_b (k := cmpI (u * 2 ^ D % v * 2 ^ 1) v) (W2_10.below bl).rd (hd_10.below bl) (by rw [val_lm, hdlh.out])).mono ?_); (rintro e w11 ⟨rfl, hB⟩; have hB_11 : Below w10.heap.size w10 w11 := (bl.next hB); have K_11 := K_10.next hB_11; have cK_11_0 : _ = some (Value.int .i64 53) := K_11.cell 0; have cK_11_1 : _ = some (Value.int .i64 (-1074)) := K_11.cell 1; have cK_11_2 : _ = some (Value.int .i64 971) := K_11.cell 2; have N_11 := N_10.below hB_11; have hd_11 := hd_10.below hB_11; have hbW_11 := hbW_10.next hB_11; have S_11 := S_10.below hB_11; have Q_11 := Q_10.below hB_11; have T_11 := T_10.below hB_11; have W2_11 := W2_10.below hB_11; have hbel_11 := hbel_10.next hB_11; have hsz_11 := hB_11.size; clear K_10 cK_10_0 cK_10_1 cK_10_2 N_10 hd_10 hbW_10 S_10 Q_10 T_10 W2_10 hbel_10 hB_11; try clear hB))))
        go_wp2
        have hR0 : decide ((0 : Int) < (rn : Int)) = decide (u * 2 ^ D % v ≠ 0) := by
          have h5 := hlen.out
          by_cases h6 : u * 2 ^ D % v = 0
          · rw [h6] at h5 ⊢; have h7 : rn = 0 := h5.symm; simp [h7]
          · have h7 : rn ≠ 0 := fun h => h6 (lm_eq_nil.1 (List.length_eq_zero_iff.1 (h5.trans h))); simp [h6]; omega
        refine bodyPost_ret (v := .tuple #[.int .u64 ((u * 2 ^ D / v : Nat) : Int), .int .i64 (-(D : Int)), .bool (decide ((0 : Int) < (rn : Int))), .int .i64 (cmpI (u * 2 ^ D % v * 2 ^ 1) v), .bool (decide (971 < -(D : Int)))]) (by simp [results, Tryd.results23, go_sem]) rfl ?_
        have h8 := cut_main (B := 53) (u := u) (v := v) (L := (-1074)) (M := 971) (E := -(D : Int)) hvh.out (by decide) (by decide) (by decide) h1 h3 hQ1.out hQ2.out
        rw [hqX.out, hX.out, hY.out, ← hR0] at h8
        exact ⟨_, _, _, _, _, rfl, h8, hbel_11⟩
    · obtain ⟨D, rfl⟩ : ∃ D : Nat, E = (D : Int) := ⟨E.toNat, by omega⟩
      have hX := hid (show ctX u (D : Int) = u from if_neg hE)
      have hY := hid (show ctY v (D : Int) = v * 2 ^ D by unfold ctY; rw [if_neg hE, Int.toNat_natCast])
      have hY0 : Hid (v * 2 ^ D ≠ 0) := Nat.mul_ne_zero hvh.out (Nat.ne_of_gt (Nat.pow_pos (by decide)))
      have hXl : Hid ((lm u).length ≤ 2000) := Nat.le_trans hnl.out (by decide)
      have hdE : decide ((D : Int) < 0) = false := decide_eq_false hE
      go_wp2_with fail
      refine (shR hd_5 (by have := hdmh.out; omega) hdlh.out D (by omega)).mono ?_
      rintro e w6 ⟨sa, sn, sc, rfl, hO, hB⟩
      have hB_6 : Below wr.heap.size wr w6 := (bl.next hB)
      have K_6 := K_5.next hB_6
      have cK_6_0 : _ = some (Value.int .i64 53) := K_6.cell 0
      have cK_6_1 : _ = some (Value.int .i64 (-1074)) := K_6.cell 1
      have cK_6_2 : _ = some (Value.int .i64 971) := K_6.cell 2
      have N_6 := N_5.below hB_6
      have hd_6 := hd_5.below hB_6
      have hbW_6 := hbW_5.next hB_6
      have hbel_6 := hbel_5.next hB_6
      have hsz_6 := hB_6.size
      clear K_5 cK_5_0 cK_5_1 cK_5_2 N_5 hd_5 hbW_5 hbel_5 hB_6
      have S_6 := hO
      have ltS := hO.ltB
      clear hO
      try clear hB
      go_wp2_with fail
      refine (divg N_6.rd (val_lm _) S_6.rd (val_lm _) hY0.out (by omega)).mono ?_
      rintro e w7 ⟨qa, qn, qc, ra, rn, rc, rfl, hO, hO', hD, hB⟩
      have hB_7 : Below w6.heap.size w6 w7 := (bl.next hB)
      have K_7 := K_6.next hB_7
      have cK_7_0 : _ = some (Value.int .i64 53) := K_7.cell 0
      have cK_7_1 : _ = some (Value.int .i64 (-1074)) := K_7.cell 1
      have cK_7_2 : _ = some (Value.int .i64 971) := K_7.cell 2
      have N_7 := N_6.below hB_7
      have hd_7 := hd_6.below hB_7
      have hbW_7 := hbW_6.next hB_7
      have S_7 := S_6.below hB_7
      have hbel_7 := hbel_6.next hB_7
      have hsz_7 := hB_7.size
      clear K_6 cK_6_0 cK_6_1 cK_6_2 N_6 hd_6 hbW_6 S_6 hbel_6 hB_7
      have Q_7 := hO
      have ltQ := hO.ltB
      have T_7 := hO'
      have ltT := hO'.ltB
      have hlen := hid hO'.len
      have hqn : qn ≤ 2000 := by have h5 := hO.len; have h6 := len_mono (Nat.div_le_self (u) (v * 2 ^ D)) hXl.out; omega
      have hrn : rn ≤ 2000 := by have h5 := hO'.len; have h6 := len_mono (Nat.mod_le (u) (v * 2 ^ D)) hXl.out; omega
      clear hO hO' hD
      try clear hB
      go_wp2_with fail
      obtain ⟨Bq, hBq⟩ : ∃ z : Int, (nb (u / (v * 2 ^ D)) : Int) = z := ⟨_, rfl⟩
      have hBqh := hid hBq
      have hqX := hid (show ctQ u v ((D : Int)) = u / (v * 2 ^ D) by unfold ctQ; rw [hX.out, hY.out])
      by_cases hbig : 53 < Bq
      · have hdb : decide (53 < Bq) = true := decide_eq_true hbig
        have hQ53 : 2 ^ 53 ≤ ctQ u v ((D : Int)) := by rw [hqX.out]; exact nb_gt.1 (by omega)
        have hE2 : (D : Int) < S - 52 := by
          refine Int.not_le.1 fun h => ?_
          have h5 := ct_end (B := 53) (e := (D : Int)) huh.out hvh.out (by rw [hPh.out, hQh.out, hS]; omega)
          omega
        have hQh3 := hid hQ53
        clear hQ53 hBq
        go_wp2_with fail
        go_region_held3 (fun w' => w'.cell? ⟨w.heap.size, 0, none⟩ = some (Value.int .i64 53) ∧ w'.cell? ⟨w.heap.size, 1, none⟩ = some (Value.int .i64 (-1074)) ∧ w'.cell? ⟨w.heap.size, 2, none⟩ = some (Value.int .i64 971))
          (first | exact ⟨cK_7_0, cK_7_1, cK_7_2⟩ | exact ⟨cK_8_0, cK_8_1, cK_8_2⟩ | go_keep)
          (first
            | (go_at_call 52; ((with_reducible refine (bits_b (k := Bq) (Q_7.below bl).rd (by omega) (by rw [val_lm]; exact hBqh.out)).mono ?_); (rintro e w8 ⟨rfl, hB⟩; have hB_8 : Below w7.heap.size w7 w8 := (bl.next hB); have K_8 := K_7.next hB_8; have cK_8_0 : _ = some (Value.int .i64 53) := K_8.cell 0; have cK_8_1 : _ = some (Value.int .i64 (-1074)) := K_8.cell 1; have cK_8_2 : _ = some (Value.int .i64 971) := K_8.cell 2; have N_8 := N_7.below hB_8; have hd_8 := hd_7.below hB_8; have hbW_8 := hbW_7.next hB_8; have S_8 := S_7.below hB_8; have Q_8 := Q_7.below hB_8; have T_8 := T_7.below hB_8; have hbel_8 := hbel_7.next hB_8; have hsz_8 := hB_8.size; clear K_7 cK_7_0 cK_7_1 cK_7_2 N_7 hd_7 hbW_7 S_7 Q_7 T_7 hbel_7 hB_8; try clear hB))))
        go_wp2
        go_roundw
        case rel => exact ⟨(D : Int) + 1, by go_num, by omega, by omega, by omega, .inr (by rw [show (D : Int) + 1 - 1 = (D : Int) by omega]; exact hQh3), hbW_8⟩
        case measure => simp [intOf]; omega
      · have hds : decide (53 < Bq) = false := decide_eq_false hbig
        have hQ53 : ctQ u v ((D : Int)) < 2 ^ 53 := by rw [hqX.out]; exact nb_le.1 (by omega)
        have hQlo : (D : Int) = (-1074) ∨ 2 ^ 52 ≤ ctQ u v ((D : Int)) := by
          rcases h4 with h4 | h4
          · exact .inl h4
          · right; have h5 := ct_full (B := 52) (e := (D : Int) - 1) (Nat.pos_of_ne_zero hvh.out) h4; rwa [show (D : Int) - 1 + 1 = (D : Int) by omega] at h5
        have hQ1 := hid hQ53
        have hQ2 := hid hQlo
        clear hQ53 hQlo hBq h4
        go_wp2_with fail
        go_region_held3 (fun w' => w'.cell? ⟨w.heap.size, 0, none⟩ = some (Value.int .i64 53) ∧ w'.cell? ⟨w.heap.size, 1, none⟩ = some (Value.int .i64 (-1074)) ∧ w'.cell? ⟨w.heap.size, 2, none⟩ = some (Value.int .i64 971))
          (first | exact ⟨cK_7_0, cK_7_1, cK_7_2⟩ | exact ⟨cK_8_0, cK_8_1, cK_8_2⟩ | go_keep)
          (first
            | (go_at_call 52; ((with_reducible refine (bits_b (k := Bq) (Q_7.below bl).rd (by omega) (by rw [val_lm]; exact hBqh.out)).mono ?_); (rintro e w8 ⟨rfl, hB⟩; have hB_8 : Below w7.heap.size w7 w8 := (bl.next hB); have K_8 := K_7.next hB_8; have cK_8_0 : _ = some (Value.int .i64 53) := K_8.cell 0; have cK_8_1 : _ = some (Value.int .i64 (-1074)) := K_8.cell 1; have cK_8_2 : _ = some (Value.int .i64 971) := K_8.cell 2; have N_8 := N_7.below hB_8; have hd_8 := hd_7.below hB_8; have hbW_8 := hbW_7.next hB_8; have S_8 := S_7.below hB_8; have Q_8 := Q_7.below hB_8; have T_8 := T_7.below hB_8; have hbel_8 := hbel_7.next hB_8; have hsz_8 := hB_8.size; clear K_7 cK_7_0 cK_7_1 cK_7_2 N_7 hd_7 hbW_7 S_7 Q_7 T_7 hbel_7 hB_8; try clear hB))))
        have huv : Hid (uv (u / (v * 2 ^ D)) = u / (v * 2 ^ D) ∧ decide (u / (v * 2 ^ D) < two64) = true) := by
          have h5 := hQ1.out
          rw [hqX.out] at h5
          have h6 : u / (v * 2 ^ D) < two64 := Nat.lt_of_lt_of_le h5 (by decide)
          exact ⟨by unfold uv; first | (rw [if_pos h6]) | exact Nat.mod_eq_of_lt h6, decide_eq_true h6⟩
        have HUI := hid (fun W (a : Option Addr) (n c B : Nat) (h : Own B W a n c (lm (u / (v * 2 ^ D)))) => (uint_any h.rd).mono fun e w' h2 => (show e = Ending.returned (.tuple #[.int .u64 ((u / (v * 2 ^ D) : Nat) : Int), .bool true]) ∧ Below W.heap.size W w' by rw [val_lm] at h2; unfold RetUint at h2; rw [huv.out.1, huv.out.2] at h2; exact h2))
        go_wp2_with fail
        refine (HUI.out _ _ _ _ _ Q_8).mono ?_
        rintro e w9 ⟨rfl, hB⟩
        have hB_9 : Below w8.heap.size w8 w9 := (bl.next hB)
        have K_9 := K_8.next hB_9
        have cK_9_0 : _ = some (Value.int .i64 53) := K_9.cell 0
        have cK_9_1 : _ = some (Value.int .i64 (-1074)) := K_9.cell 1
        have cK_9_2 : _ = some (Value.int .i64 971) := K_9.cell 2
        have N_9 := N_8.below hB_9
        have hd_9 := hd_8.below hB_9
        have hbW_9 := hbW_8.next hB_9
        have S_9 := S_8.below hB_9
        have Q_9 := Q_8.below hB_9
        have T_9 := T_8.below hB_9
        have hbel_9 := hbel_8.next hB_9
        have hsz_9 := hB_9.size
        clear K_8 cK_8_0 cK_8_1 cK_8_2 N_8 hd_8 hbW_8 S_8 Q_8 T_8 hbel_8 hB_9
        try clear hB
        go_wp2_with fail
        refine (shR T_9.rd (by omega) (val_lm _) 1 (by omega)).mono ?_
        rintro e w10 ⟨wa, wn, wd, rfl, hO, hB⟩
        have hB_10 : Below w9.heap.size w9 w10 := (bl.next hB)
        have K_10 := K_9.next hB_10
        have cK_10_0 : _ = some (Value.int .i64 53) := K_10.cell 0
        have cK_10_1 : _ = some (Value.int .i64 (-1074)) := K_10.cell 1
        have cK_10_2 : _ = some (Value.int .i64 971) := K_10.cell 2
        have N_10 := N_9.below hB_10
        have hd_10 := hd_9.below hB_10
        have hbW_10 := hbW_9.next hB_10
        have S_10 := S_9.below hB_10
        have Q_10 := Q_9.below hB_10
        have T_10 := T_9.below hB_10
        have hbel_10 := hbel_9.next hB_10
        have hsz_10 := hB_10.size
        clear K_9 cK_9_0 cK_9_1 cK_9_2 N_9 hd_9 hbW_9 S_9 Q_9 T_9 hbel_9 hB_10
        have W2_10 := hO
        have ltW2 := hO.ltB
        clear hO
        try clear hB
        go_wp2_with fail
        go_wp2_with fail
        go_region_held3 (fun w' => w'.cell? ⟨w.heap.size, 0, none⟩ = some (Value.int .i64 53) ∧ w'.cell? ⟨w.heap.size, 1, none⟩ = some (Value.int .i64 (-1074)) ∧ w'.cell? ⟨w.heap.size, 2, none⟩ = some (Value.int .i64 971))
          (first | exact ⟨cK_10_0, cK_10_1, cK_10_2⟩ | exact ⟨cK_11_0, cK_11_1, cK_11_2⟩ | go_keep)
          (first
            | (go_at_call 55; ((with_reducible refine (cmp_b (k := cmpI (u % (v * 2 ^ D) * 2 ^ 1) (v * 2 ^ D)) (W2_10.below bl).rd (S_10.below bl).rd (by rw [val_lm, val_lm])).mono ?_); (rintro e w11 ⟨rfl, hB⟩; have hB_11 : Below w10.heap.size w10 w11 := (bl.next hB); have K_11 := K_10.next hB_11; have cK_11_0 : _ = some (Value.int .i64 53) := K_11.cell 0; have cK_11_1 : _ = some (Value.int .i64 (-1074)) := K_11.cell 1; have cK_11_2 : _ = some (Value.int .i64 971) := K_11.cell 2; have N_11 := N_10.below hB_11; have hd_11 := hd_10.below hB_11; have hbW_11 := hbW_10.next hB_11; have S_11 := S_10.below hB_11; have Q_11 := Q_10.below hB_11; have T_11 := T_10.below hB_11; have W2_11 := W2_10.below hB_11; have hbel_11 := hbel_10.next hB_11; have hsz_11 := hB_11.size; clear K_10 cK_10_0 cK_10_1 cK_10_2 N_10 hd_10 hbW_10 S_10 Q_10 T_10 W2_10 hbel_10 hB_11; try clear hB))))
        go_wp2
        have hR0 : decide ((0 : Int) < (rn : Int)) = decide (u % (v * 2 ^ D) ≠ 0) := by
          have h5 := hlen.out
          by_cases h6 : u % (v * 2 ^ D) = 0
          · rw [h6] at h5 ⊢; have h7 : rn = 0 := h5.symm; simp [h7]
          · have h7 : rn ≠ 0 := fun h => h6 (lm_eq_nil.1 (List.length_eq_zero_iff.1 (h5.trans h))); simp [h6]; omega
        refine bodyPost_ret (v := .tuple #[.int .u64 ((u / (v * 2 ^ D) : Nat) : Int), .int .i64 ((D : Int)), .bool (decide ((0 : Int) < (rn : Int))), .int .i64 (cmpI (u % (v * 2 ^ D) * 2 ^ 1) (v * 2 ^ D)), .bool (decide (971 < (D : Int)))]) (by simp [results, Tryd.results23, go_sem]) rfl ?_
        have h8 := cut_main (B := 53) (u := u) (v := v) (L := (-1074)) (M := 971) (E := (D : Int)) hvh.out (by decide) (by decide) (by decide) h1 h3 hQ1.out hQ2.out
        rw [hqX.out, hX.out, hY.out, ← hR0] at h8
        exact ⟨_, _, _, _, _, rfl, h8, hbel_11⟩

theorem cut_L {w : World} {s : Bool} {a b : Option Addr} {n c m d u v : Nat} {la lb : List Nat} (ha : Rd w a n c la) (hb : Rd w b m d lb) (hn : n ≤ 1000) (hm : m ≤ 1000) (hlu : val la = u) (hlv : dv (val lb) = v) : Calls Tryd.prog 23 #[.agg #[.int .i64 53, .int .i64 (-1074), .int .i64 971], .agg #[.bool s, .slice a n c, .slice b m d]] w (RetNC 53 (-1074) 971 u v w) := by
  have hv : v ≠ 0 := by have := dv_pos (val lb); omega
  by_cases hu : u = 0
  · exact cutz_L ha hb hn hm hlu hlv hv hu
  by_cases h1 : (1024 : Int) < (nb u : Int) - nb v
  · exact cutfar_L ha hb hn hm hlu hlv hv hu h1
  by_cases h2 : (nb u : Int) - nb v < -1076
  · exact cuttiny_L ha hb hn hm hlu hlv hv hu (by omega) h2
  · exact cutg_L ha hb hn hm hlu hlv hv hu (by omega) (by omega)

set_option maxRecDepth 100000 in
set_option maxHeartbeats 8000000 in
theorem cutz_S {w : World} {s : Bool} {a b : Option Addr} {n c m d u v : Nat} {la lb : List Nat} (ha : Rd w a n c la) (hb : Rd w b m d lb) (hn : n ≤ 1000) (hm : m ≤ 1000) (hlu : val la = u) (hlv : dv (val lb) = v) (hv : v ≠ 0) (hu : u = 0) :
    Calls Tryd.prog 23 #[.agg #[.int .i64 24, .int .i64 (-149), .int .i64 104], .agg #[.bool s, .slice a n c, .slice b m d]] w (RetNC 24 (-149) 104 u v w) := by
  have hub : nb u ≤ 32000 := by have h1 := nb_limP ha.lim; rw [ha.len, hlu] at h1; omega
  have hvb : nb v ≤ 32001 := by have h1 := nb_limP hb.lim; have h2 := nb_dv (val lb); rw [hb.len] at h1; rw [hlv] at h2; omega
  have hub' := hid hub
  have hvb' := hid hvb
  have huh := hid hu
  have hvh := hid hv
  have hlvh := hid hlv
  have hNN := hid (fun W (a : Option Addr) (n c : Nat) (h : Rd W a n c la) (hn : n ≤ 1000) => norm_any h (by omega))
  simp only [hlu] at hNN
  have hnl : Hid ((lm u).length ≤ 1000) := (by have h1 := length_lm_val ha.lim; rw [hlu, ha.len] at h1; exact Nat.le_trans h1 hn)
  have hnh := hid hn
  have hmh := hid hm
  clear hlu hlv hu hv hn hm hub hvb
  have hent := ent2 w #[Value.int .i64 24, Value.int .i64 (-149), Value.int .i64 104] #[Value.bool s, Value.slice a n c, Value.slice b m d] 53 27
  go_enter Tryd.func23, Tryd.ntmps23
  go_wp2_with fail
  generalize ((w.alloc (.cells #[Value.int .i64 24, Value.int .i64 (-149), Value.int .i64 104] 53)).alloc (.cells #[Value.bool s, Value.slice a n c, Value.slice b m d] 27)) = W0 at hent ⊢
  obtain ⟨K_0, R_0, hbel_0, hsz_0⟩ := hent
  have cK_0_0 : _ = some (Value.int .i64 24) := K_0.cell 0
  have cK_0_1 : _ = some (Value.int .i64 (-149)) := K_0.cell 1
  have cK_0_2 : _ = some (Value.int .i64 104) := K_0.cell 2
  have cR_0_0 : _ = some (Value.bool s) := R_0.cell 0
  have cR_0_1 : _ = some (Value.slice a n c) := R_0.cell 1
  have cR_0_2 : _ = some (Value.slice b m d) := R_0.cell 2
  have ha_0 := ha.below hbel_0
  clear ha
  have hb_0 := hb.below hbel_0
  clear hb
  go_wp2_with fail
  go_region_held3 (fun w' => w'.cell? ⟨w.heap.size + 1, 0, none⟩ = some (Value.bool s) ∧ w'.cell? ⟨w.heap.size + 1, 1, none⟩ = some (Value.slice a n c) ∧ w'.cell? ⟨w.heap.size + 1, 2, none⟩ = some (Value.slice b m d))
    (first | exact ⟨cR_0_0, cR_0_1, cR_0_2⟩ | exact ⟨cR_1_0, cR_1_1, cR_1_2⟩ | exact ⟨cR_2_0, cR_2_1, cR_2_2⟩ | go_keep)
    (first
      | (go_at_call 50; ((with_reducible refine (hNN.out _ _ _ _ (ha_0.below bl) hnh.out).mono ?_); (rintro e w1 ⟨na, nn, nc, rfl, hO, hB⟩; have hB_1 : Below W0.heap.size W0 w1 := (bl.next hB); have K_1 := K_0.next hB_1; have cK_1_0 : _ = some (Value.int .i64 24) := K_1.cell 0; have cK_1_1 : _ = some (Value.int .i64 (-149)) := K_1.cell 1; have cK_1_2 : _ = some (Value.int .i64 104) := K_1.cell 2; have R_1 := R_0.next hB_1; have cR_1_0 : _ = some (Value.bool s) := R_1.cell 0; have cR_1_1 : _ = some (Value.slice a n c) := R_1.cell 1; have cR_1_2 : _ = some (Value.slice b m d) := R_1.cell 2; have ha_1 := ha_0.below hB_1; have hb_1 := hb_0.below hB_1; have hbel_1 := hbel_0.next hB_1; have hsz_1 := hB_1.size; clear K_0 cK_0_0 cK_0_1 cK_0_2 R_0 cR_0_0 cR_0_1 cR_0_2 ha_0 hb_0 hbel_0 hB_1; have hnn := hid hO.len; have N_1 := hO; have ltN := hO.ltB; clear hO; try clear hB)))
      | (go_at_call 51; ((with_reducible refine (den_any (hb_1.below bl) hmh.out).mono ?_); (rintro e w2 ⟨db, dm, dd, dl, rfl, hR, hdl, hdm, hB⟩; have hB_2 : Below w1.heap.size w1 w2 := (bl.next hB); have K_2 := K_1.next hB_2; have cK_2_0 : _ = some (Value.int .i64 24) := K_2.cell 0; have cK_2_1 : _ = some (Value.int .i64 (-149)) := K_2.cell 1; have cK_2_2 : _ = some (Value.int .i64 104) := K_2.cell 2; have R_2 := R_1.next hB_2; have cR_2_0 : _ = some (Value.bool s) := R_2.cell 0; have cR_2_1 : _ = some (Value.slice a n c) := R_2.cell 1; have cR_2_2 : _ = some (Value.slice b m d) := R_2.cell 2; have ha_2 := ha_1.below hB_2; have hb_2 := hb_1.below hB_2; have N_2 := N_1.below hB_2; have hbel_2 := hbel_1.next hB_2; have hsz_2 := hB_2.size; clear K_1 cK_1_0 cK_1_1 cK_1_2 R_1 cR_1_0 cR_1_1 cR_1_2 ha_1 hb_1 N_1 hbel_1 hB_2; have hdlh := hid (hdl.trans hlvh.out); have hdmh := hid hdm; have hd_2 := hR; clear hR hdl hdm; try clear hB))))
  clear ha_2
  clear hb_2
  have hn1 : nn = 0 := by have h1 := hnn.out; rw [huh.out] at h1; exact h1.symm
  subst hn1
  go_wp2_with fail
  go_region_held3 (fun w' => w'.cell? ⟨w.heap.size, 0, none⟩ = some (Value.int .i64 24) ∧ w'.cell? ⟨w.heap.size, 1, none⟩ = some (Value.int .i64 (-149)) ∧ w'.cell? ⟨w.heap.size, 2, none⟩ = some (Value.int .i64 104))
    (first | exact ⟨cK_2_0, cK_2_1, cK_2_2⟩ | go_keep)
    (first
      | fail)
  go_wp2
  refine bodyPost_ret (v := .tuple #[.int .u64 0, .int .i64 (-149), .bool false, .int .i64 (-1), .bool false]) (by simp [results, Tryd.results23, go_sem]) rfl ?_
  exact ⟨0, _, _, _, _, rfl, by rw [huh.out]; exact cut_zero hvh.out (by decide) (by decide) (by decide), hbel_2.drew⟩

set_option maxRecDepth 100000 in
set_option maxHeartbeats 8000000 in
theorem cutfar_S {w : World} {s : Bool} {a b : Option Addr} {n c m d u v : Nat} {la lb : List Nat} (ha : Rd w a n c la) (hb : Rd w b m d lb) (hn : n ≤ 1000) (hm : m ≤ 1000) (hlu : val la = u) (hlv : dv (val lb) = v) (hv : v ≠ 0) (hu : u ≠ 0) (hs : (128 : Int) < (nb u : Int) - nb v) :
    Calls Tryd.prog 23 #[.agg #[.int .i64 24, .int .i64 (-149), .int .i64 104], .agg #[.bool s, .slice a n c, .slice b m d]] w (RetNC 24 (-149) 104 u v w) := by
  have hub : nb u ≤ 32000 := by have h1 := nb_limP ha.lim; rw [ha.len, hlu] at h1; omega
  have hvb : nb v ≤ 32001 := by have h1 := nb_limP hb.lim; have h2 := nb_dv (val lb); rw [hb.len] at h1; rw [hlv] at h2; omega
  have hub' := hid hub
  have hvb' := hid hvb
  have hup := nb_pos hu
  have hvp := nb_pos hv
  obtain ⟨P, hP⟩ : ∃ P : Int, (nb u : Int) = P := ⟨_, rfl⟩
  obtain ⟨Q, hQ⟩ : ∃ Q : Int, (nb v : Int) = Q := ⟨_, rfl⟩
  obtain ⟨S, hS⟩ : ∃ S : Int, P - Q = S := ⟨_, rfl⟩
  have hsh := hid hs
  rw [hP, hQ, hS] at hs
  have p0 : 1 ≤ P := by omega
  have p1 : P ≤ 40000 := by omega
  have q0 : 1 ≤ Q := by omega
  have q1 : Q ≤ 40000 := by omega
  have hPh := hid hP
  have hQh := hid hQ
  have d1 : decide (128 < S) = true := decide_eq_true (by omega)
  have hul : (lm u).length ≠ 0 := fun h => hu (lm_eq_nil.1 (List.length_eq_zero_iff.1 h))
  have hulh := hid hul
  clear hul
  have huh := hid hu
  have hvh := hid hv
  have hlvh := hid hlv
  have hNN := hid (fun W (a : Option Addr) (n c : Nat) (h : Rd W a n c la) (hn : n ≤ 1000) => norm_any h (by omega))
  simp only [hlu] at hNN
  have hnl : Hid ((lm u).length ≤ 1000) := (by have h1 := length_lm_val ha.lim; rw [hlu, ha.len] at h1; exact Nat.le_trans h1 hn)
  have hnh := hid hn
  have hmh := hid hm
  clear hlu hlv hu hv hn hm hub hvb hP hQ hup hvp hs
  have hent := ent2 w #[Value.int .i64 24, Value.int .i64 (-149), Value.int .i64 104] #[Value.bool s, Value.slice a n c, Value.slice b m d] 53 27
  go_enter Tryd.func23, Tryd.ntmps23
  go_wp2_with fail
  generalize ((w.alloc (.cells #[Value.int .i64 24, Value.int .i64 (-149), Value.int .i64 104] 53)).alloc (.cells #[Value.bool s, Value.slice a n c, Value.slice b m d] 27)) = W0 at hent ⊢
  obtain ⟨K_0, R_0, hbel_0, hsz_0⟩ := hent
  have cK_0_0 : _ = some (Value.int .i64 24) := K_0.cell 0
  have cK_0_1 : _ = some (Value.int .i64 (-149)) := K_0.cell 1
  have cK_0_2 : _ = some (Value.int .i64 104) := K_0.cell 2
  have cR_0_0 : _ = some (Value.bool s) := R_0.cell 0
  have cR_0_1 : _ = some (Value.slice a n c) := R_0.cell 1
  have cR_0_2 : _ = some (Value.slice b m d) := R_0.cell 2
  have ha_0 := ha.below hbel_0
  clear ha
  have hb_0 := hb.below hbel_0
  clear hb
  go_wp2_with fail
  go_region_held3 (fun w' => w'.cell? ⟨w.heap.size + 1, 0, none⟩ = some (Value.bool s) ∧ w'.cell? ⟨w.heap.size + 1, 1, none⟩ = some (Value.slice a n c) ∧ w'.cell? ⟨w.heap.size + 1, 2, none⟩ = some (Value.slice b m d))
    (first | exact ⟨cR_0_0, cR_0_1, cR_0_2⟩ | exact ⟨cR_1_0, cR_1_1, cR_1_2⟩ | exact ⟨cR_2_0, cR_2_1, cR_2_2⟩ | go_keep)
    (first
      | (go_at_call 50; ((with_reducible refine (hNN.out _ _ _ _ (ha_0.below bl) hnh.out).mono ?_); (rintro e w1 ⟨na, nn, nc, rfl, hO, hB⟩; have hB_1 : Below W0.heap.size W0 w1 := (bl.next hB); have K_1 := K_0.next hB_1; have cK_1_0 : _ = some (Value.int .i64 24) := K_1.cell 0; have cK_1_1 : _ = some (Value.int .i64 (-149)) := K_1.cell 1; have cK_1_2 : _ = some (Value.int .i64 104) := K_1.cell 2; have R_1 := R_0.next hB_1; have cR_1_0 : _ = some (Value.bool s) := R_1.cell 0; have cR_1_1 : _ = some (Value.slice a n c) := R_1.cell 1; have cR_1_2 : _ = some (Value.slice b m d) := R_1.cell 2; have ha_1 := ha_0.below hB_1; have hb_1 := hb_0.below hB_1; have hbel_1 := hbel_0.next hB_1; have hsz_1 := hB_1.size; clear K_0 cK_0_0 cK_0_1 cK_0_2 R_0 cR_0_0 cR_0_1 cR_0_2 ha_0 hb_0 hbel_0 hB_1; have hnn := hid hO.len; have N_1 := hO; have ltN := hO.ltB; clear hO; try clear hB)))
      | (go_at_call 51; ((with_reducible refine (den_any (hb_1.below bl) hmh.out).mono ?_); (rintro e w2 ⟨db, dm, dd, dl, rfl, hR, hdl, hdm, hB⟩; have hB_2 : Below w1.heap.size w1 w2 := (bl.next hB); have K_2 := K_1.next hB_2; have cK_2_0 : _ = some (Value.int .i64 24) := K_2.cell 0; have cK_2_1 : _ = some (Value.int .i64 (-149)) := K_2.cell 1; have cK_2_2 : _ = some (Value.int .i64 104) := K_2.cell 2; have R_2 := R_1.next hB_2; have cR_2_0 : _ = some (Value.bool s) := R_2.cell 0; have cR_2_1 : _ = some (Value.slice a n c) := R_2.cell 1; have cR_2_2 : _ = some (Value.slice b m d) := R_2.cell 2; have ha_2 := ha_1.below hB_2; have hb_2 := hb_1.below hB_2; have N_2 := N_1.below hB_2; have hbel_2 := hbel_1.next hB_2; have hsz_2 := hB_2.size; clear K_1 cK_1_0 cK_1_1 cK_1_2 R_1 cR_1_0 cR_1_1 cR_1_2 ha_1 hb_1 N_1 hbel_1 hB_2; have hdlh := hid (hdl.trans hlvh.out); have hdmh := hid hdm; have hd_2 := hR; clear hR hdl hdm; try clear hB))))
  clear ha_2
  clear hb_2
  have hn1 : nn ≠ 0 := fun h => hulh.out (hnn.out.trans h)
  have hn2 : nn ≤ 1000 := by have := hnn.out; have := hnl.out; omega
  have hz : ((nn : Int) == 0) = false := by simp; omega
  go_wp2_with fail
  refine (bits_b (k := P) N_2.rd (by omega) (by rw [val_lm]; exact hPh.out)).mono ?_
  rintro e w3 ⟨rfl, hB⟩
  have hB_3 : Below w2.heap.size w2 w3 := (bl.next hB)
  have K_3 := K_2.next hB_3
  have cK_3_0 : _ = some (Value.int .i64 24) := K_3.cell 0
  have cK_3_1 : _ = some (Value.int .i64 (-149)) := K_3.cell 1
  have cK_3_2 : _ = some (Value.int .i64 104) := K_3.cell 2
  have R_3 := R_2.next hB_3
  have cR_3_0 : _ = some (Value.bool s) := R_3.cell 0
  have cR_3_1 : _ = some (Value.slice a n c) := R_3.cell 1
  have cR_3_2 : _ = some (Value.slice b m d) := R_3.cell 2
  have N_3 := N_2.below hB_3
  have hd_3 := hd_2.below hB_3
  have hbel_3 := hbel_2.next hB_3
  have hsz_3 := hB_3.size
  clear K_2 cK_2_0 cK_2_1 cK_2_2 R_2 cR_2_0 cR_2_1 cR_2_2 N_2 hd_2 hbel_2 hB_3
  try clear hB
  go_wp2_with fail
  refine (bits_b (k := Q) hd_3 (by have := hdmh.out; omega) (by rw [hdlh.out]; exact hQh.out)).mono ?_
  rintro e w4 ⟨rfl, hB⟩
  have hB_4 : Below w3.heap.size w3 w4 := (bl.next hB)
  have K_4 := K_3.next hB_4
  have cK_4_0 : _ = some (Value.int .i64 24) := K_4.cell 0
  have cK_4_1 : _ = some (Value.int .i64 (-149)) := K_4.cell 1
  have cK_4_2 : _ = some (Value.int .i64 104) := K_4.cell 2
  have R_4 := R_3.next hB_4
  have cR_4_0 : _ = some (Value.bool s) := R_4.cell 0
  have cR_4_1 : _ = some (Value.slice a n c) := R_4.cell 1
  have cR_4_2 : _ = some (Value.slice b m d) := R_4.cell 2
  have N_4 := N_3.below hB_4
  have hd_4 := hd_3.below hB_4
  have hbel_4 := hbel_3.next hB_4
  have hsz_4 := hB_4.size
  clear K_3 cK_3_0 cK_3_1 cK_3_2 R_3 cR_3_0 cR_3_1 cR_3_2 N_3 hd_3 hbel_3 hB_4
  try clear hB
  go_wp2
  refine bodyPost_ret (v := .tuple #[.int .u64 0, .int .i64 0, .bool false, .int .i64 0, .bool true]) (by simp [results, Tryd.results23, go_sem]) rfl ?_
  exact ⟨0, _, _, _, _, rfl, cut_far huh.out hvh.out (by decide) (by decide) hsh.out, hbel_4⟩

set_option maxRecDepth 100000 in
set_option maxHeartbeats 8000000 in
theorem cuttiny_S {w : World} {s : Bool} {a b : Option Addr} {n c m d u v : Nat} {la lb : List Nat} (ha : Rd w a n c la) (hb : Rd w b m d lb) (hn : n ≤ 1000) (hm : m ≤ 1000) (hlu : val la = u) (hlv : dv (val lb) = v) (hv : v ≠ 0) (hu : u ≠ 0) (hs1 : (nb u : Int) - nb v ≤ 128) (hs : (nb u : Int) - nb v < -151) :
    Calls Tryd.prog 23 #[.agg #[.int .i64 24, .int .i64 (-149), .int .i64 104], .agg #[.bool s, .slice a n c, .slice b m d]] w (RetNC 24 (-149) 104 u v w) := by
  have hub : nb u ≤ 32000 := by have h1 := nb_limP ha.lim; rw [ha.len, hlu] at h1; omega
  have hvb : nb v ≤ 32001 := by have h1 := nb_limP hb.lim; have h2 := nb_dv (val lb); rw [hb.len] at h1; rw [hlv] at h2; omega
  have hub' := hid hub
  have hvb' := hid hvb
  have hup := nb_pos hu
  have hvp := nb_pos hv
  obtain ⟨P, hP⟩ : ∃ P : Int, (nb u : Int) = P := ⟨_, rfl⟩
  obtain ⟨Q, hQ⟩ : ∃ Q : Int, (nb v : Int) = Q := ⟨_, rfl⟩
  obtain ⟨S, hS⟩ : ∃ S : Int, P - Q = S := ⟨_, rfl⟩
  have hs1h := hid hs1
  rw [hP, hQ, hS] at hs1
  have hsh := hid hs
  rw [hP, hQ, hS] at hs
  have p0 : 1 ≤ P := by omega
  have p1 : P ≤ 40000 := by omega
  have q0 : 1 ≤ Q := by omega
  have q1 : Q ≤ 40000 := by omega
  have hPh := hid hP
  have hQh := hid hQ
  have d1 : decide (128 < S) = false := decide_eq_false (by omega)
  have d2 : decide (S < -151) = true := decide_eq_true (by omega)
  have hul : (lm u).length ≠ 0 := fun h => hu (lm_eq_nil.1 (List.length_eq_zero_iff.1 h))
  have hulh := hid hul
  clear hul
  have huh := hid hu
  have hvh := hid hv
  have hlvh := hid hlv
  have hNN := hid (fun W (a : Option Addr) (n c : Nat) (h : Rd W a n c la) (hn : n ≤ 1000) => norm_any h (by omega))
  simp only [hlu] at hNN
  have hnl : Hid ((lm u).length ≤ 1000) := (by have h1 := length_lm_val ha.lim; rw [hlu, ha.len] at h1; exact Nat.le_trans h1 hn)
  have hnh := hid hn
  have hmh := hid hm
  clear hlu hlv hu hv hn hm hub hvb hP hQ hup hvp hs1 hs
  have hent := ent2 w #[Value.int .i64 24, Value.int .i64 (-149), Value.int .i64 104] #[Value.bool s, Value.slice a n c, Value.slice b m d] 53 27
  go_enter Tryd.func23, Tryd.ntmps23
  go_wp2_with fail
  generalize ((w.alloc (.cells #[Value.int .i64 24, Value.int .i64 (-149), Value.int .i64 104] 53)).alloc (.cells #[Value.bool s, Value.slice a n c, Value.slice b m d] 27)) = W0 at hent ⊢
  obtain ⟨K_0, R_0, hbel_0, hsz_0⟩ := hent
  have cK_0_0 : _ = some (Value.int .i64 24) := K_0.cell 0
  have cK_0_1 : _ = some (Value.int .i64 (-149)) := K_0.cell 1
  have cK_0_2 : _ = some (Value.int .i64 104) := K_0.cell 2
  have cR_0_0 : _ = some (Value.bool s) := R_0.cell 0
  have cR_0_1 : _ = some (Value.slice a n c) := R_0.cell 1
  have cR_0_2 : _ = some (Value.slice b m d) := R_0.cell 2
  have ha_0 := ha.below hbel_0
  clear ha
  have hb_0 := hb.below hbel_0
  clear hb
  go_wp2_with fail
  go_region_held3 (fun w' => w'.cell? ⟨w.heap.size + 1, 0, none⟩ = some (Value.bool s) ∧ w'.cell? ⟨w.heap.size + 1, 1, none⟩ = some (Value.slice a n c) ∧ w'.cell? ⟨w.heap.size + 1, 2, none⟩ = some (Value.slice b m d))
    (first | exact ⟨cR_0_0, cR_0_1, cR_0_2⟩ | exact ⟨cR_1_0, cR_1_1, cR_1_2⟩ | exact ⟨cR_2_0, cR_2_1, cR_2_2⟩ | go_keep)
    (first
      | (go_at_call 50; ((with_reducible refine (hNN.out _ _ _ _ (ha_0.below bl) hnh.out).mono ?_); (rintro e w1 ⟨na, nn, nc, rfl, hO, hB⟩; have hB_1 : Below W0.heap.size W0 w1 := (bl.next hB); have K_1 := K_0.next hB_1; have cK_1_0 : _ = some (Value.int .i64 24) := K_1.cell 0; have cK_1_1 : _ = some (Value.int .i64 (-149)) := K_1.cell 1; have cK_1_2 : _ = some (Value.int .i64 104) := K_1.cell 2; have R_1 := R_0.next hB_1; have cR_1_0 : _ = some (Value.bool s) := R_1.cell 0; have cR_1_1 : _ = some (Value.slice a n c) := R_1.cell 1; have cR_1_2 : _ = some (Value.slice b m d) := R_1.cell 2; have ha_1 := ha_0.below hB_1; have hb_1 := hb_0.below hB_1; have hbel_1 := hbel_0.next hB_1; have hsz_1 := hB_1.size; clear K_0 cK_0_0 cK_0_1 cK_0_2 R_0 cR_0_0 cR_0_1 cR_0_2 ha_0 hb_0 hbel_0 hB_1; have hnn := hid hO.len; have N_1 := hO; have ltN := hO.ltB; clear hO; try clear hB)))
      | (go_at_call 51; ((with_reducible refine (den_any (hb_1.below bl) hmh.out).mono ?_); (rintro e w2 ⟨db, dm, dd, dl, rfl, hR, hdl, hdm, hB⟩; have hB_2 : Below w1.heap.size w1 w2 := (bl.next hB); have K_2 := K_1.next hB_2; have cK_2_0 : _ = some (Value.int .i64 24) := K_2.cell 0; have cK_2_1 : _ = some (Value.int .i64 (-149)) := K_2.cell 1; have cK_2_2 : _ = some (Value.int .i64 104) := K_2.cell 2; have R_2 := R_1.next hB_2; have cR_2_0 : _ = some (Value.bool s) := R_2.cell 0; have cR_2_1 : _ = some (Value.slice a n c) := R_2.cell 1; have cR_2_2 : _ = some (Value.slice b m d) := R_2.cell 2; have ha_2 := ha_1.below hB_2; have hb_2 := hb_1.below hB_2; have N_2 := N_1.below hB_2; have hbel_2 := hbel_1.next hB_2; have hsz_2 := hB_2.size; clear K_1 cK_1_0 cK_1_1 cK_1_2 R_1 cR_1_0 cR_1_1 cR_1_2 ha_1 hb_1 N_1 hbel_1 hB_2; have hdlh := hid (hdl.trans hlvh.out); have hdmh := hid hdm; have hd_2 := hR; clear hR hdl hdm; try clear hB))))
  clear ha_2
  clear hb_2
  have hn1 : nn ≠ 0 := fun h => hulh.out (hnn.out.trans h)
  have hn2 : nn ≤ 1000 := by have := hnn.out; have := hnl.out; omega
  have hz : ((nn : Int) == 0) = false := by simp; omega
  go_wp2_with fail
  refine (bits_b (k := P) N_2.rd (by omega) (by rw [val_lm]; exact hPh.out)).mono ?_
  rintro e w3 ⟨rfl, hB⟩
  have hB_3 : Below w2.heap.size w2 w3 := (bl.next hB)
  have K_3 := K_2.next hB_3
  have cK_3_0 : _ = some (Value.int .i64 24) := K_3.cell 0
  have cK_3_1 : _ = some (Value.int .i64 (-149)) := K_3.cell 1
  have cK_3_2 : _ = some (Value.int .i64 104) := K_3.cell 2
  have R_3 := R_2.next hB_3
  have cR_3_0 : _ = some (Value.bool s) := R_3.cell 0
  have cR_3_1 : _ = some (Value.slice a n c) := R_3.cell 1
  have cR_3_2 : _ = some (Value.slice b m d) := R_3.cell 2
  have N_3 := N_2.below hB_3
  have hd_3 := hd_2.below hB_3
  have hbel_3 := hbel_2.next hB_3
  have hsz_3 := hB_3.size
  clear K_2 cK_2_0 cK_2_1 cK_2_2 R_2 cR_2_0 cR_2_1 cR_2_2 N_2 hd_2 hbel_2 hB_3
  try clear hB
  go_wp2_with fail
  refine (bits_b (k := Q) hd_3 (by have := hdmh.out; omega) (by rw [hdlh.out]; exact hQh.out)).mono ?_
  rintro e w4 ⟨rfl, hB⟩
  have hB_4 : Below w3.heap.size w3 w4 := (bl.next hB)
  have K_4 := K_3.next hB_4
  have cK_4_0 : _ = some (Value.int .i64 24) := K_4.cell 0
  have cK_4_1 : _ = some (Value.int .i64 (-149)) := K_4.cell 1
  have cK_4_2 : _ = some (Value.int .i64 104) := K_4.cell 2
  have R_4 := R_3.next hB_4
  have cR_4_0 : _ = some (Value.bool s) := R_4.cell 0
  have cR_4_1 : _ = some (Value.slice a n c) := R_4.cell 1
  have cR_4_2 : _ = some (Value.slice b m d) := R_4.cell 2
  have N_4 := N_3.below hB_4
  have hd_4 := hd_3.below hB_4
  have hbel_4 := hbel_3.next hB_4
  have hsz_4 := hB_4.size
  clear K_3 cK_3_0 cK_3_1 cK_3_2 R_3 cR_3_0 cR_3_1 cR_3_2 N_3 hd_3 hbel_3 hB_4
  try clear hB
  go_wp2_with fail
  go_region_held3 (fun w' => w'.cell? ⟨w.heap.size, 0, none⟩ = some (Value.int .i64 24) ∧ w'.cell? ⟨w.heap.size, 1, none⟩ = some (Value.int .i64 (-149)) ∧ w'.cell? ⟨w.heap.size, 2, none⟩ = some (Value.int .i64 104))
    (first | exact ⟨cK_4_0, cK_4_1, cK_4_2⟩ | go_keep)
    (first
      | fail)
  go_wp2
  refine bodyPost_ret (v := .tuple #[.int .u64 0, .int .i64 (-149), .bool true, .int .i64 (-1), .bool false]) (by simp [results, Tryd.results23, go_sem]) rfl ?_
  exact ⟨0, _, _, _, _, rfl, cut_tiny huh.out hvh.out (by decide) (by decide) (by decide) hsh.out, hbel_4.drew⟩

set_option maxRecDepth 100000 in
set_option maxHeartbeats 8000000 in
theorem cutg_S {w : World} {s : Bool} {a b : Option Addr} {n c m d u v : Nat} {la lb : List Nat} (ha : Rd w a n c la) (hb : Rd w b m d lb) (hn : n ≤ 1000) (hm : m ≤ 1000) (hlu : val la = u) (hlv : dv (val lb) = v) (hv : v ≠ 0) (hu : u ≠ 0) (hs1 : (nb u : Int) - nb v ≤ 128) (hs2 : -151 ≤ (nb u : Int) - nb v) :
    Calls Tryd.prog 23 #[.agg #[.int .i64 24, .int .i64 (-149), .int .i64 104], .agg #[.bool s, .slice a n c, .slice b m d]] w (RetNC 24 (-149) 104 u v w) := by
  have hub : nb u ≤ 32000 := by have h1 := nb_limP ha.lim; rw [ha.len, hlu] at h1; omega
  have hvb : nb v ≤ 32001 := by have h1 := nb_limP hb.lim; have h2 := nb_dv (val lb); rw [hb.len] at h1; rw [hlv] at h2; omega
  have hub' := hid hub
  have hvb' := hid hvb
  have hup := nb_pos hu
  have hvp := nb_pos hv
  obtain ⟨P, hP⟩ : ∃ P : Int, (nb u : Int) = P := ⟨_, rfl⟩
  obtain ⟨Q, hQ⟩ : ∃ Q : Int, (nb v : Int) = Q := ⟨_, rfl⟩
  obtain ⟨S, hS⟩ : ∃ S : Int, P - Q = S := ⟨_, rfl⟩
  have hs1h := hid hs1
  rw [hP, hQ, hS] at hs1
  have hs2h := hid hs2
  rw [hP, hQ, hS] at hs2
  have p0 : 1 ≤ P := by omega
  have p1 : P ≤ 40000 := by omega
  have q0 : 1 ≤ Q := by omega
  have q1 : Q ≤ 40000 := by omega
  have hPh := hid hP
  have hQh := hid hQ
  have d1 : decide (128 < S) = false := decide_eq_false (by omega)
  have d2 : decide (S < -151) = false := decide_eq_false (by omega)
  have hul : (lm u).length ≠ 0 := fun h => hu (lm_eq_nil.1 (List.length_eq_zero_iff.1 h))
  have hulh := hid hul
  clear hul
  have huh := hid hu
  have hvh := hid hv
  have hlvh := hid hlv
  have hNN := hid (fun W (a : Option Addr) (n c : Nat) (h : Rd W a n c la) (hn : n ≤ 1000) => norm_any h (by omega))
  simp only [hlu] at hNN
  have hnl : Hid ((lm u).length ≤ 1000) := (by have h1 := length_lm_val ha.lim; rw [hlu, ha.len] at h1; exact Nat.le_trans h1 hn)
  have hnh := hid hn
  have hmh := hid hm
  clear hlu hlv hu hv hn hm hub hvb hP hQ hup hvp
  have hent := ent2 w #[Value.int .i64 24, Value.int .i64 (-149), Value.int .i64 104] #[Value.bool s, Value.slice a n c, Value.slice b m d] 53 27
  go_enter Tryd.func23, Tryd.ntmps23
  go_wp2_with fail
  generalize ((w.alloc (.cells #[Value.int .i64 24, Value.int .i64 (-149), Value.int .i64 104] 53)).alloc (.cells #[Value.bool s, Value.slice a n c, Value.slice b m d] 27)) = W0 at hent ⊢
  obtain ⟨K_0, R_0, hbel_0, hsz_0⟩ := hent
  have cK_0_0 : _ = some (Value.int .i64 24) := K_0.cell 0
  have cK_0_1 : _ = some (Value.int .i64 (-149)) := K_0.cell 1
  have cK_0_2 : _ = some (Value.int .i64 104) := K_0.cell 2
  have cR_0_0 : _ = some (Value.bool s) := R_0.cell 0
  have cR_0_1 : _ = some (Value.slice a n c) := R_0.cell 1
  have cR_0_2 : _ = some (Value.slice b m d) := R_0.cell 2
  have ha_0 := ha.below hbel_0
  clear ha
  have hb_0 := hb.below hbel_0
  clear hb
  go_wp2_with fail
  go_region_held3 (fun w' => w'.cell? ⟨w.heap.size + 1, 0, none⟩ = some (Value.bool s) ∧ w'.cell? ⟨w.heap.size + 1, 1, none⟩ = some (Value.slice a n c) ∧ w'.cell? ⟨w.heap.size + 1, 2, none⟩ = some (Value.slice b m d))
    (first | exact ⟨cR_0_0, cR_0_1, cR_0_2⟩ | exact ⟨cR_1_0, cR_1_1, cR_1_2⟩ | exact ⟨cR_2_0, cR_2_1, cR_2_2⟩ | go_keep)
    (first
      | (go_at_call 50; ((with_reducible refine (hNN.out _ _ _ _ (ha_0.below bl) hnh.out).mono ?_); (rintro e w1 ⟨na, nn, nc, rfl, hO, hB⟩; have hB_1 : Below W0.heap.size W0 w1 := (bl.next hB); have K_1 := K_0.next hB_1; have cK_1_0 : _ = some (Value.int .i64 24) := K_1.cell 0; have cK_1_1 : _ = some (Value.int .i64 (-149)) := K_1.cell 1; have cK_1_2 : _ = some (Value.int .i64 104) := K_1.cell 2; have R_1 := R_0.next hB_1; have cR_1_0 : _ = some (Value.bool s) := R_1.cell 0; have cR_1_1 : _ = some (Value.slice a n c) := R_1.cell 1; have cR_1_2 : _ = some (Value.slice b m d) := R_1.cell 2; have ha_1 := ha_0.below hB_1; have hb_1 := hb_0.below hB_1; have hbel_1 := hbel_0.next hB_1; have hsz_1 := hB_1.size; clear K_0 cK_0_0 cK_0_1 cK_0_2 R_0 cR_0_0 cR_0_1 cR_0_2 ha_0 hb_0 hbel_0 hB_1; have hnn := hid hO.len; have N_1 := hO; have ltN := hO.ltB; clear hO; try clear hB)))
      | (go_at_call 51; ((with_reducible refine (den_any (hb_1.below bl) hmh.out).mono ?_); (rintro e w2 ⟨db, dm, dd, dl, rfl, hR, hdl, hdm, hB⟩; have hB_2 : Below w1.heap.size w1 w2 := (bl.next hB); have K_2 := K_1.next hB_2; have cK_2_0 : _ = some (Value.int .i64 24) := K_2.cell 0; have cK_2_1 : _ = some (Value.int .i64 (-149)) := K_2.cell 1; have cK_2_2 : _ = some (Value.int .i64 104) := K_2.cell 2; have R_2 := R_1.next hB_2; have cR_2_0 : _ = some (Value.bool s) := R_2.cell 0; have cR_2_1 : _ = some (Value.slice a n c) := R_2.cell 1; have cR_2_2 : _ = some (Value.slice b m d) := R_2.cell 2; have ha_2 := ha_1.below hB_2; have hb_2 := hb_1.below hB_2; have N_2 := N_1.below hB_2; have hbel_2 := hbel_1.next hB_2; have hsz_2 := hB_2.size; clear K_1 cK_1_0 cK_1_1 cK_1_2 R_1 cR_1_0 cR_1_1 cR_1_2 ha_1 hb_1 N_1 hbel_1 hB_2; have hdlh := hid (hdl.trans hlvh.out); have hdmh := hid hdm; have hd_2 := hR; clear hR hdl hdm; try clear hB))))
  clear ha_2
  clear hb_2
  have hn1 : nn ≠ 0 := fun h => hulh.out (hnn.out.trans h)
  have hn2 : nn ≤ 1000 := by have := hnn.out; have := hnl.out; omega
  have hz : ((nn : Int) == 0) = false := by simp; omega
  go_wp2_with fail
  refine (bits_b (k := P) N_2.rd (by omega) (by rw [val_lm]; exact hPh.out)).mono ?_
  rintro e w3 ⟨rfl, hB⟩
  have hB_3 : Below w2.heap.size w2 w3 := (bl.next hB)
  have K_3 := K_2.next hB_3
  have cK_3_0 : _ = some (Value.int .i64 24) := K_3.cell 0
  have cK_3_1 : _ = some (Value.int .i64 (-149)) := K_3.cell 1
  have cK_3_2 : _ = some (Value.int .i64 104) := K_3.cell 2
  have R_3 := R_2.next hB_3
  have cR_3_0 : _ = some (Value.bool s) := R_3.cell 0
  have cR_3_1 : _ = some (Value.slice a n c) := R_3.cell 1
  have cR_3_2 : _ = some (Value.slice b m d) := R_3.cell 2
  have N_3 := N_2.below hB_3
  have hd_3 := hd_2.below hB_3
  have hbel_3 := hbel_2.next hB_3
  have hsz_3 := hB_3.size
  clear K_2 cK_2_0 cK_2_1 cK_2_2 R_2 cR_2_0 cR_2_1 cR_2_2 N_2 hd_2 hbel_2 hB_3
  try clear hB
  go_wp2_with fail
  refine (bits_b (k := Q) hd_3 (by have := hdmh.out; omega) (by rw [hdlh.out]; exact hQh.out)).mono ?_
  rintro e w4 ⟨rfl, hB⟩
  have hB_4 : Below w3.heap.size w3 w4 := (bl.next hB)
  have K_4 := K_3.next hB_4
  have cK_4_0 : _ = some (Value.int .i64 24) := K_4.cell 0
  have cK_4_1 : _ = some (Value.int .i64 (-149)) := K_4.cell 1
  have cK_4_2 : _ = some (Value.int .i64 104) := K_4.cell 2
  have R_4 := R_3.next hB_4
  have cR_4_0 : _ = some (Value.bool s) := R_4.cell 0
  have cR_4_1 : _ = some (Value.slice a n c) := R_4.cell 1
  have cR_4_2 : _ = some (Value.slice b m d) := R_4.cell 2
  have N_4 := N_3.below hB_4
  have hd_4 := hd_3.below hB_4
  have hbel_4 := hbel_3.next hB_4
  have hsz_4 := hB_4.size
  clear K_3 cK_3_0 cK_3_1 cK_3_2 R_3 cR_3_0 cR_3_1 cR_3_2 N_3 hd_3 hbel_3 hB_4
  try clear hB
  go_wp2_with fail
  have hdd := hid hd_4
  obtain ⟨W1, hW1⟩ : ∃ y : World, y = w4 := ⟨_, rfl⟩
  subst hW1
  go_loopw [5] (fun ev wr => ∃ E : Int, ev = .int .i64 E ∧ (-149) ≤ E ∧ S - 25 ≤ E ∧ E ≤ 1000 ∧ (E = (-149) ∨ Hid (2 ^ 24 ≤ ctQ u v (E - 1))) ∧ Below W1.heap.size W1 wr) (fun ev _ => (1000 - intOf ev).toNat)
  case atStart =>
    obtain ⟨E, hE⟩ : ∃ E : Int, E = max (S - 25) (-149) := ⟨_, rfl⟩
    refine ⟨E, ?_, by omega, by omega, by omega, ?_, Below.refl _ _⟩
    · first | (rw [hE]; rfl) | (rw [hE]; congr 1; omega) | (congr 1; omega)
    · by_cases h : E = (-149)
      · exact .inl h
      · exact .inr (ct_begin huh.out hvh.out (by rw [hPh.out, hQh.out, hS]; omega))
  case round =>
    obtain ⟨E, rfl, h1, h2, h3, h4, hBW⟩ := hrel
    have K_5 := K_4.next hBW
    have N_5 := N_4.below hBW
    have hd_5 := hdd.out.below hBW
    have hbel_5 := hbel_4.next hBW
    have hsz_5 := hBW.size
    have hbW_5 := hBW
    have cK_5_0 : _ = some (Value.int .i64 24) := K_5.cell 0
    have cK_5_1 : _ = some (Value.int .i64 (-149)) := K_5.cell 1
    have cK_5_2 : _ = some (Value.int .i64 104) := K_5.cell 2
    by_cases hE : E < 0
    · obtain ⟨D, rfl⟩ : ∃ D : Nat, E = -(D : Int) := ⟨(-E).toNat, by omega⟩
      have hX := hid (show ctX u (-(D : Int)) = u * 2 ^ D by unfold ctX; rw [if_pos hE, Int.neg_neg, Int.toNat_natCast])
      have hY := hid (show ctY v (-(D : Int)) = v from if_pos hE)
      have hY0 := hvh
      have hXl : Hid ((lm (u * 2 ^ D)).length ≤ 2000) := len_mul2 (by have := hub'.out; omega)
      go_wp2_with fail
      refine (shR N_5.rd (by omega) (val_lm _) D (by omega)).mono ?_
      rintro e w6 ⟨sa, sn, sc, rfl, hO, hB⟩
      have hB_6 : Below wr.heap.size wr w6 := (bl.next hB)
      have K_6 := K_5.next hB_6
      have cK_6_0 : _ = some (Value.int .i64 24) := K_6.cell 0
      have cK_6_1 : _ = some (Value.int .i64 (-149)) := K_6.cell 1
      have cK_6_2 : _ = some (Value.int .i64 104) := K_6.cell 2
      have N_6 := N_5.below hB_6
      have hd_6 := hd_5.below hB_6
      have hbW_6 := hbW_5.next hB_6
      have hbel_6 := hbel_5.next hB_6
      have hsz_6 := hB_6.size
      clear K_5 cK_5_0 cK_5_1 cK_5_2 N_5 hd_5 hbW_5 hbel_5 hB_6
      have S_6 := hO
      have ltS := hO.ltB
      have hsn : sn ≤ 2000 := by have h5 := hO.len; have h6 := hXl.out; omega
      clear hO
      try clear hB
      go_wp2_with fail
      refine (divg S_6.rd (val_lm _) hd_6 hdlh.out hY0.out (by omega)).mono ?_
      rintro e w7 ⟨qa, qn, qc, ra, rn, rc, rfl, hO, hO', hD, hB⟩
      have hB_7 : Below w6.heap.size w6 w7 := (bl.next hB)
      have K_7 := K_6.next hB_7
      have cK_7_0 : _ = some (Value.int .i64 24) := K_7.cell 0
      have cK_7_1 : _ = some (Value.int .i64 (-149)) := K_7.cell 1
      have cK_7_2 : _ = some (Value.int .i64 104) := K_7.cell 2
      have N_7 := N_6.below hB_7
      have hd_7 := hd_6.below hB_7
      have hbW_7 := hbW_6.next hB_7
      have S_7 := S_6.below hB_7
      have hbel_7 := hbel_6.next hB_7
      have hsz_7 := hB_7.size
      clear K_6 cK_6_0 cK_6_1 cK_6_2 N_6 hd_6 hbW_6 S_6 hbel_6 hB_7
      have Q_7 := hO
      have ltQ := hO.ltB
      have T_7 := hO'
      have ltT := hO'.ltB
      have hlen := hid hO'.len
      have hqn : qn ≤ 2000 := by have h5 := hO.len; have h6 := len_mono (Nat.div_le_self (u * 2 ^ D) v) hXl.out; omega
      have hrn : rn ≤ 2000 := by have h5 := hO'.len; have h6 := len_mono (Nat.mod_le (u * 2 ^ D) v) hXl.out; omega
      clear hO hO' hD
      try clear hB
      go_wp2_with fail
      obtain ⟨Bq, hBq⟩ : ∃ z : Int, (nb (u * 2 ^ D / v) : Int) = z := ⟨_, rfl⟩
      have hBqh := hid hBq
      have hqX := hid (show ctQ u v (-(D : Int)) = u * 2 ^ D / v by unfold ctQ; rw [hX.out, hY.out])
      by_cases hbig : 24 < Bq
      · have hdb : decide (24 < Bq) = true := decide_eq_true hbig
        have hQ53 : 2 ^ 24 ≤ ctQ u v (-(D : Int)) := by rw [hqX.out]; exact nb_gt.1 (by omega)
        have hE2 : -(D : Int) < S - 23 := by
          refine Int.not_le.1 fun h => ?_
          have h5 := ct_end (B := 24) (e := -(D : Int)) huh.out hvh.out (by rw [hPh.out, hQh.out, hS]; omega)
          omega
        have hQh3 := hid hQ53
        clear hQ53 hBq
        go_wp2_with fail
        go_region_held3 (fun w' => w'.cell? ⟨w.heap.size, 0, none⟩ = some (Value.int .i64 24) ∧ w'.cell? ⟨w.heap.size, 1, none⟩ = some (Value.int .i64 (-149)) ∧ w'.cell? ⟨w.heap.size, 2, none⟩ = some (Value.int .i64 104))
          (first | exact ⟨cK_7_0, cK_7_1, cK_7_2⟩ | exact ⟨cK_8_0, cK_8_1, cK_8_2⟩ | go_keep)
          (first
            | (go_at_call 52; ((with_reducible refine (bits_b (k := Bq) (Q_7.below bl).rd (by omega) (by rw [val_lm]; exact hBqh.out)).mono ?_); (rintro e w8 ⟨rfl, hB⟩; have hB_8 : Below w7.heap.size w7 w8 := (bl.next hB); have K_8 := K_7.next hB_8; have cK_8_0 : _ = some (Value.int .i64 24) := K_8.cell 0; have cK_8_1 : _ = some (Value.int .i64 (-149)) := K_8.cell 1; have cK_8_2 : _ = some (Value.int .i64 104) := K_8.cell 2; have N_8 := N_7.below hB_8; have hd_8 := hd_7.below hB_8; have hbW_8 := hbW_7.next hB_8; have S_8 := S_7.below hB_8; have Q_8 := Q_7.below hB_8; have T_8 := T_7.below hB_8; have hbel_8 := hbel_7.next hB_8; have hsz_8 := hB_8.size; clear K_7 cK_7_0 cK_7_1 cK_7_2 N_7 hd_7 hbW_7 S_7 Q_7 T_7 hbel_7 hB_8; try clear hB))))
        go_wp2
        go_roundw
        case rel => exact ⟨-(D : Int) + 1, by go_num, by omega, by omega, by omega, .inr (by rw [show -(D : Int) + 1 - 1 = -(D : Int) by omega]; exact hQh3), hbW_8⟩
        case measure => simp [intOf]; omega
      · have hds : decide (24 < Bq) = false := decide_eq_false hbig
        have hQ53 : ctQ u v (-(D : Int)) < 2 ^ 24 := by rw [hqX.out]; exact nb_le.1 (by omega)
        have hQlo : -(D : Int) = (-149) ∨ 2 ^ 23 ≤ ctQ u v (-(D : Int)) := by
          rcases h4 with h4 | h4
          · exact .inl h4
          · right; have h5 := ct_full (B := 23) (e := -(D : Int) - 1) (Nat.pos_of_ne_zero hvh.out) h4; rwa [show -(D : Int) - 1 + 1 = -(D : Int) by omega] at h5
        have hQ1 := hid hQ53
        have hQ2 := hid hQlo
        clear hQ53 hQlo hBq h4
        go_wp2_with fail
        go_region_held3 (fun w' => w'.cell? ⟨w.heap.size, 0, none⟩ = some (Value.int .i64 24) ∧ w'.cell? ⟨w.heap.size, 1, none⟩ = some (Value.int .i64 (-149)) ∧ w'.cell? ⟨w.heap.size, 2, none⟩ = some (Value.int .i64 104))
          (first | exact ⟨cK_7_0, cK_7_1, cK_7_2⟩ | exact ⟨cK_8_0, cK_8_1, cK_8_2⟩ | go_keep)
          (first
            | (go_at_call 52; ((with_reducible refine (bits_b (k := Bq) (Q_7.below bl).rd (by omega) (by rw [val_lm]; exact hBqh.out)).mono ?_); (rintro e w8 ⟨rfl, hB⟩; have hB_8 : Below w7.heap.size w7 w8 := (bl.next hB); have K_8 := K_7.next hB_8; have cK_8_0 : _ = some (Value.int .i64 24) := K_8.cell 0; have cK_8_1 : _ = some (Value.int .i64 (-149)) := K_8.cell 1; have cK_8_2 : _ = some (Value.int .i64 104) := K_8.cell 2; have N_8 := N_7.below hB_8; have hd_8 := hd_7.below hB_8; have hbW_8 := hbW_7.next hB_8; have S_8 := S_7.below hB_8; have Q_8 := Q_7.below hB_8; have T_8 := T_7.below hB_8; have hbel_8 := hbel_7.next hB_8; have hsz_8 := hB_8.size; clear K_7 cK_7_0 cK_7_1 cK_7_2 N_7 hd_7 hbW_7 S_7 Q_7 T_7 hbel_7 hB_8; try clear hB))))
        have huv : Hid (uv (u * 2 ^ D / v) = u * 2 ^ D / v ∧ decide (u * 2 ^ D / v < two64) = true) := by
          have h5 := hQ1.out
          rw [hqX.out] at h5
          have h6 : u * 2 ^ D / v < two64 := Nat.lt_of_lt_of_le h5 (by decide)
          exact ⟨by unfold uv; first | (rw [if_pos h6]) | exact Nat.mod_eq_of_lt h6, decide_eq_true h6⟩
        have HUI := hid (fun W (a : Option Addr) (n c B : Nat) (h : Own B W a n c (lm (u * 2 ^ D / v))) => (uint_any h.rd).mono fun e w' h2 => (show e = Ending.returned (.tuple #[.int .u64 ((u * 2 ^ D / v : Nat) : Int), .bool true]) ∧ Below W.heap.size W w' by rw [val_lm] at h2; unfold RetUint at h2; rw [huv.out.1, huv.out.2] at h2; exact h2))
        go_wp2_with fail
        refine (HUI.out _ _ _ _ _ Q_8).mono ?_
        rintro e w9 ⟨rfl, hB⟩
        have hB_9 : Below w8.heap.size w8 w9 := (bl.next hB)
        have K_9 := K_8.next hB_9
        have cK_9_0 : _ = some (Value.int .i64 24) := K_9.cell 0
        have cK_9_1 : _ = some (Value.int .i64 (-149)) := K_9.cell 1
        have cK_9_2 : _ = some (Value.int .i64 104) := K_9.cell 2
        have N_9 := N_8.below hB_9
        have hd_9 := hd_8.below hB_9
        have hbW_9 := hbW_8.next hB_9
        have S_9 := S_8.below hB_9
        have Q_9 := Q_8.below hB_9
        have T_9 := T_8.below hB_9
        have hbel_9 := hbel_8.next hB_9
        have hsz_9 := hB_9.size
        clear K_8 cK_8_0 cK_8_1 cK_8_2 N_8 hd_8 hbW_8 S_8 Q_8 T_8 hbel_8 hB_9
        try clear hB
        go_wp2_with fail
        refine (shR T_9.rd (by omega) (val_lm _) 1 (by omega)).mono ?_
        rintro e w10 ⟨wa, wn, wd, rfl, hO, hB⟩
        have hB_10 : Below w9.heap.size w9 w10 := (bl.next hB)
        have K_10 := K_9.next hB_10
        have cK_10_0 : _ = some (Value.int .i64 24) := K_10.cell 0
        have cK_10_1 : _ = some (Value.int .i64 (-149)) := K_10.cell 1
        have cK_10_2 : _ = some (Value.int .i64 104) := K_10.cell 2
        have N_10 := N_9.below hB_10
        have hd_10 := hd_9.below hB_10
        have hbW_10 := hbW_9.next hB_10
        have S_10 := S_9.below hB_10
        have Q_10 := Q_9.below hB_10
        have T_10 := T_9.below hB_10
        have hbel_10 := hbel_9.next hB_10
        have hsz_10 := hB_10.size
        clear K_9 cK_9_0 cK_9_1 cK_9_2 N_9 hd_9 hbW_9 S_9 Q_9 T_9 hbel_9 hB_10
        have W2_10 := hO
        have ltW2 := hO.ltB
        clear hO
        try clear hB
        go_wp2_with fail
        go_wp2_with fail
        go_region_held3 (fun w' => w'.cell? ⟨w.heap.size, 0, none⟩ = some (Value.int .i64 24) ∧ w'.cell? ⟨w.heap.size, 1, none⟩ = some (Value.int .i64 (-149)) ∧ w'.cell? ⟨w.heap.size, 2, none⟩ = some (Value.int .i64 104))
          (first | exact ⟨cK_10_0, cK_10_1, cK_10_2⟩ | exact ⟨cK_11_0, cK_11_1, cK_11_2⟩ | go_keep)
          (first
            | (go_at_call 55; ((with_reducible refine (cmp_b (k := cmpI (u * 2 ^ D % v * 2 ^ 1) v) (W2_10.below bl).rd (hd_10.below bl) (by rw [val_lm, hdlh.out])).mono ?_); (rintro e w11 ⟨rfl, hB⟩; have hB_11 : Below w10.heap.size w10 w11 := (bl.next hB); have K_11 := K_10.next hB_11; have cK_11_0 : _ = some (Value.int .i64 24) := K_11.cell 0; have cK_11_1 : _ = some (Value.int .i64 (-149)) := K_11.cell 1; have cK_11_2 : _ = some (Value.int .i64 104) := K_11.cell 2; have N_11 := N_10.below hB_11; have hd_11 := hd_10.below hB_11; have hbW_11 := hbW_10.next hB_11; have S_11 := S_10.below hB_11; have Q_11 := Q_10.below hB_11; have T_11 := T_10.below hB_11; have W2_11 := W2_10.below hB_11; have hbel_11 := hbel_10.next hB_11; have hsz_11 := hB_11.size; clear K_10 cK_10_0 cK_10_1 cK_10_2 N_10 hd_10 hbW_10 S_10 Q_10 T_10 W2_10 hbel_10 hB_11; try clear hB))))
        go_wp2
        have hR0 : decide ((0 : Int) < (rn : Int)) = decide (u * 2 ^ D % v ≠ 0) := by
          have h5 := hlen.out
          by_cases h6 : u * 2 ^ D % v = 0
          · rw [h6] at h5 ⊢; have h7 : rn = 0 := h5.symm; simp [h7]
          · have h7 : rn ≠ 0 := fun h => h6 (lm_eq_nil.1 (List.length_eq_zero_iff.1 (h5.trans h))); simp [h6]; omega
        refine bodyPost_ret (v := .tuple #[.int .u64 ((u * 2 ^ D / v : Nat) : Int), .int .i64 (-(D : Int)), .bool (decide ((0 : Int) < (rn : Int))), .int .i64 (cmpI (u * 2 ^ D % v * 2 ^ 1) v), .bool (decide (104 < -(D : Int)))]) (by simp [results, Tryd.results23, go_sem]) rfl ?_
        have h8 := cut_main (B := 24) (u := u) (v := v) (L := (-149)) (M := 104) (E := -(D : Int)) hvh.out (by decide) (by decide) (by decide) h1 h3 hQ1.out hQ2.out
        rw [hqX.out, hX.out, hY.out, ← hR0] at h8
        exact ⟨_, _, _, _, _, rfl, h8, hbel_11⟩
    · obtain ⟨D, rfl⟩ : ∃ D : Nat, E = (D : Int) := ⟨E.toNat, by omega⟩
      have hX := hid (show ctX u (D : Int) = u from if_neg hE)
      have hY := hid (show ctY v (D : Int) = v * 2 ^ D by unfold ctY; rw [if_neg hE, Int.toNat_natCast])
      have hY0 : Hid (v * 2 ^ D ≠ 0) := Nat.mul_ne_zero hvh.out (Nat.ne_of_gt (Nat.pow_pos (by decide)))
      have hXl : Hid ((lm u).length ≤ 2000) := Nat.le_trans hnl.out (by decide)
      have hdE : decide ((D : Int) < 0) = false := decide_eq_false hE
      go_wp2_with fail
      refine (shR hd_5 (by have := hdmh.out; omega) hdlh.out D (by omega)).mono ?_
      rintro e w6 ⟨sa, sn, sc, rfl, hO, hB⟩
      have hB_6 : Below wr.heap.size wr w6 := (bl.next hB)
      have K_6 := K_5.next hB_6
      have cK_6_0 : _ = some (Value.int .i64 24) := K_6.cell 0
      have cK_6_1 : _ = some (Value.int .i64 (-149)) := K_6.cell 1
      have cK_6_2 : _ = some (Value.int .i64 104) := K_6.cell 2
      have N_6 := N_5.below hB_6
      have hd_6 := hd_5.below hB_6
      have hbW_6 := hbW_5.next hB_6
      have hbel_6 := hbel_5.next hB_6
      have hsz_6 := hB_6.size
      clear K_5 cK_5_0 cK_5_1 cK_5_2 N_5 hd_5 hbW_5 hbel_5 hB_6
      have S_6 := hO
      have ltS := hO.ltB
      clear hO
      try clear hB
      go_wp2_with fail
      refine (divg N_6.rd (val_lm _) S_6.rd (val_lm _) hY0.out (by omega)).mono ?_
      rintro e w7 ⟨qa, qn, qc, ra, rn, rc, rfl, hO, hO', hD, hB⟩
      have hB_7 : Below w6.heap.size w6 w7 := (bl.next hB)
      have K_7 := K_6.next hB_7
      have cK_7_0 : _ = some (Value.int .i64 24) := K_7.cell 0
      have cK_7_1 : _ = some (Value.int .i64 (-149)) := K_7.cell 1
      have cK_7_2 : _ = some (Value.int .i64 104) := K_7.cell 2
      have N_7 := N_6.below hB_7
      have hd_7 := hd_6.below hB_7
      have hbW_7 := hbW_6.next hB_7
      have S_7 := S_6.below hB_7
      have hbel_7 := hbel_6.next hB_7
      have hsz_7 := hB_7.size
      clear K_6 cK_6_0 cK_6_1 cK_6_2 N_6 hd_6 hbW_6 S_6 hbel_6 hB_7
      have Q_7 := hO
      have ltQ := hO.ltB
      have T_7 := hO'
      have ltT := hO'.ltB
      have hlen := hid hO'.len
      have hqn : qn ≤ 2000 := by have h5 := hO.len; have h6 := len_mono (Nat.div_le_self (u) (v * 2 ^ D)) hXl.out; omega
      have hrn : rn ≤ 2000 := by have h5 := hO'.len; have h6 := len_mono (Nat.mod_le (u) (v * 2 ^ D)) hXl.out; omega
      clear hO hO' hD
      try clear hB
      go_wp2_with fail
      obtain ⟨Bq, hBq⟩ : ∃ z : Int, (nb (u / (v * 2 ^ D)) : Int) = z := ⟨_, rfl⟩
      have hBqh := hid hBq
      have hqX := hid (show ctQ u v ((D : Int)) = u / (v * 2 ^ D) by unfold ctQ; rw [hX.out, hY.out])
      by_cases hbig : 24 < Bq
      · have hdb : decide (24 < Bq) = true := decide_eq_true hbig
        have hQ53 : 2 ^ 24 ≤ ctQ u v ((D : Int)) := by rw [hqX.out]; exact nb_gt.1 (by omega)
        have hE2 : (D : Int) < S - 23 := by
          refine Int.not_le.1 fun h => ?_
          have h5 := ct_end (B := 24) (e := (D : Int)) huh.out hvh.out (by rw [hPh.out, hQh.out, hS]; omega)
          omega
        have hQh3 := hid hQ53
        clear hQ53 hBq
        go_wp2_with fail
        go_region_held3 (fun w' => w'.cell? ⟨w.heap.size, 0, none⟩ = some (Value.int .i64 24) ∧ w'.cell? ⟨w.heap.size, 1, none⟩ = some (Value.int .i64 (-149)) ∧ w'.cell? ⟨w.heap.size, 2, none⟩ = some (Value.int .i64 104))
          (first | exact ⟨cK_7_0, cK_7_1, cK_7_2⟩ | exact ⟨cK_8_0, cK_8_1, cK_8_2⟩ | go_keep)
          (first
            | (go_at_call 52; ((with_reducible refine (bits_b (k := Bq) (Q_7.below bl).rd (by omega) (by rw [val_lm]; exact hBqh.out)).mono ?_); (rintro e w8 ⟨rfl, hB⟩; have hB_8 : Below w7.heap.size w7 w8 := (bl.next hB); have K_8 := K_7.next hB_8; have cK_8_0 : _ = some (Value.int .i64 24) := K_8.cell 0; have cK_8_1 : _ = some (Value.int .i64 (-149)) := K_8.cell 1; have cK_8_2 : _ = some (Value.int .i64 104) := K_8.cell 2; have N_8 := N_7.below hB_8; have hd_8 := hd_7.below hB_8; have hbW_8 := hbW_7.next hB_8; have S_8 := S_7.below hB_8; have Q_8 := Q_7.below hB_8; have T_8 := T_7.below hB_8; have hbel_8 := hbel_7.next hB_8; have hsz_8 := hB_8.size; clear K_7 cK_7_0 cK_7_1 cK_7_2 N_7 hd_7 hbW_7 S_7 Q_7 T_7 hbel_7 hB_8; try clear hB))))
        go_wp2
        go_roundw
        case rel => exact ⟨(D : Int) + 1, by go_num, by omega, by omega, by omega, .inr (by rw [show (D : Int) + 1 - 1 = (D : Int) by omega]; exact hQh3), hbW_8⟩
        case measure => simp [intOf]; omega
      · have hds : decide (24 < Bq) = false := decide_eq_false hbig
        have hQ53 : ctQ u v ((D : Int)) < 2 ^ 24 := by rw [hqX.out]; exact nb_le.1 (by omega)
        have hQlo : (D : Int) = (-149) ∨ 2 ^ 23 ≤ ctQ u v ((D : Int)) := by
          rcases h4 with h4 | h4
          · exact .inl h4
          · right; have h5 := ct_full (B := 23) (e := (D : Int) - 1) (Nat.pos_of_ne_zero hvh.out) h4; rwa [show (D : Int) - 1 + 1 = (D : Int) by omega] at h5
        have hQ1 := hid hQ53
        have hQ2 := hid hQlo
        clear hQ53 hQlo hBq h4
        go_wp2_with fail
        go_region_held3 (fun w' => w'.cell? ⟨w.heap.size, 0, none⟩ = some (Value.int .i64 24) ∧ w'.cell? ⟨w.heap.size, 1, none⟩ = some (Value.int .i64 (-149)) ∧ w'.cell? ⟨w.heap.size, 2, none⟩ = some (Value.int .i64 104))
          (first | exact ⟨cK_7_0, cK_7_1, cK_7_2⟩ | exact ⟨cK_8_0, cK_8_1, cK_8_2⟩ | go_keep)
          (first
            | (go_at_call 52; ((with_reducible refine (bits_b (k := Bq) (Q_7.below bl).rd (by omega) (by rw [val_lm]; exact hBqh.out)).mono ?_); (rintro e w8 ⟨rfl, hB⟩; have hB_8 : Below w7.heap.size w7 w8 := (bl.next hB); have K_8 := K_7.next hB_8; have cK_8_0 : _ = some (Value.int .i64 24) := K_8.cell 0; have cK_8_1 : _ = some (Value.int .i64 (-149)) := K_8.cell 1; have cK_8_2 : _ = some (Value.int .i64 104) := K_8.cell 2; have N_8 := N_7.below hB_8; have hd_8 := hd_7.below hB_8; have hbW_8 := hbW_7.next hB_8; have S_8 := S_7.below hB_8; have Q_8 := Q_7.below hB_8; have T_8 := T_7.below hB_8; have hbel_8 := hbel_7.next hB_8; have hsz_8 := hB_8.size; clear K_7 cK_7_0 cK_7_1 cK_7_2 N_7 hd_7 hbW_7 S_7 Q_7 T_7 hbel_7 hB_8; try clear hB))))
        have huv : Hid (uv (u / (v * 2 ^ D)) = u / (v * 2 ^ D) ∧ decide (u / (v * 2 ^ D) < two64) = true) := by
          have h5 := hQ1.out
          rw [hqX.out] at h5
          have h6 : u / (v * 2 ^ D) < two64 := Nat.lt_of_lt_of_le h5 (by decide)
          exact ⟨by unfold uv; first | (rw [if_pos h6]) | exact Nat.mod_eq_of_lt h6, decide_eq_true h6⟩
        have HUI := hid (fun W (a : Option Addr) (n c B : Nat) (h : Own B W a n c (lm (u / (v * 2 ^ D)))) => (uint_any h.rd).mono fun e w' h2 => (show e = Ending.returned (.tuple #[.int .u64 ((u / (v * 2 ^ D) : Nat) : Int), .bool true]) ∧ Below W.heap.size W w' by rw [val_lm] at h2; unfold RetUint at h2; rw [huv.out.1, huv.out.2] at h2; exact h2))
        go_wp2_with fail
        refine (HUI.out _ _ _ _ _ Q_8).mono ?_
        rintro e w9 ⟨rfl, hB⟩
        have hB_9 : Below w8.heap.size w8 w9 := (bl.next hB)
        have K_9 := K_8.next hB_9
        have cK_9_0 : _ = some (Value.int .i64 24) := K_9.cell 0
        have cK_9_1 : _ = some (Value.int .i64 (-149)) := K_9.cell 1
        have cK_9_2 : _ = some (Value.int .i64 104) := K_9.cell 2
        have N_9 := N_8.below hB_9
        have hd_9 := hd_8.below hB_9
        have hbW_9 := hbW_8.next hB_9
        have S_9 := S_8.below hB_9
        have Q_9 := Q_8.below hB_9
        have T_9 := T_8.below hB_9
        have hbel_9 := hbel_8.next hB_9
        have hsz_9 := hB_9.size
        clear K_8 cK_8_0 cK_8_1 cK_8_2 N_8 hd_8 hbW_8 S_8 Q_8 T_8 hbel_8 hB_9
        try clear hB
        go_wp2_with fail
        refine (shR T_9.rd (by omega) (val_lm _) 1 (by omega)).mono ?_
        rintro e w10 ⟨wa, wn, wd, rfl, hO, hB⟩
        have hB_10 : Below w9.heap.size w9 w10 := (bl.next hB)
        have K_10 := K_9.next hB_10
        have cK_10_0 : _ = some (Value.int .i64 24) := K_10.cell 0
        have cK_10_1 : _ = some (Value.int .i64 (-149)) := K_10.cell 1
        have cK_10_2 : _ = some (Value.int .i64 104) := K_10.cell 2
        have N_10 := N_9.below hB_10
        have hd_10 := hd_9.below hB_10
        have hbW_10 := hbW_9.next hB_10
        have S_10 := S_9.below hB_10
        have Q_10 := Q_9.below hB_10
        have T_10 := T_9.below hB_10
        have hbel_10 := hbel_9.next hB_10
        have hsz_10 := hB_10.size
        clear K_9 cK_9_0 cK_9_1 cK_9_2 N_9 hd_9 hbW_9 S_9 Q_9 T_9 hbel_9 hB_10
        have W2_10 := hO
        have ltW2 := hO.ltB
        clear hO
        try clear hB
        go_wp2_with fail
        go_wp2_with fail
        go_region_held3 (fun w' => w'.cell? ⟨w.heap.size, 0, none⟩ = some (Value.int .i64 24) ∧ w'.cell? ⟨w.heap.size, 1, none⟩ = some (Value.int .i64 (-149)) ∧ w'.cell? ⟨w.heap.size, 2, none⟩ = some (Value.int .i64 104))
          (first | exact ⟨cK_10_0, cK_10_1, cK_10_2⟩ | exact ⟨cK_11_0, cK_11_1, cK_11_2⟩ | go_keep)
          (first
            | (go_at_call 55; ((with_reducible refine (cmp_b (k := cmpI (u % (v * 2 ^ D) * 2 ^ 1) (v * 2 ^ D)) (W2_10.below bl).rd (S_10.below bl).rd (by rw [val_lm, val_lm])).mono ?_); (rintro e w11 ⟨rfl, hB⟩; have hB_11 : Below w10.heap.size w10 w11 := (bl.next hB); have K_11 := K_10.next hB_11; have cK_11_0 : _ = some (Value.int .i64 24) := K_11.cell 0; have cK_11_1 : _ = some (Value.int .i64 (-149)) := K_11.cell 1; have cK_11_2 : _ = some (Value.int .i64 104) := K_11.cell 2; have N_11 := N_10.below hB_11; have hd_11 := hd_10.below hB_11; have hbW_11 := hbW_10.next hB_11; have S_11 := S_10.below hB_11; have Q_11 := Q_10.below hB_11; have T_11 := T_10.below hB_11; have W2_11 := W2_10.below hB_11; have hbel_11 := hbel_10.next hB_11; have hsz_11 := hB_11.size; clear K_10 cK_10_0 cK_10_1 cK_10_2 N_10 hd_10 hbW_10 S_10 Q_10 T_10 W2_10 hbel_10 hB_11; try clear hB))))
        go_wp2
        have hR0 : decide ((0 : Int) < (rn : Int)) = decide (u % (v * 2 ^ D) ≠ 0) := by
          have h5 := hlen.out
          by_cases h6 : u % (v * 2 ^ D) = 0
          · rw [h6] at h5 ⊢; have h7 : rn = 0 := h5.symm; simp [h7]
          · have h7 : rn ≠ 0 := fun h => h6 (lm_eq_nil.1 (List.length_eq_zero_iff.1 (h5.trans h))); simp [h6]; omega
        refine bodyPost_ret (v := .tuple #[.int .u64 ((u / (v * 2 ^ D) : Nat) : Int), .int .i64 ((D : Int)), .bool (decide ((0 : Int) < (rn : Int))), .int .i64 (cmpI (u % (v * 2 ^ D) * 2 ^ 1) (v * 2 ^ D)), .bool (decide (104 < (D : Int)))]) (by simp [results, Tryd.results23, go_sem]) rfl ?_
        have h8 := cut_main (B := 24) (u := u) (v := v) (L := (-149)) (M := 104) (E := (D : Int)) hvh.out (by decide) (by decide) (by decide) h1 h3 hQ1.out hQ2.out
        rw [hqX.out, hX.out, hY.out, ← hR0] at h8
        exact ⟨_, _, _, _, _, rfl, h8, hbel_11⟩

theorem cut_S {w : World} {s : Bool} {a b : Option Addr} {n c m d u v : Nat} {la lb : List Nat} (ha : Rd w a n c la) (hb : Rd w b m d lb) (hn : n ≤ 1000) (hm : m ≤ 1000) (hlu : val la = u) (hlv : dv (val lb) = v) : Calls Tryd.prog 23 #[.agg #[.int .i64 24, .int .i64 (-149), .int .i64 104], .agg #[.bool s, .slice a n c, .slice b m d]] w (RetNC 24 (-149) 104 u v w) := by
  have hv : v ≠ 0 := by have := dv_pos (val lb); omega
  by_cases hu : u = 0
  · exact cutz_S ha hb hn hm hlu hlv hv hu
  by_cases h1 : (128 : Int) < (nb u : Int) - nb v
  · exact cutfar_S ha hb hn hm hlu hlv hv hu h1
  by_cases h2 : (nb u : Int) - nb v < -151
  · exact cuttiny_S ha hb hn hm hlu hlv hv hu (by omega) h2
  · exact cutg_S ha hb hn hm hlu hlv hv hu (by omega) (by omega)

end Go.Proofs.YtoeldbdcbfgmoaaDoor
/- WALKS OF FLOATS: near.round, Nearest, Single, Around of any fraction. -/
namespace Go.Proofs.YtoeldbdcbfgmoaaDoor
set_option linter.unusedVariables false
set_option linter.unusedSimpArgs false
open Go.ChangeShapes Go.WideShapes Go.ChangeAt Go.RowKit Go.NatP Go.FloatP

def RetRnd (B : Nat) (L M : Int) (s : Bool) (u v : Nat) (w : World) (e : Ending) (w' : World) : Prop :=
  ∃ (m : Nat) (E : Int) (more : Bool) (half : Int) (far : Bool), e = .returned (.float .f64 (sb s (rndR m E half far))) ∧ CutOK B L M u v m E more half far ∧ Below w.heap.size w w'
def RetArn (s : Bool) (u v : Nat) (w : World) (e : Ending) (w' : World) : Prop :=
  ∃ r t : Nat, e = .returned (.tuple #[.float .f64 (if s = true then sb true t else r), .float .f64 (if s = true then sb true r else t)]) ∧ Arnd (u * 2 ^ E74) v r t ∧ Below w.heap.size w w'
theorem and_one (m : Nat) (h : m < 9007199254740992) : bits BinOp.and IntKind.u64 (m : Int) 1 = ((m % 2 : Nat) : Int) := by
  have h := bits_and_u64_nat m 1 (by omega) (by omega)
  rw [show (1 : Nat) = 2 ^ 1 - 1 by decide, and_low] at h
  exact h
theorem sgn_ge {s : Bool} {u : Nat} : decide (0 ≤ sgn (zv s u)) = !(s && decide (u ≠ 0)) := by
  by_cases h : u = 0
  · rw [sgn_zero h]; simp [h]
  · cases s
    · rw [sgn_pos h]; simp
    · rw [sgn_neg h]; simp [h]
theorem sgn_lt {s : Bool} {u : Nat} : decide (sgn (zv s u) < 0) = (s && decide (u ≠ 0)) := by
  by_cases h : u = 0
  · rw [sgn_zero h]; simp [h]
  · cases s
    · rw [sgn_pos h]; simp
    · rw [sgn_neg h]; simp [h]
set_option maxRecDepth 100000 in
theorem run_flN1 (m : Nat) (w : World) : (convert 50 28 (.int .u64 ((m : Int) + 1))).run Tryd.prog w = .ok (.float .f64 (flN (m + 1))) w := by
  have h := run_flN (m + 1) w
  rwa [Int.natCast_succ] at h
theorem sb_it : sb true 9218868437227405312 = 18442240474082181120 := by unfold sb; rw [if_pos ⟨rfl, by omega⟩]
theorem sb_if : sb false 9218868437227405312 = 9218868437227405312 := by unfold sb; rw [if_neg (by simp)]
theorem sb_it' : sb true 9218868437227405311 = 18442240474082181119 := by unfold sb; rw [if_pos ⟨rfl, by omega⟩]
theorem from_inf : ∀ w, Sem.run Tryd.prog (callFunc 32 #[Value.int .u64 9218868437227405312]) w = .ok (.value (.float .f64 9218868437227405312)) w := f64from 9218868437227405312
set_option maxRecDepth 100000 in
theorem inf_pos {w : World} : Calls Tryd.prog 25 #[.int .i64 1] w fun e w' => e = .returned (.float .f64 9218868437227405312) ∧ Below w.heap.size w w' := by
  have hf := from_inf
  go_enter Tryd.func25, Tryd.ntmps25
  go_wp2
  go_ret
  exact ⟨rfl, Below.refl _ _⟩

theorem sbt {t : Nat} (h : t ≠ 0) : sb true t = 9223372036854775808 + t := by unfold sb; exact if_pos ⟨rfl, h⟩
theorem sb0 : sb true 0 = 0 := by unfold sb; exact if_neg (by simp)
theorem rnd_false (q : Nat) (E half : Int) : rndR q E half false = ldR (rup q half) E := by unfold rndR; exact if_neg (by decide)
theorem rnd_true (q : Nat) (E half : Int) : rndR q E half true = 9218868437227405312 := by unfold rndR; exact if_pos rfl
theorem arR_f (q : Nat) (E : Int) : arR q E false = ldR q E := by unfold arR; exact if_neg (by decide)
theorem arR_t (q : Nat) (E : Int) : arR q E true = 9218868437227405311 := by unfold arR; exact if_pos rfl
theorem arT_t (q : Nat) (E : Int) (m : Bool) : arT q E m true = 9218868437227405312 := by unfold arT; exact if_pos rfl
theorem arT_ff (q : Nat) (E : Int) : arT q E false false = ldR q E := by unfold arT; rw [if_neg (by decide), if_neg (by decide)]
theorem arT_tf (q : Nat) (E : Int) : arT q E true false = ldR (q + 1) E := by unfold arT; rw [if_neg (by decide), if_pos rfl]
theorem arnd_pos {u v r t : Nat} (hv : v ≠ 0) (hu : u ≠ 0) (h : Arnd (u * 2 ^ E74) v r t) : t ≠ 0 := by
  rcases h with ⟨rfl, _, h⟩ | ⟨rfl, _, _⟩
  · intro h0
    subst h0
    rw [show fg 0 = 0 from rfl, Nat.zero_mul] at h
    have := Nat.mul_pos (Nat.pos_of_ne_zero hu) (Nat.pow_pos (n := E74) (show 0 < 2 by decide))
    omega
  · omega
theorem arn_pos {s : Bool} {u v r t : Nat} (hv : v ≠ 0) (hn : ¬ (s = true ∧ u ≠ 0)) (h : Arnd (u * 2 ^ E74) v r t) :
    Ending.returned (.tuple #[.float .f64 (if s = true then sb true t else r), .float .f64 (if s = true then sb true r else t)]) = .returned (.tuple #[.float .f64 r, .float .f64 t]) := by
  cases s
  · rfl
  · have hu : u = 0 := by
      by_cases h0 : u = 0
      · exact h0
      · exact absurd ⟨rfl, h0⟩ hn
    subst hu
    have h2 : r = 0 ∧ t = 0 := by
      rw [Nat.zero_mul] at h
      rcases h with ⟨rfl, _, h⟩ | ⟨_, _, h, _⟩
      · rcases Nat.mul_eq_zero.1 h with h | h
        · have : t = 0 := by
            rcases Nat.eq_zero_or_pos t with h1 | h1
            · exact h1
            · have := fg_lt_iff.2 h1; have : fg 0 = 0 := rfl; omega
          exact ⟨this, this⟩
        · exact absurd h hv
      · omega
    rw [h2.1, h2.2]
    rfl

/-- the two kinds' variables, as the program's text lays them -/
structure Lng (w : World) : Prop where
  a : w.cell? ⟨0, 0, none⟩ = some (.int .i64 53)
  b : w.cell? ⟨0, 1, none⟩ = some (.int .i64 (-1074))
  c : w.cell? ⟨0, 2, none⟩ = some (.int .i64 971)
structure Sht (w : World) : Prop where
  a : w.cell? ⟨2, 0, none⟩ = some (.int .i64 24)
  b : w.cell? ⟨2, 1, none⟩ = some (.int .i64 (-149))
  c : w.cell? ⟨2, 2, none⟩ = some (.int .i64 104)
theorem Lng.below {w w' : World} (h : Lng w) (hB : Below w.heap.size w w') : Lng w' := by
  have hw := World.block_lt_of_cell? _ _ h.a
  exact ⟨(hB.cell (p := ⟨0, 0, none⟩) hw).trans h.a, (hB.cell (p := ⟨0, 1, none⟩) hw).trans h.b, (hB.cell (p := ⟨0, 2, none⟩) hw).trans h.c⟩
theorem Sht.below {w w' : World} (h : Sht w) (hB : Below w.heap.size w w') : Sht w' := by
  have hw := World.block_lt_of_cell? _ _ h.a
  exact ⟨(hB.cell (p := ⟨2, 0, none⟩) hw).trans h.a, (hB.cell (p := ⟨2, 1, none⟩) hw).trans h.b, (hB.cell (p := ⟨2, 2, none⟩) hw).trans h.c⟩

set_option maxRecDepth 100000 in
set_option maxHeartbeats 8000000 in
theorem round_L {w : World} {s : Bool} {a b : Option Addr} {n c m d u v : Nat} {la lb : List Nat} (ha : Rd w a n c la) (hb : Rd w b m d lb) (hn : n ≤ 1000) (hm : m ≤ 1000) (hlu : val la = u) (hlv : dv (val lb) = v) :
    Calls Tryd.prog 28 #[.agg #[.int .i64 53, .int .i64 (-1074), .int .i64 971], .agg #[.bool s, .slice a n c, .slice b m d]] w (RetRnd 53 (-1074) 971 s u v w) := by
  have hv : v ≠ 0 := by have := dv_pos (val lb); omega
  have hvh := hid hv
  have hluh := hid hlu
  have hlvh := hid hlv
  have hnh := hid hn
  have hmh := hid hm
  clear hv hlu hlv hn hm
  have hent := ent2 w #[Value.int .i64 53, Value.int .i64 (-1074), Value.int .i64 971] #[Value.bool s, Value.slice a n c, Value.slice b m d] 53 27
  go_enter Tryd.func28, Tryd.ntmps28
  go_wp2_with fail
  generalize ((w.alloc (.cells #[Value.int .i64 53, Value.int .i64 (-1074), Value.int .i64 971] 53)).alloc (.cells #[Value.bool s, Value.slice a n c, Value.slice b m d] 27)) = W0 at hent ⊢
  obtain ⟨K_0, R_0, hbel_0, hsz_0⟩ := hent
  have cK_0_0 : _ = some (Value.int .i64 53) := K_0.cell 0
  have cK_0_1 : _ = some (Value.int .i64 (-1074)) := K_0.cell 1
  have cK_0_2 : _ = some (Value.int .i64 971) := K_0.cell 2
  have cR_0_0 : _ = some (Value.bool s) := R_0.cell 0
  have cR_0_1 : _ = some (Value.slice a n c) := R_0.cell 1
  have cR_0_2 : _ = some (Value.slice b m d) := R_0.cell 2
  have ha_0 := ha.below hbel_0
  clear ha
  have hb_0 := hb.below hbel_0
  clear hb
  go_wp2_with fail
  refine (cut_L ha_0 hb_0 hnh.out hmh.out hluh.out hlvh.out).mono ?_
  rintro e w1 ⟨q, E, more, half, far, rfl, hC, hB⟩
  have hB_1 : Below W0.heap.size W0 w1 := (bl.next hB)
  have K_1 := K_0.next hB_1
  have cK_1_0 : _ = some (Value.int .i64 53) := K_1.cell 0
  have cK_1_1 : _ = some (Value.int .i64 (-1074)) := K_1.cell 1
  have cK_1_2 : _ = some (Value.int .i64 971) := K_1.cell 2
  have R_1 := R_0.next hB_1
  have cR_1_0 : _ = some (Value.bool s) := R_1.cell 0
  have cR_1_1 : _ = some (Value.slice a n c) := R_1.cell 1
  have cR_1_2 : _ = some (Value.slice b m d) := R_1.cell 2
  have ha_1 := ha_0.below hB_1
  have hb_1 := hb_0.below hB_1
  have hbel_1 := hbel_0.next hB_1
  have hsz_1 := hB_1.size
  clear K_0 cK_0_0 cK_0_1 cK_0_2 R_0 cR_0_0 cR_0_1 cR_0_2 ha_0 hb_0 hbel_0 hB_1
  have hCh := hid hC
  have hq : q < 9007199254740992 := Nat.lt_of_lt_of_le hC.bits (by decide)
  have hE1 : -1074 ≤ E := Int.le_trans (by decide) hC.lo
  have hE2 : E ≤ 1000 := hC.hi
  clear hC
  try clear hB
  clear hb_1
  clear cK_1_0 cK_1_1 cK_1_2 K_1
  have hpl : Hid (rup q half ≤ 9007199254740992) := rup_le hq
  go_upto_region 2 with fail
  obtain ⟨W1, hW1⟩ : ∃ y : World, y = w1 := ⟨_, rfl⟩
  subst hW1
  obtain ⟨U, hU⟩ : ∃ U : Bool, decide (0 < half ∨ (half = 0 ∧ q % 2 = 1)) = U := ⟨_, rfl⟩
  have hUh := hid hU
  clear hU
  go_cut [30] (fun s30 wx => s30 = .bool U ∧ W1 = wx)
  case first =>
    have hev := and_one q hq
    by_cases h1 : 0 < half
    · have d1 : decide (0 < half) = true := decide_eq_true h1
      have hUt := hid (show true = U by rw [← hUh.out]; symm; exact decide_eq_true (by omega))
      clear h1
      go_wp2_with fail
      go_meet
      exact ⟨congrArg Value.bool hUt.out, rfl⟩
    · have d1 : decide (0 < half) = false := decide_eq_false h1
      by_cases h2 : half = 0
      · have d2 : (half == 0) = true := by simp [h2]
        by_cases h3 : q % 2 = 1
        · have d3 : (bits BinOp.and IntKind.u64 (q : Int) 1 == 1) = true := by rw [hev, h3]; rfl
          have hUt := hid (show true = U by rw [← hUh.out]; symm; exact decide_eq_true (by omega))
          clear h1 h2 h3 hev
          go_wp2_with fail
          go_meet
          exact ⟨congrArg Value.bool hUt.out, rfl⟩
        · have d3 : (bits BinOp.and IntKind.u64 (q : Int) 1 == 1) = false := by rw [hev, show q % 2 = 0 by omega]; rfl
          have hUt := hid (show false = U by rw [← hUh.out]; symm; exact decide_eq_false (by omega))
          clear h1 h2 h3 hev
          go_wp2_with fail
          go_meet
          exact ⟨congrArg Value.bool hUt.out, rfl⟩
      · have d2 : (half == 0) = false := by simp [h2]
        have hUt := hid (show false = U by rw [← hUh.out]; symm; exact decide_eq_false (by omega))
        clear h1 h2 hev
        go_wp2_with fail
        go_meet
        exact ⟨congrArg Value.bool hUt.out, rfl⟩
  case rest =>
    obtain ⟨rfl, hwc⟩ := hcut
    subst hwc
    go_upto_if 30 with fail
    go_cut [5] (fun s5 wx => s5 = .int .u64 ((rup q half : Nat) : Int) ∧ W1 = wx)
    case first =>
      cases U
      · have hup := hid (show rup q half = q from if_neg (of_decide_eq_false hUh.out))
        go_wp2_with fail
        go_meet
        exact ⟨(by rw [hup.out]), rfl⟩
      · have hup := hid (show rup q half = q + 1 from if_pos (of_decide_eq_true hUh.out))
        go_wp2_with fail
        go_meet
        exact ⟨(by rw [hup.out]; rfl), rfl⟩
    case rest =>
      obtain ⟨rfl, hwc⟩ := hcut
      subst hwc
      obtain ⟨p, hp⟩ : ∃ p, rup q half = p := ⟨_, rfl⟩
      rw [hp] at hpl ⊢
      have hph := hid hp
      clear hp
      have hcv := run_flN p
      have HL := hid (fun w => Ldexp_b (w := w) (m := p) (e := E) hpl.out hE1 (by omega))
      have hyl : Hid (ldR p E ≤ 9218868437227405312) := ldR_le hpl.out hE1
      obtain ⟨y, hy⟩ : ∃ y, ldR p E = y := ⟨_, rfl⟩
      rw [hy] at HL hyl
      have hyh := hid hy
      clear hy hq hE1 hE2
      go_wp2_with fail
      refine (HL.out _).mono ?_
      rintro e w2 ⟨rfl, hB⟩
      have hB_2 : Below W1.heap.size W1 w2 := (bl.next hB)
      have R_2 := R_1.next hB_2
      have cR_2_0 : _ = some (Value.bool s) := R_2.cell 0
      have cR_2_1 : _ = some (Value.slice a n c) := R_2.cell 1
      have cR_2_2 : _ = some (Value.slice b m d) := R_2.cell 2
      have ha_2 := ha_1.below hB_2
      have hbel_2 := hbel_1.next hB_2
      have hsz_2 := hB_2.size
      clear R_1 cR_1_0 cR_1_1 cR_1_2 ha_1 hbel_1 hB_2
      try clear hB
      cases far
      · have hrho : Hid (rndR q E half false = y) := (by rw [rnd_false, hph.out]; exact hyh.out)
        by_cases hy0 : y = 0
        · subst hy0
          have ho : (FloatKind.f64.format.order 0 0 != some .eq) = false := by decide +kernel
          go_wp2
          go_ret
          exact ⟨q, E, more, half, _, (by rw [hrho.out]; unfold sb; rw [if_neg (by simp)]; rfl), hCh.out, hbel_2⟩
        · have hp0 := hid hy0
          have hu0 : Hid (val la ≠ 0) := fun h => hy0 (hrho.out.symm.trans (rnd_u0 hvh.out (by have h1 := hCh.out; rw [← hluh.out, h] at h1; exact h1)))
          have ho : (FloatKind.f64.format.order y 0 != some .eq) = true := by rw [ord_ne hy0 hyl.out]; rfl
          have hng := negp (x := y) (by have := hyl.out; omega)
          clear hy0
          cases s
          · have hsg : decide (sgn (zv false (val la)) < 0) = false := by rw [sgn_lt]; simp [hu0.out]
            go_wp2_with fail
            refine (zsign_any false ha_2 (by have := hnh.out; omega)).mono ?_
            rintro e w3 ⟨rfl, hB⟩
            have hB_3 : Below w2.heap.size w2 w3 := (bl.next hB)
            have R_3 := R_2.next hB_3
            have cR_3_0 : _ = some (Value.bool false) := R_3.cell 0
            have cR_3_1 : _ = some (Value.slice a n c) := R_3.cell 1
            have cR_3_2 : _ = some (Value.slice b m d) := R_3.cell 2
            have ha_3 := ha_2.below hB_3
            have hbel_3 := hbel_2.next hB_3
            have hsz_3 := hB_3.size
            clear R_2 cR_2_0 cR_2_1 cR_2_2 ha_2 hbel_2 hB_3
            try clear hB
            go_wp2
            go_ret
            exact ⟨q, E, more, half, _, (by rw [hrho.out]; unfold sb; rw [if_neg (by simp)]; rfl), hCh.out, hbel_3⟩
          · have hsg : decide (sgn (zv true (val la)) < 0) = true := by rw [sgn_lt]; simp [hu0.out]
            go_wp2_with fail
            refine (zsign_any true ha_2 (by have := hnh.out; omega)).mono ?_
            rintro e w3 ⟨rfl, hB⟩
            have hB_3 : Below w2.heap.size w2 w3 := (bl.next hB)
            have R_3 := R_2.next hB_3
            have cR_3_0 : _ = some (Value.bool true) := R_3.cell 0
            have cR_3_1 : _ = some (Value.slice a n c) := R_3.cell 1
            have cR_3_2 : _ = some (Value.slice b m d) := R_3.cell 2
            have ha_3 := ha_2.below hB_3
            have hbel_3 := hbel_2.next hB_3
            have hsz_3 := hB_3.size
            clear R_2 cR_2_0 cR_2_1 cR_2_2 ha_2 hbel_2 hB_3
            try clear hB
            go_wp2
            go_ret
            exact ⟨q, E, more, half, _, (by rw [hrho.out]; unfold sb; rw [if_pos ⟨rfl, hp0.out⟩]; rfl), hCh.out, hbel_3⟩
      · have hrho : Hid (rndR q E half true = 9218868437227405312) := rnd_true q E half
        go_wp2_with fail
        refine (inf_pos).mono ?_
        rintro e w3 ⟨rfl, hB⟩
        have hB_3 : Below w2.heap.size w2 w3 := (bl.next hB)
        have R_3 := R_2.next hB_3
        have cR_3_0 : _ = some (Value.bool s) := R_3.cell 0
        have cR_3_1 : _ = some (Value.slice a n c) := R_3.cell 1
        have cR_3_2 : _ = some (Value.slice b m d) := R_3.cell 2
        have ha_3 := ha_2.below hB_3
        have hbel_3 := hbel_2.next hB_3
        have hsz_3 := hB_3.size
        clear R_2 cR_2_0 cR_2_1 cR_2_2 ha_2 hbel_2 hB_3
        try clear hB
        have hu0 : Hid (val la ≠ 0) := fun h => absurd (hrho.out.symm.trans (rnd_u0 hvh.out (by have h1 := hCh.out; rw [← hluh.out, h] at h1; exact h1))) (by decide)
        have ho : (FloatKind.f64.format.order 9218868437227405312 0 != some .eq) = true := by decide +kernel
        have hng : ∀ w, Sem.run Tryd.prog (Op.unary .neg (.float .f64 9218868437227405312)) w = .ok (.float .f64 18442240474082181120) w := negp (x := 9218868437227405312) (by decide)
        cases s
        · have hsg : decide (sgn (zv false (val la)) < 0) = false := by rw [sgn_lt]; simp [hu0.out]
          go_wp2_with fail
          refine (zsign_any false ha_3 (by have := hnh.out; omega)).mono ?_
          rintro e w4 ⟨rfl, hB⟩
          have hB_4 : Below w3.heap.size w3 w4 := (bl.next hB)
          have R_4 := R_3.next hB_4
          have cR_4_0 : _ = some (Value.bool false) := R_4.cell 0
          have cR_4_1 : _ = some (Value.slice a n c) := R_4.cell 1
          have cR_4_2 : _ = some (Value.slice b m d) := R_4.cell 2
          have ha_4 := ha_3.below hB_4
          have hbel_4 := hbel_3.next hB_4
          have hsz_4 := hB_4.size
          clear R_3 cR_3_0 cR_3_1 cR_3_2 ha_3 hbel_3 hB_4
          try clear hB
          go_wp2
          go_ret
          exact ⟨q, E, more, half, _, (by rw [hrho.out, sb_if]; rfl), hCh.out, hbel_4⟩
        · have hsg : decide (sgn (zv true (val la)) < 0) = true := by rw [sgn_lt]; simp [hu0.out]
          go_wp2_with fail
          refine (zsign_any true ha_3 (by have := hnh.out; omega)).mono ?_
          rintro e w4 ⟨rfl, hB⟩
          have hB_4 : Below w3.heap.size w3 w4 := (bl.next hB)
          have R_4 := R_3.next hB_4
          have cR_4_0 : _ = some (Value.bool true) := R_4.cell 0
          have cR_4_1 : _ = some (Value.slice a n c) := R_4.cell 1
          have cR_4_2 : _ = some (Value.slice b m d) := R_4.cell 2
          have ha_4 := ha_3.below hB_4
          have hbel_4 := hbel_3.next hB_4
          have hsz_4 := hB_4.size
          clear R_3 cR_3_0 cR_3_1 cR_3_2 ha_3 hbel_3 hB_4
          try clear hB
          go_wp2
          go_ret
          exact ⟨q, E, more, half, _, (by rw [hrho.out, sb_it]; rfl), hCh.out, hbel_4⟩

set_option maxRecDepth 100000 in
set_option maxHeartbeats 8000000 in
theorem round_S {w : World} {s : Bool} {a b : Option Addr} {n c m d u v : Nat} {la lb : List Nat} (ha : Rd w a n c la) (hb : Rd w b m d lb) (hn : n ≤ 1000) (hm : m ≤ 1000) (hlu : val la = u) (hlv : dv (val lb) = v) :
    Calls Tryd.prog 28 #[.agg #[.int .i64 24, .int .i64 (-149), .int .i64 104], .agg #[.bool s, .slice a n c, .slice b m d]] w (RetRnd 24 (-149) 104 s u v w) := by
  have hv : v ≠ 0 := by have := dv_pos (val lb); omega
  have hvh := hid hv
  have hluh := hid hlu
  have hlvh := hid hlv
  have hnh := hid hn
  have hmh := hid hm
  clear hv hlu hlv hn hm
  have hent := ent2 w #[Value.int .i64 24, Value.int .i64 (-149), Value.int .i64 104] #[Value.bool s, Value.slice a n c, Value.slice b m d] 53 27
  go_enter Tryd.func28, Tryd.ntmps28
  go_wp2_with fail
  generalize ((w.alloc (.cells #[Value.int .i64 24, Value.int .i64 (-149), Value.int .i64 104] 53)).alloc (.cells #[Value.bool s, Value.slice a n c, Value.slice b m d] 27)) = W0 at hent ⊢
  obtain ⟨K_0, R_0, hbel_0, hsz_0⟩ := hent
  have cK_0_0 : _ = some (Value.int .i64 24) := K_0.cell 0
  have cK_0_1 : _ = some (Value.int .i64 (-149)) := K_0.cell 1
  have cK_0_2 : _ = some (Value.int .i64 104) := K_0.cell 2
  have cR_0_0 : _ = some (Value.bool s) := R_0.cell 0
  have cR_0_1 : _ = some (Value.slice a n c) := R_0.cell 1
  have cR_0_2 : _ = some (Value.slice b m d) := R_0.cell 2
  have ha_0 := ha.below hbel_0
  clear ha
  have hb_0 := hb.below hbel_0
  clear hb
  go_wp2_with fail
  refine (cut_S ha_0 hb_0 hnh.out hmh.out hluh.out hlvh.out).mono ?_
  rintro e w1 ⟨q, E, more, half, far, rfl, hC, hB⟩
  have hB_1 : Below W0.heap.size W0 w1 := (bl.next hB)
  have K_1 := K_0.next hB_1
  have cK_1_0 : _ = some (Value.int .i64 24) := K_1.cell 0
  have cK_1_1 : _ = some (Value.int .i64 (-149)) := K_1.cell 1
  have cK_1_2 : _ = some (Value.int .i64 104) := K_1.cell 2
  have R_1 := R_0.next hB_1
  have cR_1_0 : _ = some (Value.bool s) := R_1.cell 0
  have cR_1_1 : _ = some (Value.slice a n c) := R_1.cell 1
  have cR_1_2 : _ = some (Value.slice b m d) := R_1.cell 2
  have ha_1 := ha_0.below hB_1
  have hb_1 := hb_0.below hB_1
  have hbel_1 := hbel_0.next hB_1
  have hsz_1 := hB_1.size
  clear K_0 cK_0_0 cK_0_1 cK_0_2 R_0 cR_0_0 cR_0_1 cR_0_2 ha_0 hb_0 hbel_0 hB_1
  have hCh := hid hC
  have hq : q < 9007199254740992 := Nat.lt_of_lt_of_le hC.bits (by decide)
  have hE1 : -1074 ≤ E := Int.le_trans (by decide) hC.lo
  have hE2 : E ≤ 1000 := hC.hi
  clear hC
  try clear hB
  clear hb_1
  clear cK_1_0 cK_1_1 cK_1_2 K_1
  have hpl : Hid (rup q half ≤ 9007199254740992) := rup_le hq
  go_upto_region 2 with fail
  obtain ⟨W1, hW1⟩ : ∃ y : World, y = w1 := ⟨_, rfl⟩
  subst hW1
  obtain ⟨U, hU⟩ : ∃ U : Bool, decide (0 < half ∨ (half = 0 ∧ q % 2 = 1)) = U := ⟨_, rfl⟩
  have hUh := hid hU
  clear hU
  go_cut [30] (fun s30 wx => s30 = .bool U ∧ W1 = wx)
  case first =>
    have hev := and_one q hq
    by_cases h1 : 0 < half
    · have d1 : decide (0 < half) = true := decide_eq_true h1
      have hUt := hid (show true = U by rw [← hUh.out]; symm; exact decide_eq_true (by omega))
      clear h1
      go_wp2_with fail
      go_meet
      exact ⟨congrArg Value.bool hUt.out, rfl⟩
    · have d1 : decide (0 < half) = false := decide_eq_false h1
      by_cases h2 : half = 0
      · have d2 : (half == 0) = true := by simp [h2]
        by_cases h3 : q % 2 = 1
        · have d3 : (bits BinOp.and IntKind.u64 (q : Int) 1 == 1) = true := by rw [hev, h3]; rfl
          have hUt := hid (show true = U by rw [← hUh.out]; symm; exact decide_eq_true (by omega))
          clear h1 h2 h3 hev
          go_wp2_with fail
          go_meet
          exact ⟨congrArg Value.bool hUt.out, rfl⟩
        · have d3 : (bits BinOp.and IntKind.u64 (q : Int) 1 == 1) = false := by rw [hev, show q % 2 = 0 by omega]; rfl
          have hUt := hid (show false = U by rw [← hUh.out]; symm; exact decide_eq_false (by omega))
          clear h1 h2 h3 hev
          go_wp2_with fail
          go_meet
          exact ⟨congrArg Value.bool hUt.out, rfl⟩
      · have d2 : (half == 0) = false := by simp [h2]
        have hUt := hid (show false = U by rw [← hUh.out]; symm; exact decide_eq_false (by omega))
        clear h1 h2 hev
        go_wp2_with fail
        go_meet
        exact ⟨congrArg Value.bool hUt.out, rfl⟩
  case rest =>
    obtain ⟨rfl, hwc⟩ := hcut
    subst hwc
    go_upto_if 30 with fail
    go_cut [5] (fun s5 wx => s5 = .int .u64 ((rup q half : Nat) : Int) ∧ W1 = wx)
    case first =>
      cases U
      · have hup := hid (show rup q half = q from if_neg (of_decide_eq_false hUh.out))
        go_wp2_with fail
        go_meet
        exact ⟨(by rw [hup.out]), rfl⟩
      · have hup := hid (show rup q half = q + 1 from if_pos (of_decide_eq_true hUh.out))
        go_wp2_with fail
        go_meet
        exact ⟨(by rw [hup.out]; rfl), rfl⟩
    case rest =>
      obtain ⟨rfl, hwc⟩ := hcut
      subst hwc
      obtain ⟨p, hp⟩ : ∃ p, rup q half = p := ⟨_, rfl⟩
      rw [hp] at hpl ⊢
      have hph := hid hp
      clear hp
      have hcv := run_flN p
      have HL := hid (fun w => Ldexp_b (w := w) (m := p) (e := E) hpl.out hE1 (by omega))
      have hyl : Hid (ldR p E ≤ 9218868437227405312) := ldR_le hpl.out hE1
      obtain ⟨y, hy⟩ : ∃ y, ldR p E = y := ⟨_, rfl⟩
      rw [hy] at HL hyl
      have hyh := hid hy
      clear hy hq hE1 hE2
      go_wp2_with fail
      refine (HL.out _).mono ?_
      rintro e w2 ⟨rfl, hB⟩
      have hB_2 : Below W1.heap.size W1 w2 := (bl.next hB)
      have R_2 := R_1.next hB_2
      have cR_2_0 : _ = some (Value.bool s) := R_2.cell 0
      have cR_2_1 : _ = some (Value.slice a n c) := R_2.cell 1
      have cR_2_2 : _ = some (Value.slice b m d) := R_2.cell 2
      have ha_2 := ha_1.below hB_2
      have hbel_2 := hbel_1.next hB_2
      have hsz_2 := hB_2.size
      clear R_1 cR_1_0 cR_1_1 cR_1_2 ha_1 hbel_1 hB_2
      try clear hB
      cases far
      · have hrho : Hid (rndR q E half false = y) := (by rw [rnd_false, hph.out]; exact hyh.out)
        by_cases hy0 : y = 0
        · subst hy0
          have ho : (FloatKind.f64.format.order 0 0 != some .eq) = false := by decide +kernel
          go_wp2
          go_ret
          exact ⟨q, E, more, half, _, (by rw [hrho.out]; unfold sb; rw [if_neg (by simp)]; rfl), hCh.out, hbel_2⟩
        · have hp0 := hid hy0
          have hu0 : Hid (val la ≠ 0) := fun h => hy0 (hrho.out.symm.trans (rnd_u0 hvh.out (by have h1 := hCh.out; rw [← hluh.out, h] at h1; exact h1)))
          have ho : (FloatKind.f64.format.order y 0 != some .eq) = true := by rw [ord_ne hy0 hyl.out]; rfl
          have hng := negp (x := y) (by have := hyl.out; omega)
          clear hy0
          cases s
          · have hsg : decide (sgn (zv false (val la)) < 0) = false := by rw [sgn_lt]; simp [hu0.out]
            go_wp2_with fail
            refine (zsign_any false ha_2 (by have := hnh.out; omega)).mono ?_
            rintro e w3 ⟨rfl, hB⟩
            have hB_3 : Below w2.heap.size w2 w3 := (bl.next hB)
            have R_3 := R_2.next hB_3
            have cR_3_0 : _ = some (Value.bool false) := R_3.cell 0
            have cR_3_1 : _ = some (Value.slice a n c) := R_3.cell 1
            have cR_3_2 : _ = some (Value.slice b m d) := R_3.cell 2
            have ha_3 := ha_2.below hB_3
            have hbel_3 := hbel_2.next hB_3
            have hsz_3 := hB_3.size
            clear R_2 cR_2_0 cR_2_1 cR_2_2 ha_2 hbel_2 hB_3
            try clear hB
            go_wp2
            go_ret
            exact ⟨q, E, more, half, _, (by rw [hrho.out]; unfold sb; rw [if_neg (by simp)]; rfl), hCh.out, hbel_3⟩
          · have hsg : decide (sgn (zv true (val la)) < 0) = true := by rw [sgn_lt]; simp [hu0.out]
            go_wp2_with fail
            refine (zsign_any true ha_2 (by have := hnh.out; omega)).mono ?_
            rintro e w3 ⟨rfl, hB⟩
            have hB_3 : Below w2.heap.size w2 w3 := (bl.next hB)
            have R_3 := R_2.next hB_3
            have cR_3_0 : _ = some (Value.bool true) := R_3.cell 0
            have cR_3_1 : _ = some (Value.slice a n c) := R_3.cell 1
            have cR_3_2 : _ = some (Value.slice b m d) := R_3.cell 2
            have ha_3 := ha_2.below hB_3
            have hbel_3 := hbel_2.next hB_3
            have hsz_3 := hB_3.size
            clear R_2 cR_2_0 cR_2_1 cR_2_2 ha_2 hbel_2 hB_3
            try clear hB
            go_wp2
            go_ret
            exact ⟨q, E, more, half, _, (by rw [hrho.out]; unfold sb; rw [if_pos ⟨rfl, hp0.out⟩]; rfl), hCh.out, hbel_3⟩
      · have hrho : Hid (rndR q E half true = 9218868437227405312) := rnd_true q E half
        go_wp2_with fail
        refine (inf_pos).mono ?_
        rintro e w3 ⟨rfl, hB⟩
        have hB_3 : Below w2.heap.size w2 w3 := (bl.next hB)
        have R_3 := R_2.next hB_3
        have cR_3_0 : _ = some (Value.bool s) := R_3.cell 0
        have cR_3_1 : _ = some (Value.slice a n c) := R_3.cell 1
        have cR_3_2 : _ = some (Value.slice b m d) := R_3.cell 2
        have ha_3 := ha_2.below hB_3
        have hbel_3 := hbel_2.next hB_3
        have hsz_3 := hB_3.size
        clear R_2 cR_2_0 cR_2_1 cR_2_2 ha_2 hbel_2 hB_3
        try clear hB
        have hu0 : Hid (val la ≠ 0) := fun h => absurd (hrho.out.symm.trans (rnd_u0 hvh.out (by have h1 := hCh.out; rw [← hluh.out, h] at h1; exact h1))) (by decide)
        have ho : (FloatKind.f64.format.order 9218868437227405312 0 != some .eq) = true := by decide +kernel
        have hng : ∀ w, Sem.run Tryd.prog (Op.unary .neg (.float .f64 9218868437227405312)) w = .ok (.float .f64 18442240474082181120) w := negp (x := 9218868437227405312) (by decide)
        cases s
        · have hsg : decide (sgn (zv false (val la)) < 0) = false := by rw [sgn_lt]; simp [hu0.out]
          go_wp2_with fail
          refine (zsign_any false ha_3 (by have := hnh.out; omega)).mono ?_
          rintro e w4 ⟨rfl, hB⟩
          have hB_4 : Below w3.heap.size w3 w4 := (bl.next hB)
          have R_4 := R_3.next hB_4
          have cR_4_0 : _ = some (Value.bool false) := R_4.cell 0
          have cR_4_1 : _ = some (Value.slice a n c) := R_4.cell 1
          have cR_4_2 : _ = some (Value.slice b m d) := R_4.cell 2
          have ha_4 := ha_3.below hB_4
          have hbel_4 := hbel_3.next hB_4
          have hsz_4 := hB_4.size
          clear R_3 cR_3_0 cR_3_1 cR_3_2 ha_3 hbel_3 hB_4
          try clear hB
          go_wp2
          go_ret
          exact ⟨q, E, more, half, _, (by rw [hrho.out, sb_if]; rfl), hCh.out, hbel_4⟩
        · have hsg : decide (sgn (zv true (val la)) < 0) = true := by rw [sgn_lt]; simp [hu0.out]
          go_wp2_with fail
          refine (zsign_any true ha_3 (by have := hnh.out; omega)).mono ?_
          rintro e w4 ⟨rfl, hB⟩
          have hB_4 : Below w3.heap.size w3 w4 := (bl.next hB)
          have R_4 := R_3.next hB_4
          have cR_4_0 : _ = some (Value.bool true) := R_4.cell 0
          have cR_4_1 : _ = some (Value.slice a n c) := R_4.cell 1
          have cR_4_2 : _ = some (Value.slice b m d) := R_4.cell 2
          have ha_4 := ha_3.below hB_4
          have hbel_4 := hbel_3.next hB_4
          have hsz_4 := hB_4.size
          clear R_3 cR_3_0 cR_3_1 cR_3_2 ha_3 hbel_3 hB_4
          try clear hB
          go_wp2
          go_ret
          exact ⟨q, E, more, half, _, (by rw [hrho.out, sb_it]; rfl), hCh.out, hbel_4⟩

set_option maxRecDepth 100000 in
set_option maxHeartbeats 4000000 in
theorem nearest_g {w : World} (GL : Lng w) {s : Bool} {a b : Option Addr} {n c m d u v : Nat} {la lb : List Nat} (ha : Rd w a n c la) (hb : Rd w b m d lb) (hn : n ≤ 1000) (hm : m ≤ 1000) (hlu : val la = u) (hlv : dv (val lb) = v) :
    Calls Tryd.prog 9 #[.agg #[.bool s, .slice a n c, .slice b m d]] w (RetRnd 53 (-1074) 971 s u v w) := by
  have hnh := hid hn
  have hmh := hid hm
  have hluh := hid hlu
  have hlvh := hid hlv
  clear hn hm hlu hlv
  have g0 := GL.a
  have g1 := GL.b
  have g2 := GL.c
  have hw := World.block_lt_of_cell? _ _ g0
  have hent := ent1 w #[Value.bool s, Value.slice a n c, Value.slice b m d] 27
  go_enter Tryd.func9, Tryd.ntmps9
  go_wp2_with fail
  generalize (w.alloc (.cells #[Value.bool s, Value.slice a n c, Value.slice b m d] 27)) = W0 at hent ⊢
  obtain ⟨R_0, hbel_0, hsz_0⟩ := hent
  have cR_0_0 : _ = some (Value.bool s) := R_0.cell 0
  have cR_0_1 : _ = some (Value.slice a n c) := R_0.cell 1
  have cR_0_2 : _ = some (Value.slice b m d) := R_0.cell 2
  have ha_0 := ha.below hbel_0
  clear ha
  have hb_0 := hb.below hbel_0
  clear hb
  have GL_0 := GL.below hbel_0
  clear GL
  clear g0 g1 g2 hw
  have g0 := GL_0.a
  have g1 := GL_0.b
  have g2 := GL_0.c
  go_wp2_with fail
  refine (round_L ha_0 hb_0 hnh.out hmh.out hluh.out hlvh.out).mono ?_
  rintro e w1 ⟨q, E, more, half, far, rfl, hC, hB⟩
  have hB_1 : Below W0.heap.size W0 w1 := (bl.next hB)
  have R_1 := R_0.next hB_1
  have cR_1_0 : _ = some (Value.bool s) := R_1.cell 0
  have cR_1_1 : _ = some (Value.slice a n c) := R_1.cell 1
  have cR_1_2 : _ = some (Value.slice b m d) := R_1.cell 2
  have ha_1 := ha_0.below hB_1
  have hb_1 := hb_0.below hB_1
  have GL_1 := GL_0.below hB_1
  have hbel_1 := hbel_0.next hB_1
  have hsz_1 := hB_1.size
  clear R_0 cR_0_0 cR_0_1 cR_0_2 ha_0 hb_0 GL_0 hbel_0 hB_1
  have hCh := hid hC
  clear hC
  try clear hB
  go_wp2
  go_ret
  exact ⟨q, E, more, half, far, rfl, hCh.out, hbel_1⟩

set_option maxRecDepth 100000 in
set_option maxHeartbeats 4000000 in
theorem single_g {w : World} (GS : Sht w) {s : Bool} {a b : Option Addr} {n c m d u v : Nat} {la lb : List Nat} (ha : Rd w a n c la) (hb : Rd w b m d lb) (hn : n ≤ 1000) (hm : m ≤ 1000) (hlu : val la = u) (hlv : dv (val lb) = v) {r : Nat} (hcv : ∀ q E more half far, CutOK 24 (-149) 104 u v q E more half far → floatToFloatBits .f64 (sb s (rndR q E half far)) .f32 = some r) :
    Calls Tryd.prog 18 #[.agg #[.bool s, .slice a n c, .slice b m d]] w (fun e w' => e = .returned (.float .f32 r) ∧ Below w.heap.size w w') := by
  have hnh := hid hn
  have hmh := hid hm
  have hluh := hid hlu
  have hlvh := hid hlv
  clear hn hm hlu hlv
  have hcvh := hid hcv
  clear hcv
  have g0 := GS.a
  have g1 := GS.b
  have g2 := GS.c
  have hw := World.block_lt_of_cell? _ _ g0
  have hent := ent1 w #[Value.bool s, Value.slice a n c, Value.slice b m d] 27
  go_enter Tryd.func18, Tryd.ntmps18
  go_wp2_with fail
  generalize (w.alloc (.cells #[Value.bool s, Value.slice a n c, Value.slice b m d] 27)) = W0 at hent ⊢
  obtain ⟨R_0, hbel_0, hsz_0⟩ := hent
  have cR_0_0 : _ = some (Value.bool s) := R_0.cell 0
  have cR_0_1 : _ = some (Value.slice a n c) := R_0.cell 1
  have cR_0_2 : _ = some (Value.slice b m d) := R_0.cell 2
  have ha_0 := ha.below hbel_0
  clear ha
  have hb_0 := hb.below hbel_0
  clear hb
  have GS_0 := GS.below hbel_0
  clear GS
  clear g0 g1 g2 hw
  have g0 := GS_0.a
  have g1 := GS_0.b
  have g2 := GS_0.c
  go_wp2_with fail
  refine (round_S ha_0 hb_0 hnh.out hmh.out hluh.out hlvh.out).mono ?_
  rintro e w1 ⟨q, E, more, half, far, rfl, hC, hB⟩
  have hB_1 : Below W0.heap.size W0 w1 := (bl.next hB)
  have R_1 := R_0.next hB_1
  have cR_1_0 : _ = some (Value.bool s) := R_1.cell 0
  have cR_1_1 : _ = some (Value.slice a n c) := R_1.cell 1
  have cR_1_2 : _ = some (Value.slice b m d) := R_1.cell 2
  have ha_1 := ha_0.below hB_1
  have hb_1 := hb_0.below hB_1
  have GS_1 := GS_0.below hB_1
  have hbel_1 := hbel_0.next hB_1
  have hsz_1 := hB_1.size
  clear R_0 cR_0_0 cR_0_1 cR_0_2 ha_0 hb_0 GS_0 hbel_0 hB_1
  have hCh := hid hC
  clear hC
  try clear hB
  have hF := hcvh.out _ _ _ _ _ hCh.out
  generalize sb s (rndR q E half far) = y at *
  have hc : ∀ w, (convert 28 42 (.float .f64 y)).run Tryd.prog w = .ok (.float .f32 r) w := fun w => run_convert_float_float w _ _ .f64 .f32 _ _ rfl rfl hF
  clear hF
  go_wp2
  go_ret
  exact ⟨rfl, hbel_1⟩

set_option maxRecDepth 100000 in
set_option maxHeartbeats 16000000 in
theorem around_g {w : World} (GL : Lng w) {s : Bool} {a b : Option Addr} {n c m d u v : Nat} {la lb : List Nat} (ha : Rd w a n c la) (hb : Rd w b m d lb) (hn : n ≤ 1000) (hm : m ≤ 1000) (hlu : val la = u) (hlv : dv (val lb) = v) :
    Calls Tryd.prog 7 #[.agg #[.bool s, .slice a n c, .slice b m d]] w (RetArn s u v w) := by
  have hv : v ≠ 0 := by have := dv_pos (val lb); omega
  have hvh := hid hv
  have hnh := hid hn
  have hmh := hid hm
  have hluh := hid hlu
  have hlvh := hid hlv
  clear hn hm hlu hlv hv
  have g0 := GL.a
  have g1 := GL.b
  have g2 := GL.c
  have hw := World.block_lt_of_cell? _ _ g0
  have hent := ent1 w #[Value.bool s, Value.slice a n c, Value.slice b m d] 27
  go_enter Tryd.func7, Tryd.ntmps7
  go_wp2_with fail
  generalize (w.alloc (.cells #[Value.bool s, Value.slice a n c, Value.slice b m d] 27)) = W0 at hent ⊢
  obtain ⟨R_0, hbel_0, hsz_0⟩ := hent
  have cR_0_0 : _ = some (Value.bool s) := R_0.cell 0
  have cR_0_1 : _ = some (Value.slice a n c) := R_0.cell 1
  have cR_0_2 : _ = some (Value.slice b m d) := R_0.cell 2
  have ha_0 := ha.below hbel_0
  clear ha
  have hb_0 := hb.below hbel_0
  clear hb
  have GL_0 := GL.below hbel_0
  clear GL
  clear g0 g1 g2 hw
  have g0 := GL_0.a
  have g1 := GL_0.b
  have g2 := GL_0.c
  go_wp2_with fail
  refine (cut_L ha_0 hb_0 hnh.out hmh.out hluh.out hlvh.out).mono ?_
  rintro e w1 ⟨q, E, more, half, far, rfl, hC, hB⟩
  have hB_1 : Below W0.heap.size W0 w1 := (bl.next hB)
  have R_1 := R_0.next hB_1
  have cR_1_0 : _ = some (Value.bool s) := R_1.cell 0
  have cR_1_1 : _ = some (Value.slice a n c) := R_1.cell 1
  have cR_1_2 : _ = some (Value.slice b m d) := R_1.cell 2
  have ha_1 := ha_0.below hB_1
  have hb_1 := hb_0.below hB_1
  have GL_1 := GL_0.below hB_1
  have hbel_1 := hbel_0.next hB_1
  have hsz_1 := hB_1.size
  clear R_0 cR_0_0 cR_0_1 cR_0_2 ha_0 hb_0 GL_0 hbel_0 hB_1
  have hCh := hid hC
  have hq : q < 9007199254740992 := Nat.lt_of_lt_of_le hC.bits (by decide)
  have hE1 : -1074 ≤ E := hC.lo
  have hE2 : E ≤ 1000 := hC.hi
  clear hC
  try clear hB
  clear hb_1
  clear GL_1
  clear g0 g1 g2
  have hcv := run_flN q
  have hcv1 := run_flN1 q
  have hAr := hid (arnd_of_cut hvh.out hCh.out)
  have HL := hid (fun w => Ldexp_b (w := w) (m := q) (e := E) (by omega) hE1 (by omega))
  have HL1 := hid (fun w => Ldexp_b (w := w) (m := q + 1) (e := E) (by omega) hE1 (by omega))
  have hyl : Hid (ldR q E ≤ 9218868437227405312) := ldR_le (by omega) hE1
  have hzl : Hid (ldR (q + 1) E ≤ 9218868437227405312) := ldR_le (by omega) hE1
  obtain ⟨y, hy⟩ : ∃ y, ldR q E = y := ⟨_, rfl⟩
  rw [hy] at HL hyl
  obtain ⟨z, hz⟩ : ∃ y, ldR (q + 1) E = y := ⟨_, rfl⟩
  rw [hz] at HL1 hzl
  have hyh := hid hy
  have hzh := hid hz
  clear hy hz
  go_wp2_with fail
  refine (HL.out _).mono ?_
  rintro e w2 ⟨rfl, hB⟩
  have hB_2 : Below w1.heap.size w1 w2 := (bl.next hB)
  have R_2 := R_1.next hB_2
  have cR_2_0 : _ = some (Value.bool s) := R_2.cell 0
  have cR_2_1 : _ = some (Value.slice a n c) := R_2.cell 1
  have cR_2_2 : _ = some (Value.slice b m d) := R_2.cell 2
  have ha_2 := ha_1.below hB_2
  have hbel_2 := hbel_1.next hB_2
  have hsz_2 := hB_2.size
  clear R_1 cR_1_0 cR_1_1 cR_1_2 ha_1 hbel_1 hB_2
  try clear hB
  go_wp2_with fail
  refine (HL.out _).mono ?_
  rintro e w3 ⟨rfl, hB⟩
  have hB_3 : Below w2.heap.size w2 w3 := (bl.next hB)
  have R_3 := R_2.next hB_3
  have cR_3_0 : _ = some (Value.bool s) := R_3.cell 0
  have cR_3_1 : _ = some (Value.slice a n c) := R_3.cell 1
  have cR_3_2 : _ = some (Value.slice b m d) := R_3.cell 2
  have ha_3 := ha_2.below hB_3
  have hbel_3 := hbel_2.next hB_3
  have hsz_3 := hB_3.size
  clear R_2 cR_2_0 cR_2_1 cR_2_2 ha_2 hbel_2 hB_3
  try clear hB
  cases more
  · skip
    cases far
    · skip
      have hA : Hid (Arnd (u * 2 ^ E74) v y y) := by
        have h1 := hAr.out
        rw [arR_f, arT_ff, hyh.out] at h1
        exact h1
      by_cases hneg : s = true ∧ val la ≠ 0
      · obtain ⟨hs, hu0⟩ := hneg
        subst hs
        have hsg : decide (0 ≤ sgn (zv true (val la))) = false := by rw [sgn_ge]; simp [hu0]
        have hu0h := hid hu0
        clear hu0
        have htp : Hid (y ≠ 0) := fun h => by
          have h1 := hA.out
          exact arnd_pos hvh.out (by rw [← hluh.out]; exact hu0h.out) h1 h
        have n2 := negp (x := y) (by have := hyl.out; omega)
        by_cases hr0 : y = 0
        · have ho : (FloatKind.f64.format.order y 0 == some .eq) = true := by rw [hr0]; decide +kernel
          have hr0h := hid hr0
          clear hr0
          go_wp2_with fail
          refine (zsign_any true ha_3 (by have := hnh.out; omega)).mono ?_
          rintro e w4 ⟨rfl, hB⟩
          have hB_4 : Below w3.heap.size w3 w4 := (bl.next hB)
          have R_4 := R_3.next hB_4
          have cR_4_0 : _ = some (Value.bool true) := R_4.cell 0
          have cR_4_1 : _ = some (Value.slice a n c) := R_4.cell 1
          have cR_4_2 : _ = some (Value.slice b m d) := R_4.cell 2
          have ha_4 := ha_3.below hB_4
          have hbel_4 := hbel_3.next hB_4
          have hsz_4 := hB_4.size
          clear R_3 cR_3_0 cR_3_1 cR_3_2 ha_3 hbel_3 hB_4
          try clear hB
          go_wp2
          refine bodyPost_ret (v := .tuple #[.float .f64 (9223372036854775808 + y), .float .f64 0]) (by simp [results, Tryd.results7, go_sem]) rfl ?_
          exact ⟨y, y, (by first | exact absurd hr0h.out htp.out | (rw [if_pos rfl, if_pos rfl, sbt htp.out, hr0h.out, sb0])), hA.out, hbel_4⟩
        · have ho : (FloatKind.f64.format.order y 0 == some .eq) = false := by rw [ord_ne hr0 hyl.out]; rfl
          have hrp := hid hr0
          clear hr0
          have n1 := negp (x := y) (by have := hyl.out; omega)
          go_wp2_with fail
          refine (zsign_any true ha_3 (by have := hnh.out; omega)).mono ?_
          rintro e w4 ⟨rfl, hB⟩
          have hB_4 : Below w3.heap.size w3 w4 := (bl.next hB)
          have R_4 := R_3.next hB_4
          have cR_4_0 : _ = some (Value.bool true) := R_4.cell 0
          have cR_4_1 : _ = some (Value.slice a n c) := R_4.cell 1
          have cR_4_2 : _ = some (Value.slice b m d) := R_4.cell 2
          have ha_4 := ha_3.below hB_4
          have hbel_4 := hbel_3.next hB_4
          have hsz_4 := hB_4.size
          clear R_3 cR_3_0 cR_3_1 cR_3_2 ha_3 hbel_3 hB_4
          try clear hB
          go_wp2
          refine bodyPost_ret (v := .tuple #[.float .f64 (9223372036854775808 + y), .float .f64 (9223372036854775808 + y)]) (by simp [results, Tryd.results7, go_sem]) rfl ?_
          exact ⟨y, y, (by first | (rw [if_pos rfl, if_pos rfl, sbt htp.out, sbt hrp.out]; done) | (rw [if_pos rfl, sbt htp.out]; done)), hA.out, hbel_4⟩
      · have hsg : decide (0 ≤ sgn (zv s (val la))) = true := by rw [sgn_ge]; by_cases h1 : s = true <;> by_cases h2 : val la = 0 <;> simp_all
        have hnegh := hid hneg
        clear hneg
        go_wp2_with fail
        refine (zsign_any s ha_3 (by have := hnh.out; omega)).mono ?_
        rintro e w4 ⟨rfl, hB⟩
        have hB_4 : Below w3.heap.size w3 w4 := (bl.next hB)
        have R_4 := R_3.next hB_4
        have cR_4_0 : _ = some (Value.bool s) := R_4.cell 0
        have cR_4_1 : _ = some (Value.slice a n c) := R_4.cell 1
        have cR_4_2 : _ = some (Value.slice b m d) := R_4.cell 2
        have ha_4 := ha_3.below hB_4
        have hbel_4 := hbel_3.next hB_4
        have hsz_4 := hB_4.size
        clear R_3 cR_3_0 cR_3_1 cR_3_2 ha_3 hbel_3 hB_4
        try clear hB
        go_wp2
        refine bodyPost_ret (v := .tuple #[.float .f64 y, .float .f64 y]) (by simp [results, Tryd.results7, go_sem]) rfl ?_
        exact ⟨y, y, (arn_pos hvh.out (by rw [hluh.out] at hnegh; exact hnegh.out) hA.out).symm, hA.out, hbel_4⟩
    · skip
      go_wp2_with fail
      refine (inf_pos).mono ?_
      rintro e w4 ⟨rfl, hB⟩
      have hB_4 : Below w3.heap.size w3 w4 := (bl.next hB)
      have R_4 := R_3.next hB_4
      have cR_4_0 : _ = some (Value.bool s) := R_4.cell 0
      have cR_4_1 : _ = some (Value.slice a n c) := R_4.cell 1
      have cR_4_2 : _ = some (Value.slice b m d) := R_4.cell 2
      have ha_4 := ha_3.below hB_4
      have hbel_4 := hbel_3.next hB_4
      have hsz_4 := hB_4.size
      clear R_3 cR_3_0 cR_3_1 cR_3_2 ha_3 hbel_3 hB_4
      try clear hB
      have hA : Hid (Arnd (u * 2 ^ E74) v 9218868437227405311 9218868437227405312) := (by have h1 := hAr.out; rw [arR_t, arT_t] at h1; exact h1)
      by_cases hneg : s = true ∧ val la ≠ 0
      · obtain ⟨hs, hu0⟩ := hneg
        subst hs
        have hsg : decide (0 ≤ sgn (zv true (val la))) = false := by rw [sgn_ge]; simp [hu0]
        have hu0h := hid hu0
        clear hu0
        have ho : (FloatKind.f64.format.order 9218868437227405311 0 == some .eq) = false := by decide +kernel
        have n1 : ∀ w, Sem.run Tryd.prog (Op.unary .neg (.float .f64 9218868437227405311)) w = .ok (.float .f64 18442240474082181119) w := negp (x := 9218868437227405311) (by decide)
        have n2 : ∀ w, Sem.run Tryd.prog (Op.unary .neg (.float .f64 9218868437227405312)) w = .ok (.float .f64 18442240474082181120) w := negp (x := 9218868437227405312) (by decide)
        go_wp2_with fail
        refine (zsign_any true ha_4 (by have := hnh.out; omega)).mono ?_
        rintro e w5 ⟨rfl, hB⟩
        have hB_5 : Below w4.heap.size w4 w5 := (bl.next hB)
        have R_5 := R_4.next hB_5
        have cR_5_0 : _ = some (Value.bool true) := R_5.cell 0
        have cR_5_1 : _ = some (Value.slice a n c) := R_5.cell 1
        have cR_5_2 : _ = some (Value.slice b m d) := R_5.cell 2
        have ha_5 := ha_4.below hB_5
        have hbel_5 := hbel_4.next hB_5
        have hsz_5 := hB_5.size
        clear R_4 cR_4_0 cR_4_1 cR_4_2 ha_4 hbel_4 hB_5
        try clear hB
        go_wp2
        refine bodyPost_ret (v := .tuple #[.float .f64 18442240474082181120, .float .f64 18442240474082181119]) (by simp [results, Tryd.results7, go_sem]) rfl ?_
        exact ⟨9218868437227405311, 9218868437227405312, (by rw [if_pos rfl, if_pos rfl, sb_it, sb_it']), hA.out, hbel_5⟩
      · have hsg : decide (0 ≤ sgn (zv s (val la))) = true := by rw [sgn_ge]; by_cases h1 : s = true <;> by_cases h2 : val la = 0 <;> simp_all
        have hnegh := hid hneg
        clear hneg
        go_wp2_with fail
        refine (zsign_any s ha_4 (by have := hnh.out; omega)).mono ?_
        rintro e w5 ⟨rfl, hB⟩
        have hB_5 : Below w4.heap.size w4 w5 := (bl.next hB)
        have R_5 := R_4.next hB_5
        have cR_5_0 : _ = some (Value.bool s) := R_5.cell 0
        have cR_5_1 : _ = some (Value.slice a n c) := R_5.cell 1
        have cR_5_2 : _ = some (Value.slice b m d) := R_5.cell 2
        have ha_5 := ha_4.below hB_5
        have hbel_5 := hbel_4.next hB_5
        have hsz_5 := hB_5.size
        clear R_4 cR_4_0 cR_4_1 cR_4_2 ha_4 hbel_4 hB_5
        try clear hB
        go_wp2
        refine bodyPost_ret (v := .tuple #[.float .f64 9218868437227405311, .float .f64 9218868437227405312]) (by simp [results, Tryd.results7, go_sem]) rfl ?_
        exact ⟨9218868437227405311, 9218868437227405312, (arn_pos hvh.out (by rw [hluh.out] at hnegh; exact hnegh.out) hA.out).symm, hA.out, hbel_5⟩
  · skip
    go_wp2_with fail
    refine (HL1.out _).mono ?_
    rintro e w4 ⟨rfl, hB⟩
    have hB_4 : Below w3.heap.size w3 w4 := (bl.next hB)
    have R_4 := R_3.next hB_4
    have cR_4_0 : _ = some (Value.bool s) := R_4.cell 0
    have cR_4_1 : _ = some (Value.slice a n c) := R_4.cell 1
    have cR_4_2 : _ = some (Value.slice b m d) := R_4.cell 2
    have ha_4 := ha_3.below hB_4
    have hbel_4 := hbel_3.next hB_4
    have hsz_4 := hB_4.size
    clear R_3 cR_3_0 cR_3_1 cR_3_2 ha_3 hbel_3 hB_4
    try clear hB
    cases far
    · skip
      have hA : Hid (Arnd (u * 2 ^ E74) v y z) := by
        have h1 := hAr.out
        rw [arR_f, arT_tf, hyh.out, hzh.out] at h1
        exact h1
      by_cases hneg : s = true ∧ val la ≠ 0
      · obtain ⟨hs, hu0⟩ := hneg
        subst hs
        have hsg : decide (0 ≤ sgn (zv true (val la))) = false := by rw [sgn_ge]; simp [hu0]
        have hu0h := hid hu0
        clear hu0
        have htp : Hid (z ≠ 0) := fun h => by
          have h1 := hA.out
          exact arnd_pos hvh.out (by rw [← hluh.out]; exact hu0h.out) h1 h
        have n2 := negp (x := z) (by have := hzl.out; omega)
        by_cases hr0 : y = 0
        · have ho : (FloatKind.f64.format.order y 0 == some .eq) = true := by rw [hr0]; decide +kernel
          have hr0h := hid hr0
          clear hr0
          go_wp2_with fail
          refine (zsign_any true ha_4 (by have := hnh.out; omega)).mono ?_
          rintro e w5 ⟨rfl, hB⟩
          have hB_5 : Below w4.heap.size w4 w5 := (bl.next hB)
          have R_5 := R_4.next hB_5
          have cR_5_0 : _ = some (Value.bool true) := R_5.cell 0
          have cR_5_1 : _ = some (Value.slice a n c) := R_5.cell 1
          have cR_5_2 : _ = some (Value.slice b m d) := R_5.cell 2
          have ha_5 := ha_4.below hB_5
          have hbel_5 := hbel_4.next hB_5
          have hsz_5 := hB_5.size
          clear R_4 cR_4_0 cR_4_1 cR_4_2 ha_4 hbel_4 hB_5
          try clear hB
          go_wp2
          refine bodyPost_ret (v := .tuple #[.float .f64 (9223372036854775808 + z), .float .f64 0]) (by simp [results, Tryd.results7, go_sem]) rfl ?_
          exact ⟨y, z, (by first | exact absurd hr0h.out htp.out | (rw [if_pos rfl, if_pos rfl, sbt htp.out, hr0h.out, sb0])), hA.out, hbel_5⟩
        · have ho : (FloatKind.f64.format.order y 0 == some .eq) = false := by rw [ord_ne hr0 hyl.out]; rfl
          have hrp := hid hr0
          clear hr0
          have n1 := negp (x := y) (by have := hyl.out; omega)
          go_wp2_with fail
          refine (zsign_any true ha_4 (by have := hnh.out; omega)).mono ?_
          rintro e w5 ⟨rfl, hB⟩
          have hB_5 : Below w4.heap.size w4 w5 := (bl.next hB)
          have R_5 := R_4.next hB_5
          have cR_5_0 : _ = some (Value.bool true) := R_5.cell 0
          have cR_5_1 : _ = some (Value.slice a n c) := R_5.cell 1
          have cR_5_2 : _ = some (Value.slice b m d) := R_5.cell 2
          have ha_5 := ha_4.below hB_5
          have hbel_5 := hbel_4.next hB_5
          have hsz_5 := hB_5.size
          clear R_4 cR_4_0 cR_4_1 cR_4_2 ha_4 hbel_4 hB_5
          try clear hB
          go_wp2
          refine bodyPost_ret (v := .tuple #[.float .f64 (9223372036854775808 + z), .float .f64 (9223372036854775808 + y)]) (by simp [results, Tryd.results7, go_sem]) rfl ?_
          exact ⟨y, z, (by first | (rw [if_pos rfl, if_pos rfl, sbt htp.out, sbt hrp.out]; done) | (rw [if_pos rfl, sbt htp.out]; done)), hA.out, hbel_5⟩
      · have hsg : decide (0 ≤ sgn (zv s (val la))) = true := by rw [sgn_ge]; by_cases h1 : s = true <;> by_cases h2 : val la = 0 <;> simp_all
        have hnegh := hid hneg
        clear hneg
        go_wp2_with fail
        refine (zsign_any s ha_4 (by have := hnh.out; omega)).mono ?_
        rintro e w5 ⟨rfl, hB⟩
        have hB_5 : Below w4.heap.size w4 w5 := (bl.next hB)
        have R_5 := R_4.next hB_5
        have cR_5_0 : _ = some (Value.bool s) := R_5.cell 0
        have cR_5_1 : _ = some (Value.slice a n c) := R_5.cell 1
        have cR_5_2 : _ = some (Value.slice b m d) := R_5.cell 2
        have ha_5 := ha_4.below hB_5
        have hbel_5 := hbel_4.next hB_5
        have hsz_5 := hB_5.size
        clear R_4 cR_4_0 cR_4_1 cR_4_2 ha_4 hbel_4 hB_5
        try clear hB
        go_wp2
        refine bodyPost_ret (v := .tuple #[.float .f64 y, .float .f64 z]) (by simp [results, Tryd.results7, go_sem]) rfl ?_
        exact ⟨y, z, (arn_pos hvh.out (by rw [hluh.out] at hnegh; exact hnegh.out) hA.out).symm, hA.out, hbel_5⟩
    · skip
      go_wp2_with fail
      refine (inf_pos).mono ?_
      rintro e w5 ⟨rfl, hB⟩
      have hB_5 : Below w4.heap.size w4 w5 := (bl.next hB)
      have R_5 := R_4.next hB_5
      have cR_5_0 : _ = some (Value.bool s) := R_5.cell 0
      have cR_5_1 : _ = some (Value.slice a n c) := R_5.cell 1
      have cR_5_2 : _ = some (Value.slice b m d) := R_5.cell 2
      have ha_5 := ha_4.below hB_5
      have hbel_5 := hbel_4.next hB_5
      have hsz_5 := hB_5.size
      clear R_4 cR_4_0 cR_4_1 cR_4_2 ha_4 hbel_4 hB_5
      try clear hB
      have hA : Hid (Arnd (u * 2 ^ E74) v 9218868437227405311 9218868437227405312) := (by have h1 := hAr.out; rw [arR_t, arT_t] at h1; exact h1)
      by_cases hneg : s = true ∧ val la ≠ 0
      · obtain ⟨hs, hu0⟩ := hneg
        subst hs
        have hsg : decide (0 ≤ sgn (zv true (val la))) = false := by rw [sgn_ge]; simp [hu0]
        have hu0h := hid hu0
        clear hu0
        have ho : (FloatKind.f64.format.order 9218868437227405311 0 == some .eq) = false := by decide +kernel
        have n1 : ∀ w, Sem.run Tryd.prog (Op.unary .neg (.float .f64 9218868437227405311)) w = .ok (.float .f64 18442240474082181119) w := negp (x := 9218868437227405311) (by decide)
        have n2 : ∀ w, Sem.run Tryd.prog (Op.unary .neg (.float .f64 9218868437227405312)) w = .ok (.float .f64 18442240474082181120) w := negp (x := 9218868437227405312) (by decide)
        go_wp2_with fail
        refine (zsign_any true ha_5 (by have := hnh.out; omega)).mono ?_
        rintro e w6 ⟨rfl, hB⟩
        have hB_6 : Below w5.heap.size w5 w6 := (bl.next hB)
        have R_6 := R_5.next hB_6
        have cR_6_0 : _ = some (Value.bool true) := R_6.cell 0
        have cR_6_1 : _ = some (Value.slice a n c) := R_6.cell 1
        have cR_6_2 : _ = some (Value.slice b m d) := R_6.cell 2
        have ha_6 := ha_5.below hB_6
        have hbel_6 := hbel_5.next hB_6
        have hsz_6 := hB_6.size
        clear R_5 cR_5_0 cR_5_1 cR_5_2 ha_5 hbel_5 hB_6
        try clear hB
        go_wp2
        refine bodyPost_ret (v := .tuple #[.float .f64 18442240474082181120, .float .f64 18442240474082181119]) (by simp [results, Tryd.results7, go_sem]) rfl ?_
        exact ⟨9218868437227405311, 9218868437227405312, (by rw [if_pos rfl, if_pos rfl, sb_it, sb_it']), hA.out, hbel_6⟩
      · have hsg : decide (0 ≤ sgn (zv s (val la))) = true := by rw [sgn_ge]; by_cases h1 : s = true <;> by_cases h2 : val la = 0 <;> simp_all
        have hnegh := hid hneg
        clear hneg
        go_wp2_with fail
        refine (zsign_any s ha_5 (by have := hnh.out; omega)).mono ?_
        rintro e w6 ⟨rfl, hB⟩
        have hB_6 : Below w5.heap.size w5 w6 := (bl.next hB)
        have R_6 := R_5.next hB_6
        have cR_6_0 : _ = some (Value.bool s) := R_6.cell 0
        have cR_6_1 : _ = some (Value.slice a n c) := R_6.cell 1
        have cR_6_2 : _ = some (Value.slice b m d) := R_6.cell 2
        have ha_6 := ha_5.below hB_6
        have hbel_6 := hbel_5.next hB_6
        have hsz_6 := hB_6.size
        clear R_5 cR_5_0 cR_5_1 cR_5_2 ha_5 hbel_5 hB_6
        try clear hB
        go_wp2
        refine bodyPost_ret (v := .tuple #[.float .f64 9218868437227405311, .float .f64 9218868437227405312]) (by simp [results, Tryd.results7, go_sem]) rfl ?_
        exact ⟨9218868437227405311, 9218868437227405312, (arn_pos hvh.out (by rw [hluh.out] at hnegh; exact hnegh.out) hA.out).symm, hA.out, hbel_6⟩

end Go.Proofs.YtoeldbdcbfgmoaaDoor
