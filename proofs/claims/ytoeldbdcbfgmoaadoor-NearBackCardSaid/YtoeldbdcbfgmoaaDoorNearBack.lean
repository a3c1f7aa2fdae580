/- THE WALK OF credencelaw05.NearBack: a float's value is nearest to the float. -/
import Derived.Test.YtoeldbdcbfgmoaaDoorAl
namespace Go.Proofs.YtoeldbdcbfgmoaaDoor
set_option linter.unusedVariables false
set_option linter.unusedSimpArgs false
open Go.ChangeShapes Go.WideShapes Go.ChangeAt Go.RowKit Go.NatP Go.FloatP

open Ieee in
/-- no number: a float less itself -/
theorem sub_nf {x : Nat} (h : ¬ fr x < 9218868437227405312) : double.sub x x = none := by
  by_cases h2 : fr x = 9218868437227405312
  · unfold Format.sub
    rw [read_inf h2]
    cases fs x <;> rfl
  · unfold Format.sub
    rw [read_nan (by omega)]
    rfl
theorem nb_nan (x y : Nat) (t : Nat) : fnan ((Question.nanBits .f64 x y).cut t) = true := by
  unfold Question.cut
  show decide (9218868437227405312 < fr (t % 2 * 2 ^ 63 + 0x7ff0000000000000 + 1 + t / 2 % (2 ^ 52 - 1))) = true
  have h1 : t / 2 % (2 ^ 52 - 1) < 4503599627370495 := Nat.mod_lt _ (by decide)
  generalize t / 2 % (2 ^ 52 - 1) = m at *
  have h2 : t % 2 < 2 := Nat.mod_lt _ (by decide)
  generalize t % 2 = k at *
  unfold fr
  exact decide_eq_true (by omega)
def nB (x : Nat) (w : World) : Nat := (Question.nanBits .f64 x x).cut (w.tape w.drawn (.nanBits .f64 x x))
theorem nB_ne (x : Nat) (w : World) : (FloatKind.f64.format.order (nB x w) 0 == some .eq) = false := by
  have h : fnan (nB x w) = true := nb_nan _ _ _
  have h2 : FloatKind.f64.format.order (nB x w) 0 = none := fcmp_nan (.inl h)
  rw [h2]; rfl
theorem run_sub_nf {x : Nat} (h : ¬ fr x < 9218868437227405312) (w : World) : (binOp .sub 28 (.float .f64 x) (.float .f64 x)).run Tryd.prog w = .ok (.float .f64 (nB x w)) w.drew := by
  have hs : FloatKind.f64.format.sub x x = none := sub_nf h
  have hq : (Question.nanBits FloatKind.f64 x x).forced = false := rfl
  simp [binOp, Op.floatArith, hs, hq]
  rfl
open Ieee in
theorem sub32_fin {x : Nat} (hx : x < 4294967296) (hn : nan32 x = false) (hfin : fr (c32 x) < 9218868437227405312) : single.sub x x = some 0 := by
  obtain ⟨s, m, e, hr, _⟩ := read32' hx hn hfin
  unfold Format.sub
  rw [hr]
  simp only [Datum.opposite, Datum.sum, signed_opp, Option.map_some, if_true]
  cases s <;> rfl
open Ieee in
theorem sub32_nf {x : Nat} (h : ¬ (nan32 x = false ∧ fr (c32 x) < 9218868437227405312)) : single.sub x x = none := by
  have hnan : ∀ s t, single.read x = .nan s t → single.sub x x = none := fun s t hr => by
    unfold Format.sub; rw [hr]; rfl
  rcases read32 x with ⟨_, s, t, hr⟩ | ⟨_, s, hr⟩ | ⟨h1, s, m, e, hr, hm, h2, h3⟩
  · exact hnan s t hr
  · unfold Format.sub
    rw [hr]
    cases s <;> rfl
  · exact absurd ⟨h1, (show fr (double.write (single.read x)) < _ by rw [hr]; exact nearest_fin s hm h2 h3)⟩ h
def nB32 (x : Nat) (w : World) : Nat := (Question.nanBits .f32 x x).cut (w.tape w.drawn (.nanBits .f32 x x))
open Ieee in
theorem nB32_ne (x : Nat) (w : World) : (FloatKind.f32.format.order (nB32 x w) 0 == some .eq) = false := by
  have hn : ∃ s t, single.read (nB32 x w) = .nan s t := by
    have h : nan32 (nB32 x w) = true := by
      unfold nB32 Question.cut
      generalize w.tape w.drawn _ = t
      show decide (2139095040 < (t % 2 * 2 ^ 31 + 0x7f800000 + 1 + t / 2 % (2 ^ 23 - 1)) % 2147483648) = true
      have h1 : t / 2 % (2 ^ 23 - 1) < 8388607 := Nat.mod_lt _ (by decide)
      generalize t / 2 % (2 ^ 23 - 1) = m at *
      have h2 : t % 2 < 2 := Nat.mod_lt _ (by decide)
      generalize t % 2 = k at *
      exact decide_eq_true (by omega)
    rcases read32 (nB32 x w) with ⟨_, s, t, hr⟩ | ⟨h1, _⟩ | ⟨h1, _⟩
    · exact ⟨s, t, hr⟩
    · rw [h] at h1; cases h1
    · rw [h] at h1; cases h1
  obtain ⟨s, t, hr⟩ := hn
  show (single.order (nB32 x w) 0 == some .eq) = false
  unfold Format.order
  rw [hr]
  rfl
theorem run_sub32_nf {x : Nat} (h : ¬ (nan32 x = false ∧ fr (c32 x) < 9218868437227405312)) (w : World) : (binOp .sub 42 (.float .f32 x) (.float .f32 x)).run Tryd.prog w = .ok (.float .f32 (nB32 x w)) w.drew := by
  have hs : FloatKind.f32.format.sub x x = none := sub32_nf h
  have hq : (Question.nanBits FloatKind.f32 x x).forced = false := rfl
  simp [binOp, Op.floatArith, hs, hq]
  rfl
/-! ### back -/
/-- the float, a nought without its sign -/
def nz (f : Nat) : Nat := if fr f = 0 then 0 else f
def nz32 (s : Nat) : Nat := if fr (c32 s) = 0 then 0 else s
theorem sb_back {f : Nat} (hf : f < 18446744073709551616) : sb (fs f && decide (fr f ≠ 0)) (fr f) = nz f := by
  unfold nz sb
  by_cases h0 : fr f = 0
  · rw [if_pos h0, h0]; simp
  · rw [if_neg h0]
    unfold fs
    unfold fr at h0 ⊢
    by_cases h1 : f / 9223372036854775808 % 2 = 1
    · rw [if_pos (by simp [h1, h0])]; omega
    · rw [if_neg (by simp [h1])]; omega
theorem fq_fin {f : Nat} (h : fr f < 9218868437227405312) : fq f = flV (fs f) (fr f) := if_pos h
theorem fe_fin {f : Nat} (h : fr f < 9218868437227405312) : fe f = 0 := if_pos h
theorem fe_nf {f : Nat} (h : ¬ fr f < 9218868437227405312) : fe f = 13 := if_neg h
theorem dv_den (q : Rat) : dv (val (lm q.den)) = q.den := by rw [val_lm]; unfold dv; rw [if_neg q.den_nz]
theorem fq_u {f : Nat} (h : fr f < 9218868437227405312) : (fq f).num.natAbs * 2 ^ E74 = fg (fr f) * (fq f).den := by rw [fq_fin h]; exact flV_cross _ _
theorem fq_s {f : Nat} (h : fr f < 9218868437227405312) : decide ((fq f).num < 0) = (fs f && decide (fr f ≠ 0)) := by rw [fq_fin h]; exact flV_neg _ _
theorem near_back {w : World} (GL : Lng w) {f : Nat} {a b : Option Addr} {n c m d : Nat} (hf : f < 18446744073709551616) (h : fr f < 9218868437227405312) (ha : Rd w a n c (qnl (fq f) 0)) (hb : Rd w b m d (qdl (fq f) 0)) :
    Calls Tryd.prog 9 #[.agg #[.bool (qsg (fq f) 0), .slice a n c, .slice b m d]] w (fun e w' => e = .returned (.float .f64 (nz f)) ∧ Below w.heap.size w w') := by
  have q1 := ha.len
  have q2 := hb.len
  have q3 : (qnl (fq f) 0).length ≤ 66 := (fq_qs f).len1
  have q4 : (qdl (fq f) 0).length ≤ 66 := (fq_qs f).len2
  refine (nearest_g GL ha hb (by omega) (by omega) (val_lm _) (dv_den _)).mono fun e w' ⟨q, E, more, half, far, he, hC, hB⟩ => ⟨?_, hB⟩
  have hN := near_of_cut hC
  rw [fq_u h] at hN
  rw [he, near_exact (fq f).den_nz h hN, qsg_ok, fq_s h, sb_back hf]
theorem arnd_back {w : World} (GL : Lng w) {f : Nat} {a b : Option Addr} {n c m d : Nat} (hf : f < 18446744073709551616) (h : fr f < 9218868437227405312) (ha : Rd w a n c (qnl (fq f) 0)) (hb : Rd w b m d (qdl (fq f) 0)) :
    Calls Tryd.prog 7 #[.agg #[.bool (qsg (fq f) 0), .slice a n c, .slice b m d]] w (fun e w' => e = .returned (.tuple #[.float .f64 (nz f), .float .f64 (nz f)]) ∧ Below w.heap.size w w') := by
  have q1 := ha.len
  have q2 := hb.len
  have q3 : (qnl (fq f) 0).length ≤ 66 := (fq_qs f).len1
  have q4 : (qdl (fq f) 0).length ≤ 66 := (fq_qs f).len2
  refine (around_g GL ha hb (by omega) (by omega) (val_lm _) (dv_den _)).mono fun e w' ⟨r, t, he, hA, hB⟩ => ⟨?_, hB⟩
  rw [fq_u h] at hA
  obtain ⟨h1, h2⟩ := arnd_exact (fq f).den_nz h hA
  rw [he, h1, h2, qsg_ok, fq_s h, ← sb_back hf]
  cases fs f && decide (fr f ≠ 0)
  · rw [if_neg (by decide)]; unfold sb; rw [if_neg (by simp)]
  · rw [if_pos rfl]
theorem single_back {w : World} (GS : Sht w) {s : Nat} {a b : Option Addr} {n c m d : Nat} (hs : s < 4294967296) (hn : nan32 s = false) (h : fr (c32 s) < 9218868437227405312) (ha : Rd w a n c (qnl (fq (c32 s)) 0)) (hb : Rd w b m d (qdl (fq (c32 s)) 0)) :
    Calls Tryd.prog 18 #[.agg #[.bool (qsg (fq (c32 s)) 0), .slice a n c, .slice b m d]] w (fun e w' => e = .returned (.float .f32 (nz32 s)) ∧ Below w.heap.size w w') := by
  have q1 := ha.len
  have q2 := hb.len
  have q3 : (qnl (fq (c32 s)) 0).length ≤ 66 := (fq_qs (c32 s)).len1
  have q4 : (qdl (fq (c32 s)) 0).length ≤ 66 := (fq_qs (c32 s)).len2
  obtain ⟨m0, e0, hS⟩ := s32_of hs hn h
  refine single_g GS ha hb (by omega) (by omega) (val_lm _) (dv_den _) (r := nz32 s) fun q E more half far hC => ?_
  rw [cut_short hS (fq (c32 s)).den_nz (fq_u h) h hC, qsg_ok, fq_s h, sb_back (c32_lt s)]
  unfold nz nz32
  by_cases h0 : fr (c32 s) = 0
  · rw [if_pos h0, if_pos h0]; decide +kernel
  · rw [if_neg h0, if_neg h0]; exact hS.back h0
theorem nz32_eq {s : Nat} (hs : s < 4294967296) (hn : nan32 s = false) (h : fr (c32 s) < 9218868437227405312) : (FloatKind.f32.format.order (nz32 s) s != some .eq) = false := by
  obtain ⟨m0, e0, hS⟩ := s32_of hs hn h
  unfold nz32
  by_cases h0 : fr (c32 s) = 0
  · rw [if_pos h0]; simp only [bne, hS.zero h0]; rfl
  · rw [if_neg h0]; simp only [bne, hS.self]; rfl
theorem wf64 {b : Nat} (h : (Lit.float .f64 b).wf = true) : b < 18446744073709551616 := by
  have : b < 2 ^ 64 := by simpa [Lit.wf] using h
  omega
theorem wf32 {b : Nat} (h : (Lit.float .f32 b).wf = true) : b < 4294967296 := by
  have : b < 2 ^ 32 := by simpa [Lit.wf] using h
  omega
theorem fin_fnan {x : Nat} (h : fr x < 9218868437227405312) : fnan x = false := decide_eq_false (by omega)
theorem zero_eq {f : Nat} (h : fr f = 0) : (FloatKind.f64.format.order 0 f != some .eq) = false := by
  have h2 := fcmp_num (x := 0) (y := f) (by decide) (fin_fnan (by omega))
  unfold fcmp at h2
  rw [h2]
  have h3 : fk f = 0 := by unfold fk; rw [h]; cases fs f <;> rfl
  have h4 : fk 0 = 0 := by decide
  rw [h3, h4]
  rfl
theorem self_eq {f : Nat} (h : fr f < 9218868437227405312) : (FloatKind.f64.format.order f f != some .eq) = false := by rw [fcmp_self]; exact fin_fnan h
theorem ne_zero {f : Nat} (h : fr f < 9218868437227405312) (h0 : fr f ≠ 0) : (FloatKind.f64.format.order f 0 == some .eq) = false := by
  have h2 := fcmp_num (x := f) (y := 0) (fin_fnan h) (by decide)
  unfold fcmp at h2
  rw [h2]
  have h4 : fk 0 = 0 := by decide
  unfold ic
  rw [h4]
  unfold fk
  cases fs f
  · simp only [Bool.false_eq_true, if_false]
    rw [if_neg (by omega), if_neg (by omega)]
    rfl
  · simp only [if_true]
    rw [if_pos (by omega)]
    rfl
set_option maxRecDepth 100000 in
theorem signbit_zero {w : World} : Calls Tryd.prog 17 #[.float .f64 0] w fun e w' => e = .returned (.bool false) ∧ Below w.heap.size w w' := by
  have hb : ∀ w, Sem.run Tryd.prog (callFunc 33 #[Value.float FloatKind.f64 0]) w = .ok (.value (.int .u64 0)) w := f64bits 0
  go_enter Tryd.func17, Tryd.ntmps17
  go_wp2
  go_ret
  exact ⟨rfl, Below.refl _ _⟩

set_option maxRecDepth 100000 in
set_option maxHeartbeats 16000000 in
theorem nearBack_zf {w : World} (GL : Lng w) (GS : Sht w) (f s : Nat) (hf : f < 18446744073709551616) (hs : s < 4294967296) (hfin : fr f < 9218868437227405312) (h0 : fr f = 0) (hsn : nan32 s = false) (hsf : fr (c32 s) < 9218868437227405312) :
    Calls Tryd.prog 4 #[.float .f64 f, .float .f32 s] w (fun e w' => e = .returned (.bool true) ∧ Below w.heap.size w w') := by
  have HA := hid (fun w (g : Lng w) (h : Sht w) => alive05 g h)
  have HP := hid (fun w => near64 (w := w) f hf)
  have HS := hid (fun w => near32 (w := w) s)
  rw [show fe f = 0 from fe_fin hfin] at HP
  have hsub := fun w => run_float_arith (P := Tryd.prog) w .sub 28 .f64 f f 0 (sub_self_fin hfin)
  have HN := hid (fun w (g : Lng w) a n c b m d (ha : Rd w a n c (qnl (fq f) 0)) (hb : Rd w b m d (qdl (fq f) 0)) => near_back g hf hfin ha hb)
  have HR := hid (fun w (g : Lng w) a n c b m d (ha : Rd w a n c (qnl (fq f) 0)) (hb : Rd w b m d (qdl (fq f) 0)) => arnd_back g hf hfin ha hb)
  rw [show nz f = 0 from if_pos h0] at HN HR
  have hoe := zero_eq h0
  have HZ := hid (fun w => signbit_zero (w := w))
  have ho0 : (FloatKind.f64.format.order 0 0 == some .eq) = true := by decide +kernel
  have hqs : fq32 s = fq (c32 s) := by unfold fq32; rw [hsn]; exact if_neg (by decide)
  have hfe2 : fe32 s = 0 := by unfold fe32; rw [hsn, if_neg (by decide)]; exact fe_fin hsf
  rw [hqs, hfe2] at HS
  clear hqs hfe2
  have hsub2 := fun w => run_float_arith (P := Tryd.prog) w .sub 42 .f32 s s 0 (sub32_fin hs hsn hsf)
  have HG := hid (fun w (g : Sht w) a n c b m d (ha : Rd w a n c (qnl (fq (c32 s)) 0)) (hb : Rd w b m d (qdl (fq (c32 s)) 0)) => single_back g hs hsn hsf ha hb)
  have hoe2 := nz32_eq hs hsn hsf
  have ho32 : (FloatKind.f32.format.order 0 0 == some .eq) = true := by decide +kernel
  clear hfin hsn hf hs h0 hsf
  go_enter Tryd.func4, Tryd.ntmps4
  have hbel_0 : Below w.heap.size w w := Below.refl _ _
  have GL_0 := GL.below hbel_0
  clear GL
  have GS_0 := GS.below hbel_0
  clear GS
  go_wp2_with fail
  refine (HA.out _ GL_0 GS_0).mono ?_
  rintro e w1 ⟨rfl, hB⟩
  have hB_1 : Below w.heap.size w w1 := (bl.next hB)
  have GL_1 := GL_0.below hB_1
  have GS_1 := GS_0.below hB_1
  have hbel_1 := hbel_0.next hB_1
  have hsz_1 := hB_1.size
  clear GL_0 GS_0 hbel_0 hB_1
  try clear hB
  go_wp2_with fail
  refine (HP.out _).mono ?_
  rintro e w2 ⟨xa, xn, xc, xb, xm, xd, rfl, hO, hO', hD, hB⟩
  have hB_2 : Below w1.heap.size w1 w2 := (bl.next hB)
  have GL_2 := GL_1.below hB_2
  have GS_2 := GS_1.below hB_2
  have hbel_2 := hbel_1.next hB_2
  have hsz_2 := hB_2.size
  clear GL_1 GS_1 hbel_1 hB_2
  have Ox_2 := hO
  have ltOx := hO.ltB
  have Px_2 := hO'
  have ltPx := hO'.ltB
  clear hO hO' hD
  try clear hB
  have hbx := blk_new w2 #[Value.bool (qsg (fq f) 0), Value.slice xa xn xc, Value.slice xb xm xd] 27
  have hbB := (Below.refl w2.heap.size w2).alloc (Nat.le_refl _) (.cells #[Value.bool (qsg (fq f) 0), Value.slice xa xn xc, Value.slice xb xm xd] 27)
  have hltA := hbx.lt
  have hB_3 : Below w2.heap.size w2 (w2.alloc (.cells #[Value.bool (qsg (fq f) 0), Value.slice xa xn xc, Value.slice xb xm xd] 27)) := hbB
  have GL_3 := GL_2.below hB_3
  have GS_3 := GS_2.below hB_3
  have Ox_3 := Ox_2.below hB_3
  have Px_3 := Px_2.below hB_3
  have hbel_3 := hbel_2.next hB_3
  have hsz_3 := hB_3.size
  clear hB_3
  have A_3 := hbx
  clear hbx hbB
  have cA_3_0 : _ = some (Value.bool (qsg (fq f) 0)) := A_3.cell 0
  have cA_3_1 : _ = some (Value.slice xa xn xc) := A_3.cell 1
  have cA_3_2 : _ = some (Value.slice xb xm xd) := A_3.cell 2
  go_wp2_with fail
  clear GL_2 GS_2 Ox_2 Px_2 hbel_2
  generalize (w2.alloc (.cells #[Value.bool (qsg (fq f) 0), Value.slice xa xn xc, Value.slice xb xm xd] 27)) = v3 at *
  go_wp2_with fail
  refine (HS.out _).mono ?_
  rintro e w4 ⟨ya, yn, yc, yb, ym, yd, rfl, hO, hO', hD, hB⟩
  have hB_4 : Below v3.heap.size v3 w4 := (bl.next hB)
  have A_4 := A_3.next hB_4
  have cA_4_0 : _ = some (Value.bool (qsg (fq f) 0)) := A_4.cell 0
  have cA_4_1 : _ = some (Value.slice xa xn xc) := A_4.cell 1
  have cA_4_2 : _ = some (Value.slice xb xm xd) := A_4.cell 2
  have GL_4 := GL_3.below hB_4
  have GS_4 := GS_3.below hB_4
  have Ox_4 := Ox_3.below hB_4
  have Px_4 := Px_3.below hB_4
  have hbel_4 := hbel_3.next hB_4
  have hsz_4 := hB_4.size
  clear A_3 cA_3_0 cA_3_1 cA_3_2 GL_3 GS_3 Ox_3 Px_3 hbel_3 hB_4
  have Oy_4 := hO
  have ltOy := hO.ltB
  have Py_4 := hO'
  have ltPy := hO'.ltB
  clear hO hO' hD
  try clear hB
  have hbx := blk_new w4 #[Value.bool (qsg (fq (c32 s)) 0), Value.slice ya yn yc, Value.slice yb ym yd] 27
  have hbB := (Below.refl w4.heap.size w4).alloc (Nat.le_refl _) (.cells #[Value.bool (qsg (fq (c32 s)) 0), Value.slice ya yn yc, Value.slice yb ym yd] 27)
  have hltB := hbx.lt
  have hB_5 : Below w4.heap.size w4 (w4.alloc (.cells #[Value.bool (qsg (fq (c32 s)) 0), Value.slice ya yn yc, Value.slice yb ym yd] 27)) := hbB
  have A_5 := A_4.next hB_5
  have cA_5_0 : _ = some (Value.bool (qsg (fq f) 0)) := A_5.cell 0
  have cA_5_1 : _ = some (Value.slice xa xn xc) := A_5.cell 1
  have cA_5_2 : _ = some (Value.slice xb xm xd) := A_5.cell 2
  have GL_5 := GL_4.below hB_5
  have GS_5 := GS_4.below hB_5
  have Ox_5 := Ox_4.below hB_5
  have Px_5 := Px_4.below hB_5
  have Oy_5 := Oy_4.below hB_5
  have Py_5 := Py_4.below hB_5
  have hbel_5 := hbel_4.next hB_5
  have hsz_5 := hB_5.size
  clear hB_5
  have B_5 := hbx
  clear hbx hbB
  have cB_5_0 : _ = some (Value.bool (qsg (fq (c32 s)) 0)) := B_5.cell 0
  have cB_5_1 : _ = some (Value.slice ya yn yc) := B_5.cell 1
  have cB_5_2 : _ = some (Value.slice yb ym yd) := B_5.cell 2
  go_wp2_with fail
  clear A_4 cA_4_0 cA_4_1 cA_4_2 GL_4 GS_4 Ox_4 Px_4 Oy_4 Py_4 hbel_4
  generalize (w4.alloc (.cells #[Value.bool (qsg (fq (c32 s)) 0), Value.slice ya yn yc, Value.slice yb ym yd] 27)) = v5 at *
  go_wp2_with fail
  refine (HR.out _ GL_5 _ _ _ _ _ _ Ox_5.rd Px_5.rd).mono ?_
  rintro e w6 ⟨rfl, hB⟩
  have hB_6 : Below v5.heap.size v5 w6 := (bl.next hB)
  have A_6 := A_5.next hB_6
  have cA_6_0 : _ = some (Value.bool (qsg (fq f) 0)) := A_6.cell 0
  have cA_6_1 : _ = some (Value.slice xa xn xc) := A_6.cell 1
  have cA_6_2 : _ = some (Value.slice xb xm xd) := A_6.cell 2
  have B_6 := B_5.next hB_6
  have cB_6_0 : _ = some (Value.bool (qsg (fq (c32 s)) 0)) := B_6.cell 0
  have cB_6_1 : _ = some (Value.slice ya yn yc) := B_6.cell 1
  have cB_6_2 : _ = some (Value.slice yb ym yd) := B_6.cell 2
  have GL_6 := GL_5.below hB_6
  have GS_6 := GS_5.below hB_6
  have Ox_6 := Ox_5.below hB_6
  have Px_6 := Px_5.below hB_6
  have Oy_6 := Oy_5.below hB_6
  have Py_6 := Py_5.below hB_6
  have hbel_6 := hbel_5.next hB_6
  have hsz_6 := hB_6.size
  clear A_5 cA_5_0 cA_5_1 cA_5_2 B_5 cB_5_0 cB_5_1 cB_5_2 GL_5 GS_5 Ox_5 Px_5 Oy_5 Py_5 hbel_5 hB_6
  try clear hB
  go_wp2_with fail
  refine (HN.out _ GL_6 _ _ _ _ _ _ Ox_6.rd Px_6.rd).mono ?_
  rintro e w7 ⟨rfl, hB⟩
  have hB_7 : Below w6.heap.size w6 w7 := (bl.next hB)
  have A_7 := A_6.next hB_7
  have cA_7_0 : _ = some (Value.bool (qsg (fq f) 0)) := A_7.cell 0
  have cA_7_1 : _ = some (Value.slice xa xn xc) := A_7.cell 1
  have cA_7_2 : _ = some (Value.slice xb xm xd) := A_7.cell 2
  have B_7 := B_6.next hB_7
  have cB_7_0 : _ = some (Value.bool (qsg (fq (c32 s)) 0)) := B_7.cell 0
  have cB_7_1 : _ = some (Value.slice ya yn yc) := B_7.cell 1
  have cB_7_2 : _ = some (Value.slice yb ym yd) := B_7.cell 2
  have GL_7 := GL_6.below hB_7
  have GS_7 := GS_6.below hB_7
  have Ox_7 := Ox_6.below hB_7
  have Px_7 := Px_6.below hB_7
  have Oy_7 := Oy_6.below hB_7
  have Py_7 := Py_6.below hB_7
  have hbel_7 := hbel_6.next hB_7
  have hsz_7 := hB_7.size
  clear A_6 cA_6_0 cA_6_1 cA_6_2 B_6 cB_6_0 cB_6_1 cB_6_2 GL_6 GS_6 Ox_6 Px_6 Oy_6 Py_6 hbel_6 hB_7
  try clear hB
  go_wp2_with fail
  refine (HZ.out _).mono ?_
  rintro e w8 ⟨rfl, hB⟩
  have hB_8 : Below w7.heap.size w7 w8 := (bl.next hB)
  have A_8 := A_7.next hB_8
  have cA_8_0 : _ = some (Value.bool (qsg (fq f) 0)) := A_8.cell 0
  have cA_8_1 : _ = some (Value.slice xa xn xc) := A_8.cell 1
  have cA_8_2 : _ = some (Value.slice xb xm xd) := A_8.cell 2
  have B_8 := B_7.next hB_8
  have cB_8_0 : _ = some (Value.bool (qsg (fq (c32 s)) 0)) := B_8.cell 0
  have cB_8_1 : _ = some (Value.slice ya yn yc) := B_8.cell 1
  have cB_8_2 : _ = some (Value.slice yb ym yd) := B_8.cell 2
  have GL_8 := GL_7.below hB_8
  have GS_8 := GS_7.below hB_8
  have Ox_8 := Ox_7.below hB_8
  have Px_8 := Px_7.below hB_8
  have Oy_8 := Oy_7.below hB_8
  have Py_8 := Py_7.below hB_8
  have hbel_8 := hbel_7.next hB_8
  have hsz_8 := hB_8.size
  clear A_7 cA_7_0 cA_7_1 cA_7_2 B_7 cB_7_0 cB_7_1 cB_7_2 GL_7 GS_7 Ox_7 Px_7 Oy_7 Py_7 hbel_7 hB_8
  try clear hB
  go_wp2_with fail
  refine (HZ.out _).mono ?_
  rintro e w9 ⟨rfl, hB⟩
  have hB_9 : Below w8.heap.size w8 w9 := (bl.next hB)
  have A_9 := A_8.next hB_9
  have cA_9_0 : _ = some (Value.bool (qsg (fq f) 0)) := A_9.cell 0
  have cA_9_1 : _ = some (Value.slice xa xn xc) := A_9.cell 1
  have cA_9_2 : _ = some (Value.slice xb xm xd) := A_9.cell 2
  have B_9 := B_8.next hB_9
  have cB_9_0 : _ = some (Value.bool (qsg (fq (c32 s)) 0)) := B_9.cell 0
  have cB_9_1 : _ = some (Value.slice ya yn yc) := B_9.cell 1
  have cB_9_2 : _ = some (Value.slice yb ym yd) := B_9.cell 2
  have GL_9 := GL_8.below hB_9
  have GS_9 := GS_8.below hB_9
  have Ox_9 := Ox_8.below hB_9
  have Px_9 := Px_8.below hB_9
  have Oy_9 := Oy_8.below hB_9
  have Py_9 := Py_8.below hB_9
  have hbel_9 := hbel_8.next hB_9
  have hsz_9 := hB_9.size
  clear A_8 cA_8_0 cA_8_1 cA_8_2 B_8 cB_8_0 cB_8_1 cB_8_2 GL_8 GS_8 Ox_8 Px_8 Oy_8 Py_8 hbel_8 hB_9
  try clear hB
  go_wp2_with fail
  refine (HZ.out _).mono ?_
  rintro e w10 ⟨rfl, hB⟩
  have hB_10 : Below w9.heap.size w9 w10 := (bl.next hB)
  have A_10 := A_9.next hB_10
  have cA_10_0 : _ = some (Value.bool (qsg (fq f) 0)) := A_10.cell 0
  have cA_10_1 : _ = some (Value.slice xa xn xc) := A_10.cell 1
  have cA_10_2 : _ = some (Value.slice xb xm xd) := A_10.cell 2
  have B_10 := B_9.next hB_10
  have cB_10_0 : _ = some (Value.bool (qsg (fq (c32 s)) 0)) := B_10.cell 0
  have cB_10_1 : _ = some (Value.slice ya yn yc) := B_10.cell 1
  have cB_10_2 : _ = some (Value.slice yb ym yd) := B_10.cell 2
  have GL_10 := GL_9.below hB_10
  have GS_10 := GS_9.below hB_10
  have Ox_10 := Ox_9.below hB_10
  have Px_10 := Px_9.below hB_10
  have Oy_10 := Oy_9.below hB_10
  have Py_10 := Py_9.below hB_10
  have hbel_10 := hbel_9.next hB_10
  have hsz_10 := hB_10.size
  clear A_9 cA_9_0 cA_9_1 cA_9_2 B_9 cB_9_0 cB_9_1 cB_9_2 GL_9 GS_9 Ox_9 Px_9 Oy_9 Py_9 hbel_9 hB_10
  try clear hB
  go_wp2_with fail
  refine (HG.out _ GS_10 _ _ _ _ _ _ Oy_10.rd Py_10.rd).mono ?_
  rintro e w11 ⟨rfl, hB⟩
  have hB_11 : Below w10.heap.size w10 w11 := (bl.next hB)
  have A_11 := A_10.next hB_11
  have cA_11_0 : _ = some (Value.bool (qsg (fq f) 0)) := A_11.cell 0
  have cA_11_1 : _ = some (Value.slice xa xn xc) := A_11.cell 1
  have cA_11_2 : _ = some (Value.slice xb xm xd) := A_11.cell 2
  have B_11 := B_10.next hB_11
  have cB_11_0 : _ = some (Value.bool (qsg (fq (c32 s)) 0)) := B_11.cell 0
  have cB_11_1 : _ = some (Value.slice ya yn yc) := B_11.cell 1
  have cB_11_2 : _ = some (Value.slice yb ym yd) := B_11.cell 2
  have GL_11 := GL_10.below hB_11
  have GS_11 := GS_10.below hB_11
  have Ox_11 := Ox_10.below hB_11
  have Px_11 := Px_10.below hB_11
  have Oy_11 := Oy_10.below hB_11
  have Py_11 := Py_10.below hB_11
  have hbel_11 := hbel_10.next hB_11
  have hsz_11 := hB_11.size
  clear A_10 cA_10_0 cA_10_1 cA_10_2 B_10 cB_10_0 cB_10_1 cB_10_2 GL_10 GS_10 Ox_10 Px_10 Oy_10 Py_10 hbel_10 hB_11
  try clear hB
  go_wp2
  go_ret
  exact ⟨rfl, hbel_11⟩

set_option maxRecDepth 100000 in
set_option maxHeartbeats 16000000 in
theorem nearBack_zi {w : World} (GL : Lng w) (GS : Sht w) (f s : Nat) (hf : f < 18446744073709551616) (hs : s < 4294967296) (hfin : fr f < 9218868437227405312) (h0 : fr f = 0) (hsn : ¬ (nan32 s = false ∧ fr (c32 s) < 9218868437227405312)) :
    Calls Tryd.prog 4 #[.float .f64 f, .float .f32 s] w (fun e w' => e = .returned (.bool true) ∧ Below w.heap.size w w') := by
  have HA := hid (fun w (g : Lng w) (h : Sht w) => alive05 g h)
  have HP := hid (fun w => near64 (w := w) f hf)
  have HS := hid (fun w => near32 (w := w) s)
  rw [show fe f = 0 from fe_fin hfin] at HP
  have hsub := fun w => run_float_arith (P := Tryd.prog) w .sub 28 .f64 f f 0 (sub_self_fin hfin)
  have HN := hid (fun w (g : Lng w) a n c b m d (ha : Rd w a n c (qnl (fq f) 0)) (hb : Rd w b m d (qdl (fq f) 0)) => near_back g hf hfin ha hb)
  have HR := hid (fun w (g : Lng w) a n c b m d (ha : Rd w a n c (qnl (fq f) 0)) (hb : Rd w b m d (qdl (fq f) 0)) => arnd_back g hf hfin ha hb)
  rw [show nz f = 0 from if_pos h0] at HN HR
  have hoe := zero_eq h0
  have HZ := hid (fun w => signbit_zero (w := w))
  have ho0 : (FloatKind.f64.format.order 0 0 == some .eq) = true := by decide +kernel
  have hfe2 : fe32 s = 13 := by
    unfold fe32
    cases hq : nan32 s
    · rw [if_neg (by decide)]; exact fe_nf (fun h => hsn ⟨hq, h⟩)
    · exact if_pos rfl
  rw [hfe2] at HS
  clear hfe2
  have hsub2 := run_sub32_nf hsn
  have hno2 := nB32_ne s
  clear hfin hsn hf hs h0
  go_enter Tryd.func4, Tryd.ntmps4
  have hbel_0 : Below w.heap.size w w := Below.refl _ _
  have GL_0 := GL.below hbel_0
  clear GL
  have GS_0 := GS.below hbel_0
  clear GS
  go_wp2_with fail
  refine (HA.out _ GL_0 GS_0).mono ?_
  rintro e w1 ⟨rfl, hB⟩
  have hB_1 : Below w.heap.size w w1 := (bl.next hB)
  have GL_1 := GL_0.below hB_1
  have GS_1 := GS_0.below hB_1
  have hbel_1 := hbel_0.next hB_1
  have hsz_1 := hB_1.size
  clear GL_0 GS_0 hbel_0 hB_1
  try clear hB
  go_wp2_with fail
  refine (HP.out _).mono ?_
  rintro e w2 ⟨xa, xn, xc, xb, xm, xd, rfl, hO, hO', hD, hB⟩
  have hB_2 : Below w1.heap.size w1 w2 := (bl.next hB)
  have GL_2 := GL_1.below hB_2
  have GS_2 := GS_1.below hB_2
  have hbel_2 := hbel_1.next hB_2
  have hsz_2 := hB_2.size
  clear GL_1 GS_1 hbel_1 hB_2
  have Ox_2 := hO
  have ltOx := hO.ltB
  have Px_2 := hO'
  have ltPx := hO'.ltB
  clear hO hO' hD
  try clear hB
  have hbx := blk_new w2 #[Value.bool (qsg (fq f) 0), Value.slice xa xn xc, Value.slice xb xm xd] 27
  have hbB := (Below.refl w2.heap.size w2).alloc (Nat.le_refl _) (.cells #[Value.bool (qsg (fq f) 0), Value.slice xa xn xc, Value.slice xb xm xd] 27)
  have hltA := hbx.lt
  have hB_3 : Below w2.heap.size w2 (w2.alloc (.cells #[Value.bool (qsg (fq f) 0), Value.slice xa xn xc, Value.slice xb xm xd] 27)) := hbB
  have GL_3 := GL_2.below hB_3
  have GS_3 := GS_2.below hB_3
  have Ox_3 := Ox_2.below hB_3
  have Px_3 := Px_2.below hB_3
  have hbel_3 := hbel_2.next hB_3
  have hsz_3 := hB_3.size
  clear hB_3
  have A_3 := hbx
  clear hbx hbB
  have cA_3_0 : _ = some (Value.bool (qsg (fq f) 0)) := A_3.cell 0
  have cA_3_1 : _ = some (Value.slice xa xn xc) := A_3.cell 1
  have cA_3_2 : _ = some (Value.slice xb xm xd) := A_3.cell 2
  go_wp2_with fail
  clear GL_2 GS_2 Ox_2 Px_2 hbel_2
  generalize (w2.alloc (.cells #[Value.bool (qsg (fq f) 0), Value.slice xa xn xc, Value.slice xb xm xd] 27)) = v3 at *
  go_wp2_with fail
  refine (HS.out _).mono ?_
  rintro e w4 ⟨ya, yn, yc, yb, ym, yd, rfl, hO, hO', hD, hB⟩
  have hB_4 : Below v3.heap.size v3 w4 := (bl.next hB)
  have A_4 := A_3.next hB_4
  have cA_4_0 : _ = some (Value.bool (qsg (fq f) 0)) := A_4.cell 0
  have cA_4_1 : _ = some (Value.slice xa xn xc) := A_4.cell 1
  have cA_4_2 : _ = some (Value.slice xb xm xd) := A_4.cell 2
  have GL_4 := GL_3.below hB_4
  have GS_4 := GS_3.below hB_4
  have Ox_4 := Ox_3.below hB_4
  have Px_4 := Px_3.below hB_4
  have hbel_4 := hbel_3.next hB_4
  have hsz_4 := hB_4.size
  clear A_3 cA_3_0 cA_3_1 cA_3_2 GL_3 GS_3 Ox_3 Px_3 hbel_3 hB_4
  have Oy_4 := hO
  have ltOy := hO.ltB
  have Py_4 := hO'
  have ltPy := hO'.ltB
  clear hO hO' hD
  try clear hB
  have hbx := blk_new w4 #[Value.bool (qsg (fq32 s) 13), Value.slice ya yn yc, Value.slice yb ym yd] 27
  have hbB := (Below.refl w4.heap.size w4).alloc (Nat.le_refl _) (.cells #[Value.bool (qsg (fq32 s) 13), Value.slice ya yn yc, Value.slice yb ym yd] 27)
  have hltB := hbx.lt
  have hB_5 : Below w4.heap.size w4 (w4.alloc (.cells #[Value.bool (qsg (fq32 s) 13), Value.slice ya yn yc, Value.slice yb ym yd] 27)) := hbB
  have A_5 := A_4.next hB_5
  have cA_5_0 : _ = some (Value.bool (qsg (fq f) 0)) := A_5.cell 0
  have cA_5_1 : _ = some (Value.slice xa xn xc) := A_5.cell 1
  have cA_5_2 : _ = some (Value.slice xb xm xd) := A_5.cell 2
  have GL_5 := GL_4.below hB_5
  have GS_5 := GS_4.below hB_5
  have Ox_5 := Ox_4.below hB_5
  have Px_5 := Px_4.below hB_5
  have Oy_5 := Oy_4.below hB_5
  have Py_5 := Py_4.below hB_5
  have hbel_5 := hbel_4.next hB_5
  have hsz_5 := hB_5.size
  clear hB_5
  have B_5 := hbx
  clear hbx hbB
  have cB_5_0 : _ = some (Value.bool (qsg (fq32 s) 13)) := B_5.cell 0
  have cB_5_1 : _ = some (Value.slice ya yn yc) := B_5.cell 1
  have cB_5_2 : _ = some (Value.slice yb ym yd) := B_5.cell 2
  go_wp2_with fail
  clear A_4 cA_4_0 cA_4_1 cA_4_2 GL_4 GS_4 Ox_4 Px_4 Oy_4 Py_4 hbel_4
  generalize (w4.alloc (.cells #[Value.bool (qsg (fq32 s) 13), Value.slice ya yn yc, Value.slice yb ym yd] 27)) = v5 at *
  have hB_6 : Below v5.heap.size v5 v5.drew := (Below.refl _ _).drew
  have A_6 := A_5.next hB_6
  have cA_6_0 : _ = some (Value.bool (qsg (fq f) 0)) := A_6.cell 0
  have cA_6_1 : _ = some (Value.slice xa xn xc) := A_6.cell 1
  have cA_6_2 : _ = some (Value.slice xb xm xd) := A_6.cell 2
  have B_6 := B_5.next hB_6
  have cB_6_0 : _ = some (Value.bool (qsg (fq32 s) 13)) := B_6.cell 0
  have cB_6_1 : _ = some (Value.slice ya yn yc) := B_6.cell 1
  have cB_6_2 : _ = some (Value.slice yb ym yd) := B_6.cell 2
  have GL_6 := GL_5.below hB_6
  have GS_6 := GS_5.below hB_6
  have Ox_6 := Ox_5.below hB_6
  have Px_6 := Px_5.below hB_6
  have Oy_6 := Oy_5.below hB_6
  have Py_6 := Py_5.below hB_6
  have hbel_6 := hbel_5.next hB_6
  have hsz_6 := hB_6.size
  clear A_5 cA_5_0 cA_5_1 cA_5_2 B_5 cB_5_0 cB_5_1 cB_5_2 GL_5 GS_5 Ox_5 Px_5 Oy_5 Py_5 hbel_5 hB_6
  generalize v5.drew = vd0 at *
  go_wp2_with fail
  refine (HR.out _ GL_6 _ _ _ _ _ _ Ox_6.rd Px_6.rd).mono ?_
  rintro e w7 ⟨rfl, hB⟩
  have hB_7 : Below vd0.heap.size vd0 w7 := (bl.next hB)
  have A_7 := A_6.next hB_7
  have cA_7_0 : _ = some (Value.bool (qsg (fq f) 0)) := A_7.cell 0
  have cA_7_1 : _ = some (Value.slice xa xn xc) := A_7.cell 1
  have cA_7_2 : _ = some (Value.slice xb xm xd) := A_7.cell 2
  have B_7 := B_6.next hB_7
  have cB_7_0 : _ = some (Value.bool (qsg (fq32 s) 13)) := B_7.cell 0
  have cB_7_1 : _ = some (Value.slice ya yn yc) := B_7.cell 1
  have cB_7_2 : _ = some (Value.slice yb ym yd) := B_7.cell 2
  have GL_7 := GL_6.below hB_7
  have GS_7 := GS_6.below hB_7
  have Ox_7 := Ox_6.below hB_7
  have Px_7 := Px_6.below hB_7
  have Oy_7 := Oy_6.below hB_7
  have Py_7 := Py_6.below hB_7
  have hbel_7 := hbel_6.next hB_7
  have hsz_7 := hB_7.size
  clear A_6 cA_6_0 cA_6_1 cA_6_2 B_6 cB_6_0 cB_6_1 cB_6_2 GL_6 GS_6 Ox_6 Px_6 Oy_6 Py_6 hbel_6 hB_7
  try clear hB
  go_wp2_with fail
  refine (HN.out _ GL_7 _ _ _ _ _ _ Ox_7.rd Px_7.rd).mono ?_
  rintro e w8 ⟨rfl, hB⟩
  have hB_8 : Below w7.heap.size w7 w8 := (bl.next hB)
  have A_8 := A_7.next hB_8
  have cA_8_0 : _ = some (Value.bool (qsg (fq f) 0)) := A_8.cell 0
  have cA_8_1 : _ = some (Value.slice xa xn xc) := A_8.cell 1
  have cA_8_2 : _ = some (Value.slice xb xm xd) := A_8.cell 2
  have B_8 := B_7.next hB_8
  have cB_8_0 : _ = some (Value.bool (qsg (fq32 s) 13)) := B_8.cell 0
  have cB_8_1 : _ = some (Value.slice ya yn yc) := B_8.cell 1
  have cB_8_2 : _ = some (Value.slice yb ym yd) := B_8.cell 2
  have GL_8 := GL_7.below hB_8
  have GS_8 := GS_7.below hB_8
  have Ox_8 := Ox_7.below hB_8
  have Px_8 := Px_7.below hB_8
  have Oy_8 := Oy_7.below hB_8
  have Py_8 := Py_7.below hB_8
  have hbel_8 := hbel_7.next hB_8
  have hsz_8 := hB_8.size
  clear A_7 cA_7_0 cA_7_1 cA_7_2 B_7 cB_7_0 cB_7_1 cB_7_2 GL_7 GS_7 Ox_7 Px_7 Oy_7 Py_7 hbel_7 hB_8
  try clear hB
  go_wp2_with fail
  refine (HZ.out _).mono ?_
  rintro e w9 ⟨rfl, hB⟩
  have hB_9 : Below w8.heap.size w8 w9 := (bl.next hB)
  have A_9 := A_8.next hB_9
  have cA_9_0 : _ = some (Value.bool (qsg (fq f) 0)) := A_9.cell 0
  have cA_9_1 : _ = some (Value.slice xa xn xc) := A_9.cell 1
  have cA_9_2 : _ = some (Value.slice xb xm xd) := A_9.cell 2
  have B_9 := B_8.next hB_9
  have cB_9_0 : _ = some (Value.bool (qsg (fq32 s) 13)) := B_9.cell 0
  have cB_9_1 : _ = some (Value.slice ya yn yc) := B_9.cell 1
  have cB_9_2 : _ = some (Value.slice yb ym yd) := B_9.cell 2
  have GL_9 := GL_8.below hB_9
  have GS_9 := GS_8.below hB_9
  have Ox_9 := Ox_8.below hB_9
  have Px_9 := Px_8.below hB_9
  have Oy_9 := Oy_8.below hB_9
  have Py_9 := Py_8.below hB_9
  have hbel_9 := hbel_8.next hB_9
  have hsz_9 := hB_9.size
  clear A_8 cA_8_0 cA_8_1 cA_8_2 B_8 cB_8_0 cB_8_1 cB_8_2 GL_8 GS_8 Ox_8 Px_8 Oy_8 Py_8 hbel_8 hB_9
  try clear hB
  go_wp2_with fail
  refine (HZ.out _).mono ?_
  rintro e w10 ⟨rfl, hB⟩
  have hB_10 : Below w9.heap.size w9 w10 := (bl.next hB)
  have A_10 := A_9.next hB_10
  have cA_10_0 : _ = some (Value.bool (qsg (fq f) 0)) := A_10.cell 0
  have cA_10_1 : _ = some (Value.slice xa xn xc) := A_10.cell 1
  have cA_10_2 : _ = some (Value.slice xb xm xd) := A_10.cell 2
  have B_10 := B_9.next hB_10
  have cB_10_0 : _ = some (Value.bool (qsg (fq32 s) 13)) := B_10.cell 0
  have cB_10_1 : _ = some (Value.slice ya yn yc) := B_10.cell 1
  have cB_10_2 : _ = some (Value.slice yb ym yd) := B_10.cell 2
  have GL_10 := GL_9.below hB_10
  have GS_10 := GS_9.below hB_10
  have Ox_10 := Ox_9.below hB_10
  have Px_10 := Px_9.below hB_10
  have Oy_10 := Oy_9.below hB_10
  have Py_10 := Py_9.below hB_10
  have hbel_10 := hbel_9.next hB_10
  have hsz_10 := hB_10.size
  clear A_9 cA_9_0 cA_9_1 cA_9_2 B_9 cB_9_0 cB_9_1 cB_9_2 GL_9 GS_9 Ox_9 Px_9 Oy_9 Py_9 hbel_9 hB_10
  try clear hB
  go_wp2_with fail
  refine (HZ.out _).mono ?_
  rintro e w11 ⟨rfl, hB⟩
  have hB_11 : Below w10.heap.size w10 w11 := (bl.next hB)
  have A_11 := A_10.next hB_11
  have cA_11_0 : _ = some (Value.bool (qsg (fq f) 0)) := A_11.cell 0
  have cA_11_1 : _ = some (Value.slice xa xn xc) := A_11.cell 1
  have cA_11_2 : _ = some (Value.slice xb xm xd) := A_11.cell 2
  have B_11 := B_10.next hB_11
  have cB_11_0 : _ = some (Value.bool (qsg (fq32 s) 13)) := B_11.cell 0
  have cB_11_1 : _ = some (Value.slice ya yn yc) := B_11.cell 1
  have cB_11_2 : _ = some (Value.slice yb ym yd) := B_11.cell 2
  have GL_11 := GL_10.below hB_11
  have GS_11 := GS_10.below hB_11
  have Ox_11 := Ox_10.below hB_11
  have Px_11 := Px_10.below hB_11
  have Oy_11 := Oy_10.below hB_11
  have Py_11 := Py_10.below hB_11
  have hbel_11 := hbel_10.next hB_11
  have hsz_11 := hB_11.size
  clear A_10 cA_10_0 cA_10_1 cA_10_2 B_10 cB_10_0 cB_10_1 cB_10_2 GL_10 GS_10 Ox_10 Px_10 Oy_10 Py_10 hbel_10 hB_11
  try clear hB
  go_wp2
  go_ret
  exact ⟨rfl, hbel_11⟩

set_option maxRecDepth 100000 in
set_option maxHeartbeats 16000000 in
theorem nearBack_nf {w : World} (GL : Lng w) (GS : Sht w) (f s : Nat) (hf : f < 18446744073709551616) (hs : s < 4294967296) (hfin : fr f < 9218868437227405312) (h0 : fr f ≠ 0) (hsn : nan32 s = false) (hsf : fr (c32 s) < 9218868437227405312) :
    Calls Tryd.prog 4 #[.float .f64 f, .float .f32 s] w (fun e w' => e = .returned (.bool true) ∧ Below w.heap.size w w') := by
  have HA := hid (fun w (g : Lng w) (h : Sht w) => alive05 g h)
  have HP := hid (fun w => near64 (w := w) f hf)
  have HS := hid (fun w => near32 (w := w) s)
  rw [show fe f = 0 from fe_fin hfin] at HP
  have hsub := fun w => run_float_arith (P := Tryd.prog) w .sub 28 .f64 f f 0 (sub_self_fin hfin)
  have HN := hid (fun w (g : Lng w) a n c b m d (ha : Rd w a n c (qnl (fq f) 0)) (hb : Rd w b m d (qdl (fq f) 0)) => near_back g hf hfin ha hb)
  have HR := hid (fun w (g : Lng w) a n c b m d (ha : Rd w a n c (qnl (fq f) 0)) (hb : Rd w b m d (qdl (fq f) 0)) => arnd_back g hf hfin ha hb)
  rw [show nz f = f from if_neg h0] at HN HR
  have hoe := self_eq hfin
  have hoz := ne_zero hfin h0
  have hqs : fq32 s = fq (c32 s) := by unfold fq32; rw [hsn]; exact if_neg (by decide)
  have hfe2 : fe32 s = 0 := by unfold fe32; rw [hsn, if_neg (by decide)]; exact fe_fin hsf
  rw [hqs, hfe2] at HS
  clear hqs hfe2
  have hsub2 := fun w => run_float_arith (P := Tryd.prog) w .sub 42 .f32 s s 0 (sub32_fin hs hsn hsf)
  have HG := hid (fun w (g : Sht w) a n c b m d (ha : Rd w a n c (qnl (fq (c32 s)) 0)) (hb : Rd w b m d (qdl (fq (c32 s)) 0)) => single_back g hs hsn hsf ha hb)
  have hoe2 := nz32_eq hs hsn hsf
  have ho32 : (FloatKind.f32.format.order 0 0 == some .eq) = true := by decide +kernel
  have ho0 : (FloatKind.f64.format.order 0 0 == some .eq) = true := by decide +kernel
  clear hfin hsn hf hs h0 hsf
  go_enter Tryd.func4, Tryd.ntmps4
  have hbel_0 : Below w.heap.size w w := Below.refl _ _
  have GL_0 := GL.below hbel_0
  clear GL
  have GS_0 := GS.below hbel_0
  clear GS
  go_wp2_with fail
  refine (HA.out _ GL_0 GS_0).mono ?_
  rintro e w1 ⟨rfl, hB⟩
  have hB_1 : Below w.heap.size w w1 := (bl.next hB)
  have GL_1 := GL_0.below hB_1
  have GS_1 := GS_0.below hB_1
  have hbel_1 := hbel_0.next hB_1
  have hsz_1 := hB_1.size
  clear GL_0 GS_0 hbel_0 hB_1
  try clear hB
  go_wp2_with fail
  refine (HP.out _).mono ?_
  rintro e w2 ⟨xa, xn, xc, xb, xm, xd, rfl, hO, hO', hD, hB⟩
  have hB_2 : Below w1.heap.size w1 w2 := (bl.next hB)
  have GL_2 := GL_1.below hB_2
  have GS_2 := GS_1.below hB_2
  have hbel_2 := hbel_1.next hB_2
  have hsz_2 := hB_2.size
  clear GL_1 GS_1 hbel_1 hB_2
  have Ox_2 := hO
  have ltOx := hO.ltB
  have Px_2 := hO'
  have ltPx := hO'.ltB
  clear hO hO' hD
  try clear hB
  have hbx := blk_new w2 #[Value.bool (qsg (fq f) 0), Value.slice xa xn xc, Value.slice xb xm xd] 27
  have hbB := (Below.refl w2.heap.size w2).alloc (Nat.le_refl _) (.cells #[Value.bool (qsg (fq f) 0), Value.slice xa xn xc, Value.slice xb xm xd] 27)
  have hltA := hbx.lt
  have hB_3 : Below w2.heap.size w2 (w2.alloc (.cells #[Value.bool (qsg (fq f) 0), Value.slice xa xn xc, Value.slice xb xm xd] 27)) := hbB
  have GL_3 := GL_2.below hB_3
  have GS_3 := GS_2.below hB_3
  have Ox_3 := Ox_2.below hB_3
  have Px_3 := Px_2.below hB_3
  have hbel_3 := hbel_2.next hB_3
  have hsz_3 := hB_3.size
  clear hB_3
  have A_3 := hbx
  clear hbx hbB
  have cA_3_0 : _ = some (Value.bool (qsg (fq f) 0)) := A_3.cell 0
  have cA_3_1 : _ = some (Value.slice xa xn xc) := A_3.cell 1
  have cA_3_2 : _ = some (Value.slice xb xm xd) := A_3.cell 2
  go_wp2_with fail
  clear GL_2 GS_2 Ox_2 Px_2 hbel_2
  generalize (w2.alloc (.cells #[Value.bool (qsg (fq f) 0), Value.slice xa xn xc, Value.slice xb xm xd] 27)) = v3 at *
  go_wp2_with fail
  refine (HS.out _).mono ?_
  rintro e w4 ⟨ya, yn, yc, yb, ym, yd, rfl, hO, hO', hD, hB⟩
  have hB_4 : Below v3.heap.size v3 w4 := (bl.next hB)
  have A_4 := A_3.next hB_4
  have cA_4_0 : _ = some (Value.bool (qsg (fq f) 0)) := A_4.cell 0
  have cA_4_1 : _ = some (Value.slice xa xn xc) := A_4.cell 1
  have cA_4_2 : _ = some (Value.slice xb xm xd) := A_4.cell 2
  have GL_4 := GL_3.below hB_4
  have GS_4 := GS_3.below hB_4
  have Ox_4 := Ox_3.below hB_4
  have Px_4 := Px_3.below hB_4
  have hbel_4 := hbel_3.next hB_4
  have hsz_4 := hB_4.size
  clear A_3 cA_3_0 cA_3_1 cA_3_2 GL_3 GS_3 Ox_3 Px_3 hbel_3 hB_4
  have Oy_4 := hO
  have ltOy := hO.ltB
  have Py_4 := hO'
  have ltPy := hO'.ltB
  clear hO hO' hD
  try clear hB
  have hbx := blk_new w4 #[Value.bool (qsg (fq (c32 s)) 0), Value.slice ya yn yc, Value.slice yb ym yd] 27
  have hbB := (Below.refl w4.heap.size w4).alloc (Nat.le_refl _) (.cells #[Value.bool (qsg (fq (c32 s)) 0), Value.slice ya yn yc, Value.slice yb ym yd] 27)
  have hltB := hbx.lt
  have hB_5 : Below w4.heap.size w4 (w4.alloc (.cells #[Value.bool (qsg (fq (c32 s)) 0), Value.slice ya yn yc, Value.slice yb ym yd] 27)) := hbB
  have A_5 := A_4.next hB_5
  have cA_5_0 : _ = some (Value.bool (qsg (fq f) 0)) := A_5.cell 0
  have cA_5_1 : _ = some (Value.slice xa xn xc) := A_5.cell 1
  have cA_5_2 : _ = some (Value.slice xb xm xd) := A_5.cell 2
  have GL_5 := GL_4.below hB_5
  have GS_5 := GS_4.below hB_5
  have Ox_5 := Ox_4.below hB_5
  have Px_5 := Px_4.below hB_5
  have Oy_5 := Oy_4.below hB_5
  have Py_5 := Py_4.below hB_5
  have hbel_5 := hbel_4.next hB_5
  have hsz_5 := hB_5.size
  clear hB_5
  have B_5 := hbx
  clear hbx hbB
  have cB_5_0 : _ = some (Value.bool (qsg (fq (c32 s)) 0)) := B_5.cell 0
  have cB_5_1 : _ = some (Value.slice ya yn yc) := B_5.cell 1
  have cB_5_2 : _ = some (Value.slice yb ym yd) := B_5.cell 2
  go_wp2_with fail
  clear A_4 cA_4_0 cA_4_1 cA_4_2 GL_4 GS_4 Ox_4 Px_4 Oy_4 Py_4 hbel_4
  generalize (w4.alloc (.cells #[Value.bool (qsg (fq (c32 s)) 0), Value.slice ya yn yc, Value.slice yb ym yd] 27)) = v5 at *
  go_wp2_with fail
  refine (HR.out _ GL_5 _ _ _ _ _ _ Ox_5.rd Px_5.rd).mono ?_
  rintro e w6 ⟨rfl, hB⟩
  have hB_6 : Below v5.heap.size v5 w6 := (bl.next hB)
  have A_6 := A_5.next hB_6
  have cA_6_0 : _ = some (Value.bool (qsg (fq f) 0)) := A_6.cell 0
  have cA_6_1 : _ = some (Value.slice xa xn xc) := A_6.cell 1
  have cA_6_2 : _ = some (Value.slice xb xm xd) := A_6.cell 2
  have B_6 := B_5.next hB_6
  have cB_6_0 : _ = some (Value.bool (qsg (fq (c32 s)) 0)) := B_6.cell 0
  have cB_6_1 : _ = some (Value.slice ya yn yc) := B_6.cell 1
  have cB_6_2 : _ = some (Value.slice yb ym yd) := B_6.cell 2
  have GL_6 := GL_5.below hB_6
  have GS_6 := GS_5.below hB_6
  have Ox_6 := Ox_5.below hB_6
  have Px_6 := Px_5.below hB_6
  have Oy_6 := Oy_5.below hB_6
  have Py_6 := Py_5.below hB_6
  have hbel_6 := hbel_5.next hB_6
  have hsz_6 := hB_6.size
  clear A_5 cA_5_0 cA_5_1 cA_5_2 B_5 cB_5_0 cB_5_1 cB_5_2 GL_5 GS_5 Ox_5 Px_5 Oy_5 Py_5 hbel_5 hB_6
  try clear hB
  go_wp2_with fail
  refine (HN.out _ GL_6 _ _ _ _ _ _ Ox_6.rd Px_6.rd).mono ?_
  rintro e w7 ⟨rfl, hB⟩
  have hB_7 : Below w6.heap.size w6 w7 := (bl.next hB)
  have A_7 := A_6.next hB_7
  have cA_7_0 : _ = some (Value.bool (qsg (fq f) 0)) := A_7.cell 0
  have cA_7_1 : _ = some (Value.slice xa xn xc) := A_7.cell 1
  have cA_7_2 : _ = some (Value.slice xb xm xd) := A_7.cell 2
  have B_7 := B_6.next hB_7
  have cB_7_0 : _ = some (Value.bool (qsg (fq (c32 s)) 0)) := B_7.cell 0
  have cB_7_1 : _ = some (Value.slice ya yn yc) := B_7.cell 1
  have cB_7_2 : _ = some (Value.slice yb ym yd) := B_7.cell 2
  have GL_7 := GL_6.below hB_7
  have GS_7 := GS_6.below hB_7
  have Ox_7 := Ox_6.below hB_7
  have Px_7 := Px_6.below hB_7
  have Oy_7 := Oy_6.below hB_7
  have Py_7 := Py_6.below hB_7
  have hbel_7 := hbel_6.next hB_7
  have hsz_7 := hB_7.size
  clear A_6 cA_6_0 cA_6_1 cA_6_2 B_6 cB_6_0 cB_6_1 cB_6_2 GL_6 GS_6 Ox_6 Px_6 Oy_6 Py_6 hbel_6 hB_7
  try clear hB
  go_wp2_with fail
  refine (HG.out _ GS_7 _ _ _ _ _ _ Oy_7.rd Py_7.rd).mono ?_
  rintro e w8 ⟨rfl, hB⟩
  have hB_8 : Below w7.heap.size w7 w8 := (bl.next hB)
  have A_8 := A_7.next hB_8
  have cA_8_0 : _ = some (Value.bool (qsg (fq f) 0)) := A_8.cell 0
  have cA_8_1 : _ = some (Value.slice xa xn xc) := A_8.cell 1
  have cA_8_2 : _ = some (Value.slice xb xm xd) := A_8.cell 2
  have B_8 := B_7.next hB_8
  have cB_8_0 : _ = some (Value.bool (qsg (fq (c32 s)) 0)) := B_8.cell 0
  have cB_8_1 : _ = some (Value.slice ya yn yc) := B_8.cell 1
  have cB_8_2 : _ = some (Value.slice yb ym yd) := B_8.cell 2
  have GL_8 := GL_7.below hB_8
  have GS_8 := GS_7.below hB_8
  have Ox_8 := Ox_7.below hB_8
  have Px_8 := Px_7.below hB_8
  have Oy_8 := Oy_7.below hB_8
  have Py_8 := Py_7.below hB_8
  have hbel_8 := hbel_7.next hB_8
  have hsz_8 := hB_8.size
  clear A_7 cA_7_0 cA_7_1 cA_7_2 B_7 cB_7_0 cB_7_1 cB_7_2 GL_7 GS_7 Ox_7 Px_7 Oy_7 Py_7 hbel_7 hB_8
  try clear hB
  go_wp2
  go_ret
  exact ⟨rfl, hbel_8⟩

set_option maxRecDepth 100000 in
set_option maxHeartbeats 16000000 in
theorem nearBack_ni {w : World} (GL : Lng w) (GS : Sht w) (f s : Nat) (hf : f < 18446744073709551616) (hs : s < 4294967296) (hfin : fr f < 9218868437227405312) (h0 : fr f ≠ 0) (hsn : ¬ (nan32 s = false ∧ fr (c32 s) < 9218868437227405312)) :
    Calls Tryd.prog 4 #[.float .f64 f, .float .f32 s] w (fun e w' => e = .returned (.bool true) ∧ Below w.heap.size w w') := by
  have HA := hid (fun w (g : Lng w) (h : Sht w) => alive05 g h)
  have HP := hid (fun w => near64 (w := w) f hf)
  have HS := hid (fun w => near32 (w := w) s)
  rw [show fe f = 0 from fe_fin hfin] at HP
  have hsub := fun w => run_float_arith (P := Tryd.prog) w .sub 28 .f64 f f 0 (sub_self_fin hfin)
  have HN := hid (fun w (g : Lng w) a n c b m d (ha : Rd w a n c (qnl (fq f) 0)) (hb : Rd w b m d (qdl (fq f) 0)) => near_back g hf hfin ha hb)
  have HR := hid (fun w (g : Lng w) a n c b m d (ha : Rd w a n c (qnl (fq f) 0)) (hb : Rd w b m d (qdl (fq f) 0)) => arnd_back g hf hfin ha hb)
  rw [show nz f = f from if_neg h0] at HN HR
  have hoe := self_eq hfin
  have hoz := ne_zero hfin h0
  have hfe2 : fe32 s = 13 := by
    unfold fe32
    cases hq : nan32 s
    · rw [if_neg (by decide)]; exact fe_nf (fun h => hsn ⟨hq, h⟩)
    · exact if_pos rfl
  rw [hfe2] at HS
  clear hfe2
  have hsub2 := run_sub32_nf hsn
  have hno2 := nB32_ne s
  have ho0 : (FloatKind.f64.format.order 0 0 == some .eq) = true := by decide +kernel
  clear hfin hsn hf hs h0
  go_enter Tryd.func4, Tryd.ntmps4
  have hbel_0 : Below w.heap.size w w := Below.refl _ _
  have GL_0 := GL.below hbel_0
  clear GL
  have GS_0 := GS.below hbel_0
  clear GS
  go_wp2_with fail
  refine (HA.out _ GL_0 GS_0).mono ?_
  rintro e w1 ⟨rfl, hB⟩
  have hB_1 : Below w.heap.size w w1 := (bl.next hB)
  have GL_1 := GL_0.below hB_1
  have GS_1 := GS_0.below hB_1
  have hbel_1 := hbel_0.next hB_1
  have hsz_1 := hB_1.size
  clear GL_0 GS_0 hbel_0 hB_1
  try clear hB
  go_wp2_with fail
  refine (HP.out _).mono ?_
  rintro e w2 ⟨xa, xn, xc, xb, xm, xd, rfl, hO, hO', hD, hB⟩
  have hB_2 : Below w1.heap.size w1 w2 := (bl.next hB)
  have GL_2 := GL_1.below hB_2
  have GS_2 := GS_1.below hB_2
  have hbel_2 := hbel_1.next hB_2
  have hsz_2 := hB_2.size
  clear GL_1 GS_1 hbel_1 hB_2
  have Ox_2 := hO
  have ltOx := hO.ltB
  have Px_2 := hO'
  have ltPx := hO'.ltB
  clear hO hO' hD
  try clear hB
  have hbx := blk_new w2 #[Value.bool (qsg (fq f) 0), Value.slice xa xn xc, Value.slice xb xm xd] 27
  have hbB := (Below.refl w2.heap.size w2).alloc (Nat.le_refl _) (.cells #[Value.bool (qsg (fq f) 0), Value.slice xa xn xc, Value.slice xb xm xd] 27)
  have hltA := hbx.lt
  have hB_3 : Below w2.heap.size w2 (w2.alloc (.cells #[Value.bool (qsg (fq f) 0), Value.slice xa xn xc, Value.slice xb xm xd] 27)) := hbB
  have GL_3 := GL_2.below hB_3
  have GS_3 := GS_2.below hB_3
  have Ox_3 := Ox_2.below hB_3
  have Px_3 := Px_2.below hB_3
  have hbel_3 := hbel_2.next hB_3
  have hsz_3 := hB_3.size
  clear hB_3
  have A_3 := hbx
  clear hbx hbB
  have cA_3_0 : _ = some (Value.bool (qsg (fq f) 0)) := A_3.cell 0
  have cA_3_1 : _ = some (Value.slice xa xn xc) := A_3.cell 1
  have cA_3_2 : _ = some (Value.slice xb xm xd) := A_3.cell 2
  go_wp2_with fail
  clear GL_2 GS_2 Ox_2 Px_2 hbel_2
  generalize (w2.alloc (.cells #[Value.bool (qsg (fq f) 0), Value.slice xa xn xc, Value.slice xb xm xd] 27)) = v3 at *
  go_wp2_with fail
  refine (HS.out _).mono ?_
  rintro e w4 ⟨ya, yn, yc, yb, ym, yd, rfl, hO, hO', hD, hB⟩
  have hB_4 : Below v3.heap.size v3 w4 := (bl.next hB)
  have A_4 := A_3.next hB_4
  have cA_4_0 : _ = some (Value.bool (qsg (fq f) 0)) := A_4.cell 0
  have cA_4_1 : _ = some (Value.slice xa xn xc) := A_4.cell 1
  have cA_4_2 : _ = some (Value.slice xb xm xd) := A_4.cell 2
  have GL_4 := GL_3.below hB_4
  have GS_4 := GS_3.below hB_4
  have Ox_4 := Ox_3.below hB_4
  have Px_4 := Px_3.below hB_4
  have hbel_4 := hbel_3.next hB_4
  have hsz_4 := hB_4.size
  clear A_3 cA_3_0 cA_3_1 cA_3_2 GL_3 GS_3 Ox_3 Px_3 hbel_3 hB_4
  have Oy_4 := hO
  have ltOy := hO.ltB
  have Py_4 := hO'
  have ltPy := hO'.ltB
  clear hO hO' hD
  try clear hB
  have hbx := blk_new w4 #[Value.bool (qsg (fq32 s) 13), Value.slice ya yn yc, Value.slice yb ym yd] 27
  have hbB := (Below.refl w4.heap.size w4).alloc (Nat.le_refl _) (.cells #[Value.bool (qsg (fq32 s) 13), Value.slice ya yn yc, Value.slice yb ym yd] 27)
  have hltB := hbx.lt
  have hB_5 : Below w4.heap.size w4 (w4.alloc (.cells #[Value.bool (qsg (fq32 s) 13), Value.slice ya yn yc, Value.slice yb ym yd] 27)) := hbB
  have A_5 := A_4.next hB_5
  have cA_5_0 : _ = some (Value.bool (qsg (fq f) 0)) := A_5.cell 0
  have cA_5_1 : _ = some (Value.slice xa xn xc) := A_5.cell 1
  have cA_5_2 : _ = some (Value.slice xb xm xd) := A_5.cell 2
  have GL_5 := GL_4.below hB_5
  have GS_5 := GS_4.below hB_5
  have Ox_5 := Ox_4.below hB_5
  have Px_5 := Px_4.below hB_5
  have Oy_5 := Oy_4.below hB_5
  have Py_5 := Py_4.below hB_5
  have hbel_5 := hbel_4.next hB_5
  have hsz_5 := hB_5.size
  clear hB_5
  have B_5 := hbx
  clear hbx hbB
  have cB_5_0 : _ = some (Value.bool (qsg (fq32 s) 13)) := B_5.cell 0
  have cB_5_1 : _ = some (Value.slice ya yn yc) := B_5.cell 1
  have cB_5_2 : _ = some (Value.slice yb ym yd) := B_5.cell 2
  go_wp2_with fail
  clear A_4 cA_4_0 cA_4_1 cA_4_2 GL_4 GS_4 Ox_4 Px_4 Oy_4 Py_4 hbel_4
  generalize (w4.alloc (.cells #[Value.bool (qsg (fq32 s) 13), Value.slice ya yn yc, Value.slice yb ym yd] 27)) = v5 at *
  have hB_6 : Below v5.heap.size v5 v5.drew := (Below.refl _ _).drew
  have A_6 := A_5.next hB_6
  have cA_6_0 : _ = some (Value.bool (qsg (fq f) 0)) := A_6.cell 0
  have cA_6_1 : _ = some (Value.slice xa xn xc) := A_6.cell 1
  have cA_6_2 : _ = some (Value.slice xb xm xd) := A_6.cell 2
  have B_6 := B_5.next hB_6
  have cB_6_0 : _ = some (Value.bool (qsg (fq32 s) 13)) := B_6.cell 0
  have cB_6_1 : _ = some (Value.slice ya yn yc) := B_6.cell 1
  have cB_6_2 : _ = some (Value.slice yb ym yd) := B_6.cell 2
  have GL_6 := GL_5.below hB_6
  have GS_6 := GS_5.below hB_6
  have Ox_6 := Ox_5.below hB_6
  have Px_6 := Px_5.below hB_6
  have Oy_6 := Oy_5.below hB_6
  have Py_6 := Py_5.below hB_6
  have hbel_6 := hbel_5.next hB_6
  have hsz_6 := hB_6.size
  clear A_5 cA_5_0 cA_5_1 cA_5_2 B_5 cB_5_0 cB_5_1 cB_5_2 GL_5 GS_5 Ox_5 Px_5 Oy_5 Py_5 hbel_5 hB_6
  generalize v5.drew = vd0 at *
  go_wp2_with fail
  refine (HR.out _ GL_6 _ _ _ _ _ _ Ox_6.rd Px_6.rd).mono ?_
  rintro e w7 ⟨rfl, hB⟩
  have hB_7 : Below vd0.heap.size vd0 w7 := (bl.next hB)
  have A_7 := A_6.next hB_7
  have cA_7_0 : _ = some (Value.bool (qsg (fq f) 0)) := A_7.cell 0
  have cA_7_1 : _ = some (Value.slice xa xn xc) := A_7.cell 1
  have cA_7_2 : _ = some (Value.slice xb xm xd) := A_7.cell 2
  have B_7 := B_6.next hB_7
  have cB_7_0 : _ = some (Value.bool (qsg (fq32 s) 13)) := B_7.cell 0
  have cB_7_1 : _ = some (Value.slice ya yn yc) := B_7.cell 1
  have cB_7_2 : _ = some (Value.slice yb ym yd) := B_7.cell 2
  have GL_7 := GL_6.below hB_7
  have GS_7 := GS_6.below hB_7
  have Ox_7 := Ox_6.below hB_7
  have Px_7 := Px_6.below hB_7
  have Oy_7 := Oy_6.below hB_7
  have Py_7 := Py_6.below hB_7
  have hbel_7 := hbel_6.next hB_7
  have hsz_7 := hB_7.size
  clear A_6 cA_6_0 cA_6_1 cA_6_2 B_6 cB_6_0 cB_6_1 cB_6_2 GL_6 GS_6 Ox_6 Px_6 Oy_6 Py_6 hbel_6 hB_7
  try clear hB
  go_wp2_with fail
  refine (HN.out _ GL_7 _ _ _ _ _ _ Ox_7.rd Px_7.rd).mono ?_
  rintro e w8 ⟨rfl, hB⟩
  have hB_8 : Below w7.heap.size w7 w8 := (bl.next hB)
  have A_8 := A_7.next hB_8
  have cA_8_0 : _ = some (Value.bool (qsg (fq f) 0)) := A_8.cell 0
  have cA_8_1 : _ = some (Value.slice xa xn xc) := A_8.cell 1
  have cA_8_2 : _ = some (Value.slice xb xm xd) := A_8.cell 2
  have B_8 := B_7.next hB_8
  have cB_8_0 : _ = some (Value.bool (qsg (fq32 s) 13)) := B_8.cell 0
  have cB_8_1 : _ = some (Value.slice ya yn yc) := B_8.cell 1
  have cB_8_2 : _ = some (Value.slice yb ym yd) := B_8.cell 2
  have GL_8 := GL_7.below hB_8
  have GS_8 := GS_7.below hB_8
  have Ox_8 := Ox_7.below hB_8
  have Px_8 := Px_7.below hB_8
  have Oy_8 := Oy_7.below hB_8
  have Py_8 := Py_7.below hB_8
  have hbel_8 := hbel_7.next hB_8
  have hsz_8 := hB_8.size
  clear A_7 cA_7_0 cA_7_1 cA_7_2 B_7 cB_7_0 cB_7_1 cB_7_2 GL_7 GS_7 Ox_7 Px_7 Oy_7 Py_7 hbel_7 hB_8
  try clear hB
  go_wp2
  go_ret
  exact ⟨rfl, hbel_8⟩

set_option maxRecDepth 100000 in
set_option maxHeartbeats 16000000 in
theorem nearBack_if {w : World} (GL : Lng w) (GS : Sht w) (f s : Nat) (hf : f < 18446744073709551616) (hs : s < 4294967296) (hfin : ¬ fr f < 9218868437227405312) (hsn : nan32 s = false) (hsf : fr (c32 s) < 9218868437227405312) :
    Calls Tryd.prog 4 #[.float .f64 f, .float .f32 s] w (fun e w' => e = .returned (.bool true) ∧ Below w.heap.size w w') := by
  have HA := hid (fun w (g : Lng w) (h : Sht w) => alive05 g h)
  have HP := hid (fun w => near64 (w := w) f hf)
  have HS := hid (fun w => near32 (w := w) s)
  rw [show fe f = 13 from fe_nf hfin] at HP
  have hsub := run_sub_nf hfin
  have hno := nB_ne f
  have hqs : fq32 s = fq (c32 s) := by unfold fq32; rw [hsn]; exact if_neg (by decide)
  have hfe2 : fe32 s = 0 := by unfold fe32; rw [hsn, if_neg (by decide)]; exact fe_fin hsf
  rw [hqs, hfe2] at HS
  clear hqs hfe2
  have hsub2 := fun w => run_float_arith (P := Tryd.prog) w .sub 42 .f32 s s 0 (sub32_fin hs hsn hsf)
  have HG := hid (fun w (g : Sht w) a n c b m d (ha : Rd w a n c (qnl (fq (c32 s)) 0)) (hb : Rd w b m d (qdl (fq (c32 s)) 0)) => single_back g hs hsn hsf ha hb)
  have hoe2 := nz32_eq hs hsn hsf
  have ho32 : (FloatKind.f32.format.order 0 0 == some .eq) = true := by decide +kernel
  have ho0 : (FloatKind.f64.format.order 0 0 == some .eq) = true := by decide +kernel
  clear hfin hsn hf hs hsf
  go_enter Tryd.func4, Tryd.ntmps4
  have hbel_0 : Below w.heap.size w w := Below.refl _ _
  have GL_0 := GL.below hbel_0
  clear GL
  have GS_0 := GS.below hbel_0
  clear GS
  go_wp2_with fail
  refine (HA.out _ GL_0 GS_0).mono ?_
  rintro e w1 ⟨rfl, hB⟩
  have hB_1 : Below w.heap.size w w1 := (bl.next hB)
  have GL_1 := GL_0.below hB_1
  have GS_1 := GS_0.below hB_1
  have hbel_1 := hbel_0.next hB_1
  have hsz_1 := hB_1.size
  clear GL_0 GS_0 hbel_0 hB_1
  try clear hB
  go_wp2_with fail
  refine (HP.out _).mono ?_
  rintro e w2 ⟨xa, xn, xc, xb, xm, xd, rfl, hO, hO', hD, hB⟩
  have hB_2 : Below w1.heap.size w1 w2 := (bl.next hB)
  have GL_2 := GL_1.below hB_2
  have GS_2 := GS_1.below hB_2
  have hbel_2 := hbel_1.next hB_2
  have hsz_2 := hB_2.size
  clear GL_1 GS_1 hbel_1 hB_2
  have Ox_2 := hO
  have ltOx := hO.ltB
  have Px_2 := hO'
  have ltPx := hO'.ltB
  clear hO hO' hD
  try clear hB
  have hbx := blk_new w2 #[Value.bool (qsg (fq f) 13), Value.slice xa xn xc, Value.slice xb xm xd] 27
  have hbB := (Below.refl w2.heap.size w2).alloc (Nat.le_refl _) (.cells #[Value.bool (qsg (fq f) 13), Value.slice xa xn xc, Value.slice xb xm xd] 27)
  have hltA := hbx.lt
  have hB_3 : Below w2.heap.size w2 (w2.alloc (.cells #[Value.bool (qsg (fq f) 13), Value.slice xa xn xc, Value.slice xb xm xd] 27)) := hbB
  have GL_3 := GL_2.below hB_3
  have GS_3 := GS_2.below hB_3
  have Ox_3 := Ox_2.below hB_3
  have Px_3 := Px_2.below hB_3
  have hbel_3 := hbel_2.next hB_3
  have hsz_3 := hB_3.size
  clear hB_3
  have A_3 := hbx
  clear hbx hbB
  have cA_3_0 : _ = some (Value.bool (qsg (fq f) 13)) := A_3.cell 0
  have cA_3_1 : _ = some (Value.slice xa xn xc) := A_3.cell 1
  have cA_3_2 : _ = some (Value.slice xb xm xd) := A_3.cell 2
  go_wp2_with fail
  clear GL_2 GS_2 Ox_2 Px_2 hbel_2
  generalize (w2.alloc (.cells #[Value.bool (qsg (fq f) 13), Value.slice xa xn xc, Value.slice xb xm xd] 27)) = v3 at *
  go_wp2_with fail
  refine (HS.out _).mono ?_
  rintro e w4 ⟨ya, yn, yc, yb, ym, yd, rfl, hO, hO', hD, hB⟩
  have hB_4 : Below v3.heap.size v3 w4 := (bl.next hB)
  have A_4 := A_3.next hB_4
  have cA_4_0 : _ = some (Value.bool (qsg (fq f) 13)) := A_4.cell 0
  have cA_4_1 : _ = some (Value.slice xa xn xc) := A_4.cell 1
  have cA_4_2 : _ = some (Value.slice xb xm xd) := A_4.cell 2
  have GL_4 := GL_3.below hB_4
  have GS_4 := GS_3.below hB_4
  have Ox_4 := Ox_3.below hB_4
  have Px_4 := Px_3.below hB_4
  have hbel_4 := hbel_3.next hB_4
  have hsz_4 := hB_4.size
  clear A_3 cA_3_0 cA_3_1 cA_3_2 GL_3 GS_3 Ox_3 Px_3 hbel_3 hB_4
  have Oy_4 := hO
  have ltOy := hO.ltB
  have Py_4 := hO'
  have ltPy := hO'.ltB
  clear hO hO' hD
  try clear hB
  have hbx := blk_new w4 #[Value.bool (qsg (fq (c32 s)) 0), Value.slice ya yn yc, Value.slice yb ym yd] 27
  have hbB := (Below.refl w4.heap.size w4).alloc (Nat.le_refl _) (.cells #[Value.bool (qsg (fq (c32 s)) 0), Value.slice ya yn yc, Value.slice yb ym yd] 27)
  have hltB := hbx.lt
  have hB_5 : Below w4.heap.size w4 (w4.alloc (.cells #[Value.bool (qsg (fq (c32 s)) 0), Value.slice ya yn yc, Value.slice yb ym yd] 27)) := hbB
  have A_5 := A_4.next hB_5
  have cA_5_0 : _ = some (Value.bool (qsg (fq f) 13)) := A_5.cell 0
  have cA_5_1 : _ = some (Value.slice xa xn xc) := A_5.cell 1
  have cA_5_2 : _ = some (Value.slice xb xm xd) := A_5.cell 2
  have GL_5 := GL_4.below hB_5
  have GS_5 := GS_4.below hB_5
  have Ox_5 := Ox_4.below hB_5
  have Px_5 := Px_4.below hB_5
  have Oy_5 := Oy_4.below hB_5
  have Py_5 := Py_4.below hB_5
  have hbel_5 := hbel_4.next hB_5
  have hsz_5 := hB_5.size
  clear hB_5
  have B_5 := hbx
  clear hbx hbB
  have cB_5_0 : _ = some (Value.bool (qsg (fq (c32 s)) 0)) := B_5.cell 0
  have cB_5_1 : _ = some (Value.slice ya yn yc) := B_5.cell 1
  have cB_5_2 : _ = some (Value.slice yb ym yd) := B_5.cell 2
  go_wp2_with fail
  clear A_4 cA_4_0 cA_4_1 cA_4_2 GL_4 GS_4 Ox_4 Px_4 Oy_4 Py_4 hbel_4
  generalize (w4.alloc (.cells #[Value.bool (qsg (fq (c32 s)) 0), Value.slice ya yn yc, Value.slice yb ym yd] 27)) = v5 at *
  have hB_6 : Below v5.heap.size v5 v5.drew := (Below.refl _ _).drew
  have A_6 := A_5.next hB_6
  have cA_6_0 : _ = some (Value.bool (qsg (fq f) 13)) := A_6.cell 0
  have cA_6_1 : _ = some (Value.slice xa xn xc) := A_6.cell 1
  have cA_6_2 : _ = some (Value.slice xb xm xd) := A_6.cell 2
  have B_6 := B_5.next hB_6
  have cB_6_0 : _ = some (Value.bool (qsg (fq (c32 s)) 0)) := B_6.cell 0
  have cB_6_1 : _ = some (Value.slice ya yn yc) := B_6.cell 1
  have cB_6_2 : _ = some (Value.slice yb ym yd) := B_6.cell 2
  have GL_6 := GL_5.below hB_6
  have GS_6 := GS_5.below hB_6
  have Ox_6 := Ox_5.below hB_6
  have Px_6 := Px_5.below hB_6
  have Oy_6 := Oy_5.below hB_6
  have Py_6 := Py_5.below hB_6
  have hbel_6 := hbel_5.next hB_6
  have hsz_6 := hB_6.size
  clear A_5 cA_5_0 cA_5_1 cA_5_2 B_5 cB_5_0 cB_5_1 cB_5_2 GL_5 GS_5 Ox_5 Px_5 Oy_5 Py_5 hbel_5 hB_6
  generalize v5.drew = vd0 at *
  go_wp2_with fail
  refine (HG.out _ GS_6 _ _ _ _ _ _ Oy_6.rd Py_6.rd).mono ?_
  rintro e w7 ⟨rfl, hB⟩
  have hB_7 : Below vd0.heap.size vd0 w7 := (bl.next hB)
  have A_7 := A_6.next hB_7
  have cA_7_0 : _ = some (Value.bool (qsg (fq f) 13)) := A_7.cell 0
  have cA_7_1 : _ = some (Value.slice xa xn xc) := A_7.cell 1
  have cA_7_2 : _ = some (Value.slice xb xm xd) := A_7.cell 2
  have B_7 := B_6.next hB_7
  have cB_7_0 : _ = some (Value.bool (qsg (fq (c32 s)) 0)) := B_7.cell 0
  have cB_7_1 : _ = some (Value.slice ya yn yc) := B_7.cell 1
  have cB_7_2 : _ = some (Value.slice yb ym yd) := B_7.cell 2
  have GL_7 := GL_6.below hB_7
  have GS_7 := GS_6.below hB_7
  have Ox_7 := Ox_6.below hB_7
  have Px_7 := Px_6.below hB_7
  have Oy_7 := Oy_6.below hB_7
  have Py_7 := Py_6.below hB_7
  have hbel_7 := hbel_6.next hB_7
  have hsz_7 := hB_7.size
  clear A_6 cA_6_0 cA_6_1 cA_6_2 B_6 cB_6_0 cB_6_1 cB_6_2 GL_6 GS_6 Ox_6 Px_6 Oy_6 Py_6 hbel_6 hB_7
  try clear hB
  go_wp2
  go_ret
  exact ⟨rfl, hbel_7⟩

set_option maxRecDepth 100000 in
set_option maxHeartbeats 16000000 in
theorem nearBack_ii {w : World} (GL : Lng w) (GS : Sht w) (f s : Nat) (hf : f < 18446744073709551616) (hs : s < 4294967296) (hfin : ¬ fr f < 9218868437227405312) (hsn : ¬ (nan32 s = false ∧ fr (c32 s) < 9218868437227405312)) :
    Calls Tryd.prog 4 #[.float .f64 f, .float .f32 s] w (fun e w' => e = .returned (.bool true) ∧ Below w.heap.size w w') := by
  have HA := hid (fun w (g : Lng w) (h : Sht w) => alive05 g h)
  have HP := hid (fun w => near64 (w := w) f hf)
  have HS := hid (fun w => near32 (w := w) s)
  rw [show fe f = 13 from fe_nf hfin] at HP
  have hsub := run_sub_nf hfin
  have hno := nB_ne f
  have hfe2 : fe32 s = 13 := by
    unfold fe32
    cases hq : nan32 s
    · rw [if_neg (by decide)]; exact fe_nf (fun h => hsn ⟨hq, h⟩)
    · exact if_pos rfl
  rw [hfe2] at HS
  clear hfe2
  have hsub2 := run_sub32_nf hsn
  have hno2 := nB32_ne s
  have ho0 : (FloatKind.f64.format.order 0 0 == some .eq) = true := by decide +kernel
  clear hfin hsn hf hs
  go_enter Tryd.func4, Tryd.ntmps4
  have hbel_0 : Below w.heap.size w w := Below.refl _ _
  have GL_0 := GL.below hbel_0
  clear GL
  have GS_0 := GS.below hbel_0
  clear GS
  go_wp2_with fail
  refine (HA.out _ GL_0 GS_0).mono ?_
  rintro e w1 ⟨rfl, hB⟩
  have hB_1 : Below w.heap.size w w1 := (bl.next hB)
  have GL_1 := GL_0.below hB_1
  have GS_1 := GS_0.below hB_1
  have hbel_1 := hbel_0.next hB_1
  have hsz_1 := hB_1.size
  clear GL_0 GS_0 hbel_0 hB_1
  try clear hB
  go_wp2_with fail
  refine (HP.out _).mono ?_
  rintro e w2 ⟨xa, xn, xc, xb, xm, xd, rfl, hO, hO', hD, hB⟩
  have hB_2 : Below w1.heap.size w1 w2 := (bl.next hB)
  have GL_2 := GL_1.below hB_2
  have GS_2 := GS_1.below hB_2
  have hbel_2 := hbel_1.next hB_2
  have hsz_2 := hB_2.size
  clear GL_1 GS_1 hbel_1 hB_2
  have Ox_2 := hO
  have ltOx := hO.ltB
  have Px_2 := hO'
  have ltPx := hO'.ltB
  clear hO hO' hD
  try clear hB
  have hbx := blk_new w2 #[Value.bool (qsg (fq f) 13), Value.slice xa xn xc, Value.slice xb xm xd] 27
  have hbB := (Below.refl w2.heap.size w2).alloc (Nat.le_refl _) (.cells #[Value.bool (qsg (fq f) 13), Value.slice xa xn xc, Value.slice xb xm xd] 27)
  have hltA := hbx.lt
  have hB_3 : Below w2.heap.size w2 (w2.alloc (.cells #[Value.bool (qsg (fq f) 13), Value.slice xa xn xc, Value.slice xb xm xd] 27)) := hbB
  have GL_3 := GL_2.below hB_3
  have GS_3 := GS_2.below hB_3
  have Ox_3 := Ox_2.below hB_3
  have Px_3 := Px_2.below hB_3
  have hbel_3 := hbel_2.next hB_3
  have hsz_3 := hB_3.size
  clear hB_3
  have A_3 := hbx
  clear hbx hbB
  have cA_3_0 : _ = some (Value.bool (qsg (fq f) 13)) := A_3.cell 0
  have cA_3_1 : _ = some (Value.slice xa xn xc) := A_3.cell 1
  have cA_3_2 : _ = some (Value.slice xb xm xd) := A_3.cell 2
  go_wp2_with fail
  clear GL_2 GS_2 Ox_2 Px_2 hbel_2
  generalize (w2.alloc (.cells #[Value.bool (qsg (fq f) 13), Value.slice xa xn xc, Value.slice xb xm xd] 27)) = v3 at *
  go_wp2_with fail
  refine (HS.out _).mono ?_
  rintro e w4 ⟨ya, yn, yc, yb, ym, yd, rfl, hO, hO', hD, hB⟩
  have hB_4 : Below v3.heap.size v3 w4 := (bl.next hB)
  have A_4 := A_3.next hB_4
  have cA_4_0 : _ = some (Value.bool (qsg (fq f) 13)) := A_4.cell 0
  have cA_4_1 : _ = some (Value.slice xa xn xc) := A_4.cell 1
  have cA_4_2 : _ = some (Value.slice xb xm xd) := A_4.cell 2
  have GL_4 := GL_3.below hB_4
  have GS_4 := GS_3.below hB_4
  have Ox_4 := Ox_3.below hB_4
  have Px_4 := Px_3.below hB_4
  have hbel_4 := hbel_3.next hB_4
  have hsz_4 := hB_4.size
  clear A_3 cA_3_0 cA_3_1 cA_3_2 GL_3 GS_3 Ox_3 Px_3 hbel_3 hB_4
  have Oy_4 := hO
  have ltOy := hO.ltB
  have Py_4 := hO'
  have ltPy := hO'.ltB
  clear hO hO' hD
  try clear hB
  have hbx := blk_new w4 #[Value.bool (qsg (fq32 s) 13), Value.slice ya yn yc, Value.slice yb ym yd] 27
  have hbB := (Below.refl w4.heap.size w4).alloc (Nat.le_refl _) (.cells #[Value.bool (qsg (fq32 s) 13), Value.slice ya yn yc, Value.slice yb ym yd] 27)
  have hltB := hbx.lt
  have hB_5 : Below w4.heap.size w4 (w4.alloc (.cells #[Value.bool (qsg (fq32 s) 13), Value.slice ya yn yc, Value.slice yb ym yd] 27)) := hbB
  have A_5 := A_4.next hB_5
  have cA_5_0 : _ = some (Value.bool (qsg (fq f) 13)) := A_5.cell 0
  have cA_5_1 : _ = some (Value.slice xa xn xc) := A_5.cell 1
  have cA_5_2 : _ = some (Value.slice xb xm xd) := A_5.cell 2
  have GL_5 := GL_4.below hB_5
  have GS_5 := GS_4.below hB_5
  have Ox_5 := Ox_4.below hB_5
  have Px_5 := Px_4.below hB_5
  have Oy_5 := Oy_4.below hB_5
  have Py_5 := Py_4.below hB_5
  have hbel_5 := hbel_4.next hB_5
  have hsz_5 := hB_5.size
  clear hB_5
  have B_5 := hbx
  clear hbx hbB
  have cB_5_0 : _ = some (Value.bool (qsg (fq32 s) 13)) := B_5.cell 0
  have cB_5_1 : _ = some (Value.slice ya yn yc) := B_5.cell 1
  have cB_5_2 : _ = some (Value.slice yb ym yd) := B_5.cell 2
  go_wp2_with fail
  clear A_4 cA_4_0 cA_4_1 cA_4_2 GL_4 GS_4 Ox_4 Px_4 Oy_4 Py_4 hbel_4
  generalize (w4.alloc (.cells #[Value.bool (qsg (fq32 s) 13), Value.slice ya yn yc, Value.slice yb ym yd] 27)) = v5 at *
  have hB_6 : Below v5.heap.size v5 v5.drew := (Below.refl _ _).drew
  have A_6 := A_5.next hB_6
  have cA_6_0 : _ = some (Value.bool (qsg (fq f) 13)) := A_6.cell 0
  have cA_6_1 : _ = some (Value.slice xa xn xc) := A_6.cell 1
  have cA_6_2 : _ = some (Value.slice xb xm xd) := A_6.cell 2
  have B_6 := B_5.next hB_6
  have cB_6_0 : _ = some (Value.bool (qsg (fq32 s) 13)) := B_6.cell 0
  have cB_6_1 : _ = some (Value.slice ya yn yc) := B_6.cell 1
  have cB_6_2 : _ = some (Value.slice yb ym yd) := B_6.cell 2
  have GL_6 := GL_5.below hB_6
  have GS_6 := GS_5.below hB_6
  have Ox_6 := Ox_5.below hB_6
  have Px_6 := Px_5.below hB_6
  have Oy_6 := Oy_5.below hB_6
  have Py_6 := Py_5.below hB_6
  have hbel_6 := hbel_5.next hB_6
  have hsz_6 := hB_6.size
  clear A_5 cA_5_0 cA_5_1 cA_5_2 B_5 cB_5_0 cB_5_1 cB_5_2 GL_5 GS_5 Ox_5 Px_5 Oy_5 Py_5 hbel_5 hB_6
  generalize v5.drew = vd0 at *
  have hB_7 : Below vd0.heap.size vd0 vd0.drew := (Below.refl _ _).drew
  have A_7 := A_6.next hB_7
  have cA_7_0 : _ = some (Value.bool (qsg (fq f) 13)) := A_7.cell 0
  have cA_7_1 : _ = some (Value.slice xa xn xc) := A_7.cell 1
  have cA_7_2 : _ = some (Value.slice xb xm xd) := A_7.cell 2
  have B_7 := B_6.next hB_7
  have cB_7_0 : _ = some (Value.bool (qsg (fq32 s) 13)) := B_7.cell 0
  have cB_7_1 : _ = some (Value.slice ya yn yc) := B_7.cell 1
  have cB_7_2 : _ = some (Value.slice yb ym yd) := B_7.cell 2
  have GL_7 := GL_6.below hB_7
  have GS_7 := GS_6.below hB_7
  have Ox_7 := Ox_6.below hB_7
  have Px_7 := Px_6.below hB_7
  have Oy_7 := Oy_6.below hB_7
  have Py_7 := Py_6.below hB_7
  have hbel_7 := hbel_6.next hB_7
  have hsz_7 := hB_7.size
  clear A_6 cA_6_0 cA_6_1 cA_6_2 B_6 cB_6_0 cB_6_1 cB_6_2 GL_6 GS_6 Ox_6 Px_6 Oy_6 Py_6 hbel_6 hB_7
  generalize vd0.drew = vd1 at *
  go_wp2
  go_ret
  exact ⟨rfl, hbel_7⟩

theorem nearBack_walk {w : World} (hc : w.cell? ⟨0, 0, none⟩ = some (.int .i64 53) ∧ w.cell? ⟨0, 1, none⟩ = some (.int .i64 (-1074)) ∧ w.cell? ⟨0, 2, none⟩ = some (.int .i64 971) ∧ w.cell? ⟨2, 0, none⟩ = some (.int .i64 24) ∧ w.cell? ⟨2, 1, none⟩ = some (.int .i64 (-149)) ∧ w.cell? ⟨2, 2, none⟩ = some (.int .i64 104)) (f : Nat) (hf : f < 18446744073709551616) (s : Nat) (hs : s < 4294967296) : Calls Tryd.prog 4 #[.float .f64 f, .float .f32 s] w (fun e w' => e = .returned (.bool true) ∧ Below w.heap.size w w') := by
  have GL : Lng w := ⟨hc.1, hc.2.1, hc.2.2.1⟩
  have GS : Sht w := ⟨hc.2.2.2.1, hc.2.2.2.2.1, hc.2.2.2.2.2⟩
  by_cases h1 : fr f < 9218868437227405312
  · by_cases h0 : fr f = 0
    · by_cases h2 : nan32 s = false ∧ fr (c32 s) < 9218868437227405312
      · exact nearBack_zf GL GS f s hf hs h1 h0 h2.1 h2.2
      · exact nearBack_zi GL GS f s hf hs h1 h0 h2
    · by_cases h2 : nan32 s = false ∧ fr (c32 s) < 9218868437227405312
      · exact nearBack_nf GL GS f s hf hs h1 h0 h2.1 h2.2
      · exact nearBack_ni GL GS f s hf hs h1 h0 h2
  · by_cases h2 : nan32 s = false ∧ fr (c32 s) < 9218868437227405312
    · exact nearBack_if GL GS f s hf hs h1 h2.1 h2.2
    · exact nearBack_ii GL GS f s hf hs h1 h2
end Go.Proofs.YtoeldbdcbfgmoaaDoor
