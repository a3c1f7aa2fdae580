/- WALKS OF FLOATS, 3: floats of 32 bits. -/
import Derived.Test.YtmeklhanppjkaaaFc
namespace Go.Proofs.Ytmeklhanppjkaaa
set_option linter.unusedVariables false
set_option linter.unusedSimpArgs false
open Go.ChangeShapes Go.WideShapes Go.ChangeAt Go.RowKit Go.FloatP

/-- the place of a float of 32 bits -/
def r32 (s : Nat) : Int := if nan32 s then -9223372036854775808 else frank (c32 s)
def fo (p q : Int) : Int := if p < q then -1 else if q < p then 1 else 0
theorem ford_fo (x y : Nat) : ford x y = fo (frank x) (frank y) := rfl
theorem r32_range (s : Nat) : -9223372036854775808 ≤ r32 s ∧ r32 s ≤ 9223372036854775807 := by
  unfold r32; split
  · omega
  · exact frank_range _
theorem bel_next {w0 w w' : World} (h : Below w0.heap.size w0 w) (k : Below w.heap.size w w') : Below w0.heap.size w0 w' :=
  ⟨k.os.trans h.os, k.tape.trans h.tape, k.output.trans h.output, Nat.le_trans h.size k.size, fun b hb => (k.block b (Nat.lt_of_lt_of_le hb h.size)).trans (h.block b hb)⟩
def cN (s : Nat) (w : World) : Nat := (Question.nanConv .f64 s).cut (w.tape w.drawn (.nanConv .f64 s))
theorem cN_nan (s : Nat) (w : World) : fnan (cN s w) = true ∧ cN s w < 18446744073709551616 := by
  unfold cN Question.cut
  generalize w.tape w.drawn (.nanConv .f64 s) = t
  show decide (9218868437227405312 < fr (t % 2 * 2 ^ 63 + 0x7ff0000000000000 + 1 + t / 2 % (2 ^ 52 - 1))) = true ∧ t % 2 * 2 ^ 63 + 0x7ff0000000000000 + 1 + t / 2 % (2 ^ 52 - 1) < 18446744073709551616
  have h1 : t / 2 % (2 ^ 52 - 1) < 4503599627370495 := Nat.mod_lt _ (by decide)
  generalize t / 2 % (2 ^ 52 - 1) = m at *
  have h2 : t % 2 < 2 := Nat.mod_lt _ (by decide)
  generalize t % 2 = k at *
  unfold fr
  exact ⟨decide_eq_true (by omega), by omega⟩
theorem run_conv_nan {src dst : TypeId} (s : Nat) (hn : nan32 s = true) (hs : (Try.prog.underlying src).isSome = true) (hd : Try.prog.underlying dst = some (.float .f64)) (w : World) :
    (convert src dst (.float .f32 s)).run Try.prog w = .ok (.float .f64 (cN s w)) w.drew := by
  obtain ⟨u, hs'⟩ := Option.isSome_iff_exists.1 hs
  obtain ⟨sg, t, he⟩ : ∃ sg t, FloatKind.f32.decode s = .nan sg t := by
    rcases read32 s with ⟨_, sg, t, h⟩ | ⟨h, _⟩ | ⟨h, _⟩
    · exact ⟨sg, t, h⟩
    · rw [hn] at h; cases h
    · rw [hn] at h; cases h
  have hq : (Question.nanConv FloatKind.f64 s).forced = false := rfl
  cases u <;> simp [convert, run_underlying hs', run_underlying hd, Conv.floatToFloat, he, hq] <;> rfl
theorem conv_ex {src dst : TypeId} (s : Nat) (hs : (Try.prog.underlying src).isSome = true) (hd : Try.prog.underlying dst = some (.float .f64)) :
    ∃ (cs : World → Nat) (ds : World → World), (∀ w, (convert src dst (.float .f32 s)).run Try.prog w = .ok (.float .f64 (cs w)) (ds w)) ∧ (∀ w, frank (cs w) = r32 s) ∧ (∀ w, cs w < 18446744073709551616) ∧ (∀ w, Below w.heap.size w (ds w)) := by
  cases hn : nan32 s
  · refine ⟨fun _ => c32 s, fun w => w, fun w => run_convert_float_float w src dst .f32 .f64 s _ hs hd (conv32 hn), fun w => ?_, fun w => c32_lt s, fun w => Below.refl _ _⟩
    unfold r32; rw [hn]; rfl
  · refine ⟨cN s, World.drew, run_conv_nan s hn hs hd, fun w => ?_, fun w => (cN_nan s w).2, fun w => (Below.refl _ _).drew⟩
    unfold r32; rw [hn, frank_nan (cN_nan s w).1]; rfl

set_option maxRecDepth 100000 in
set_option maxHeartbeats 1000000 in
theorem order32_any {w : World} (s t : Nat) : Calls Try.prog 8 #[.float .f32 s, .float .f32 t] w fun e w' => e = .returned (.int .i64 (fo (r32 s) (r32 t))) ∧ Below w.heap.size w w' := by
  obtain ⟨cs, ds, hcs, hfs, hls, hds⟩ := conv_ex (src := 23) (dst := 22) s rfl rfl
  obtain ⟨ct, dt, hct, hft, hlt, hdt⟩ := conv_ex (src := 23) (dst := 22) t rfl rfl
  have HX := hid (fun w w' => rank_any (w := w) (cs w') (hls w'))
  have HY := hid (fun w w' => rank_any (w := w) (ct w') (hlt w'))
  have h1 := r32_range s
  have h2 := r32_range t
  simp only [hfs] at HX
  simp only [hft] at HY
  unfold fo
  generalize r32 s = p at *
  generalize r32 t = q at *
  have HD := hid hds
  have HE := hid hdt
  clear hls hlt hfs hft hds hdt
  rcases Int.lt_trichotomy p q with hc | hc | hc
  · rw [if_pos hc]
    have hd : decide (p < q) = true := decide_eq_true hc
    go_enter Try.func8, Try.ntmps8
    go_wp2_with fail
    refine (HX.out _ _).mono ?_
    rintro e w1 ⟨rfl, rfl⟩
    go_wp2_with fail
    refine (HY.out _ _).mono ?_
    rintro e w2 ⟨rfl, rfl⟩
    go_wp2
    go_ret
    exact ⟨rfl, bel_next (HD.out w) (HE.out (ds w))⟩

  · rw [if_neg (by omega), if_neg (by omega)]
    have hd : decide (p < q) = false := decide_eq_false (by omega)
    have hd2 : decide (q < p) = false := decide_eq_false (by omega)
    go_enter Try.func8, Try.ntmps8
    go_wp2_with fail
    refine (HX.out _ _).mono ?_
    rintro e w1 ⟨rfl, rfl⟩
    go_wp2_with fail
    refine (HY.out _ _).mono ?_
    rintro e w2 ⟨rfl, rfl⟩
    go_wp2
    go_ret
    exact ⟨rfl, bel_next (HD.out w) (HE.out (ds w))⟩

  · rw [if_neg (by omega), if_pos hc]
    have hd : decide (p < q) = false := decide_eq_false (by omega)
    have hd2 : decide (q < p) = true := decide_eq_true hc
    go_enter Try.func8, Try.ntmps8
    go_wp2_with fail
    refine (HX.out _ _).mono ?_
    rintro e w1 ⟨rfl, rfl⟩
    go_wp2_with fail
    refine (HY.out _ _).mono ?_
    rintro e w2 ⟨rfl, rfl⟩
    go_wp2
    go_ret
    exact ⟨rfl, bel_next (HD.out w) (HE.out (ds w))⟩

set_option maxRecDepth 100000 in
set_option maxHeartbeats 1000000 in
theorem orderHalf_any {w : World} (s t : Nat) : Calls Try.prog 9 #[.float .f32 s, .float .f32 t] w fun e w' => e = .returned (.int .i64 (fo (r32 s) (r32 t))) ∧ Below w.heap.size w w' := by
  obtain ⟨cs, ds, hcs, hfs, hls, hds⟩ := conv_ex (src := 29) (dst := 22) s rfl rfl
  obtain ⟨ct, dt, hct, hft, hlt, hdt⟩ := conv_ex (src := 29) (dst := 22) t rfl rfl
  have HX := hid (fun w w' => rank_any (w := w) (cs w') (hls w'))
  have HY := hid (fun w w' => rank_any (w := w) (ct w') (hlt w'))
  have h1 := r32_range s
  have h2 := r32_range t
  simp only [hfs] at HX
  simp only [hft] at HY
  unfold fo
  generalize r32 s = p at *
  generalize r32 t = q at *
  have HD := hid hds
  have HE := hid hdt
  clear hls hlt hfs hft hds hdt
  rcases Int.lt_trichotomy p q with hc | hc | hc
  · rw [if_pos hc]
    have hd : decide (p < q) = true := decide_eq_true hc
    go_enter Try.func9, Try.ntmps9
    go_wp2_with fail
    refine (HX.out _ _).mono ?_
    rintro e w1 ⟨rfl, rfl⟩
    go_wp2_with fail
    refine (HY.out _ _).mono ?_
    rintro e w2 ⟨rfl, rfl⟩
    go_wp2
    go_ret
    exact ⟨rfl, bel_next (HD.out w) (HE.out (ds w))⟩

  · rw [if_neg (by omega), if_neg (by omega)]
    have hd : decide (p < q) = false := decide_eq_false (by omega)
    have hd2 : decide (q < p) = false := decide_eq_false (by omega)
    go_enter Try.func9, Try.ntmps9
    go_wp2_with fail
    refine (HX.out _ _).mono ?_
    rintro e w1 ⟨rfl, rfl⟩
    go_wp2_with fail
    refine (HY.out _ _).mono ?_
    rintro e w2 ⟨rfl, rfl⟩
    go_wp2
    go_ret
    exact ⟨rfl, bel_next (HD.out w) (HE.out (ds w))⟩

  · rw [if_neg (by omega), if_pos hc]
    have hd : decide (p < q) = false := decide_eq_false (by omega)
    have hd2 : decide (q < p) = true := decide_eq_true hc
    go_enter Try.func9, Try.ntmps9
    go_wp2_with fail
    refine (HX.out _ _).mono ?_
    rintro e w1 ⟨rfl, rfl⟩
    go_wp2_with fail
    refine (HY.out _ _).mono ?_
    rintro e w2 ⟨rfl, rfl⟩
    go_wp2
    go_ret
    exact ⟨rfl, bel_next (HD.out w) (HE.out (ds w))⟩

end Go.Proofs.Ytmeklhanppjkaaa
