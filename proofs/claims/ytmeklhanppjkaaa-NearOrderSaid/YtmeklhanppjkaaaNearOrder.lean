/- THE WALK OF credencelaw05.NearOrder: every two floats, of both kinds. -/
import Derived.Test.YtmeklhanppjkaaaFd
namespace Go.Proofs.Ytmeklhanppjkaaa
set_option linter.unusedVariables false
set_option linter.unusedSimpArgs false
open Go.ChangeShapes Go.WideShapes Go.ChangeAt Go.RowKit Go.FloatP

theorem wf64 {b : Nat} (h : (Lit.float .f64 b).wf = true) : b < 18446744073709551616 := by
  simp only [Lit.wf, decide_eq_true_eq] at h
  exact Nat.lt_of_lt_of_le h (by decide)

set_option maxRecDepth 100000 in
set_option maxHeartbeats 1000000 in
theorem nearOrder_walk {w : World} (a : Nat) (ha : a < 18446744073709551616) (b : Nat) (hb : b < 18446744073709551616) (s : Nat) (t : Nat) :
    Calls Try.prog 3 #[.float .f64 a, .float .f64 b, .float .f32 s, .float .f32 t] w fun e w' => e = .returned (.bool true) ∧ Below w.heap.size w w' := by
  obtain ⟨cs, ds, hcs, hfs, hls, hds⟩ := conv_ex (src := 23) (dst := 22) s rfl rfl
  obtain ⟨ct, dt, hct, hft, hlt, hdt⟩ := conv_ex (src := 23) (dst := 22) t rfl rfl
  have H1 := hid (fun w => order64_any (w := w) a b ha hb)
  have H2 := hid (fun w => rorder_any (w := w) a b ha hb)
  have H3 := hid (fun w => orderMine_any (w := w) b a hb ha)
  have H4 := hid (fun w => rorder_any (w := w) b a hb ha)
  have H5 := hid (fun w => order32_any (w := w) s t)
  have H6 := hid (fun w w' w'' => rorder_any (w := w) (cs w') (ct w'') (hls _) (hlt _))
  have H7 := hid (fun w => orderHalf_any (w := w) t s)
  have H8 := hid (fun w w' w'' => rorder_any (w := w) (ct w') (cs w'') (hlt _) (hls _))
  simp only [ford_fo, hfs, hft] at H1 H2 H3 H4 H5 H6 H7 H8
  generalize fo (frank a) (frank b) = p1 at *
  generalize fo (frank b) (frank a) = p2 at *
  generalize fo (r32 s) (r32 t) = p3 at *
  generalize fo (r32 t) (r32 s) = p4 at *
  have HD := hid hds
  have HE := hid hdt
  clear hls hlt hfs hft hds hdt ha hb
  go_enter Try.func3, Try.ntmps3
  go_wp2_with fail
  refine (H1.out _).mono ?_
  rintro e w1 ⟨rfl, rfl⟩
  go_wp2_with fail
  refine (H2.out _).mono ?_
  rintro e w2 ⟨rfl, rfl⟩
  go_wp2_with fail
  refine (H3.out _).mono ?_
  rintro e w3 ⟨rfl, rfl⟩
  go_wp2_with fail
  refine (H4.out _).mono ?_
  rintro e w4 ⟨rfl, rfl⟩
  go_wp2_with fail
  refine (H5.out _).mono ?_
  rintro e w5 ⟨rfl, hB5⟩
  go_wp2_with fail
  refine (H6.out _ _ _).mono ?_
  rintro e w6 ⟨rfl, rfl⟩
  have hB6 := bel_next (bel_next hB5 (HD.out w5)) (HE.out (ds w5))
  go_wp2_with fail
  refine (H7.out _).mono ?_
  rintro e w7 ⟨rfl, hB7⟩
  have hB8 := bel_next hB6 hB7
  go_wp2_with fail
  refine (H8.out _ _ _).mono ?_
  rintro e w8 ⟨rfl, rfl⟩
  have hB9 := bel_next (bel_next hB8 (HE.out w7)) (HD.out (dt w7))
  go_wp2
  go_ret
  exact ⟨rfl, hB9⟩
end Go.Proofs.Ytmeklhanppjkaaa
