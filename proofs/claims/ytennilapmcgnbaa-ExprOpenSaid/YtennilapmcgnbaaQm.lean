/- WALKS OF FRACTIONS, 13: the statements' helpers. -/
import Derived.Test.YtennilapmcgnbaaQ2
import Derived.Test.YtennilapmcgnbaaQ2
import Derived.Test.YtennilapmcgnbaaQ2
import Derived.Test.YtennilapmcgnbaaQ3
import Derived.Test.YtennilapmcgnbaaQ4
namespace Go.Proofs.Ytennilapmcgnbaa
set_option linter.unusedVariables false
set_option linter.unusedSimpArgs false
open Go.ChangeShapes Go.WideShapes Go.ChangeAt Go.RowKit Go.NatP

theorem szl {v k : Nat} (h : v < 4294967296) (hk : 1 ≤ k) : Sz v k := (show Sz v 1 by show v < 4294967296 ^ 1; omega).mono (Nat.le_refl _) hk

set_option maxRecDepth 100000 in
set_option maxHeartbeats 4000000 in
theorem fawake {w : World}  :
    Calls Try.prog 21 #[] w (fun e w' => e = .returned (.bool true) ∧ Below w.heap.size w w') := by
  obtain ⟨q1, e1⟩ : ∃ q, Rat.divInt 6 (-4) = q := ⟨_, rfl⟩
  obtain ⟨q2, e2⟩ : ∃ q, fpQ ⟨#[53, 47, 54]⟩ = q := ⟨_, rfl⟩
  have t1 := hid (show qtx q1 = ⟨#[45, 51, 47, 50]⟩ by rw [← e1]; decide +kernel)
  have t3 := hid (show qtx (q1 + q2) = ⟨#[45, 50, 47, 51]⟩ by rw [← e1, ← e2]; decide +kernel)
  have t0 := hid (show qtx (qsm [] 0) = ⟨#[48]⟩ by decide +kernel)
  have c12 := hid (show cmpQ q1 q2 = -1 by rw [← e1, ← e2]; decide +kernel)
  have s1 : Hid (QS q1 1) := ⟨by rw [← e1]; exact szl (by decide +kernel) (Nat.le_refl _), by rw [← e1]; exact szl (by decide +kernel) (Nat.le_refl _)⟩
  have s2 : Hid (QS q2 1) := ⟨by rw [← e2]; exact szl (by decide +kernel) (Nat.le_refl _), by rw [← e2]; exact szl (by decide +kernel) (Nat.le_refl _)⟩
  have s3 := hid ((s1.out.add s2.out).mono (show 1 + 1 + 1 ≤ 3 by omega))
  have H1 := hid (fun w => (qof (w := w) 6 (-4) (by omega) (by omega) (by omega) (by omega)).mono fun e w' h => retqe_ok h (by decide +kernel))
  rw [e1] at H1
  have H2 := hid (fun w => (qparse (w := w) ⟨#[53, 47, 54]⟩ (by decide +kernel)).mono fun e w' h => retqe_ok h (by decide +kernel))
  rw [e2] at H2
  clear e1 e2
  go_enter Try.func21, Try.ntmps21
  have hbel_0 : Below w.heap.size w w := Below.refl _ _
  go_wp2_with fail
  refine (H1.out _).mono ?_
  rintro e w1 ⟨xa, xn, xc, xb, xm, xd, rfl, hO, hO', hD, hB⟩
  have hB_1 : Below w.heap.size w w1 := (bl.next hB)
  have hbel_1 := hbel_0.next hB_1
  have hsz_1 := hB_1.size
  clear hbel_0 hB_1
  have Ox_1 := hO
  have ltOx := hO.ltB
  have Px_1 := hO'
  have ltPx := hO'.ltB
  clear hO hO' hD
  try clear hB
  have hbx := blk_new w1 #[Value.bool (decide ((q1).num < 0)), Value.slice xa xn xc, Value.slice xb xm xd] 28
  have hbB := (Below.refl w1.heap.size w1).alloc (Nat.le_refl _) (.cells #[Value.bool (decide ((q1).num < 0)), Value.slice xa xn xc, Value.slice xb xm xd] 28)
  have hltA := hbx.lt
  have hB_2 : Below w1.heap.size w1 (w1.alloc (.cells #[Value.bool (decide ((q1).num < 0)), Value.slice xa xn xc, Value.slice xb xm xd] 28)) := hbB
  have Ox_2 := Ox_1.below hB_2
  have Px_2 := Px_1.below hB_2
  have hbel_2 := hbel_1.next hB_2
  have hsz_2 := hB_2.size
  clear hB_2
  have A_2 := hbx
  clear hbx hbB
  have cA_2_0 : _ = some (Value.bool (decide ((q1).num < 0))) := A_2.cell 0
  have cA_2_1 : _ = some (Value.slice xa xn xc) := A_2.cell 1
  have cA_2_2 : _ = some (Value.slice xb xm xd) := A_2.cell 2
  go_wp2_with fail
  clear Ox_1 Px_1 hbel_1
  generalize (w1.alloc (.cells #[Value.bool (decide ((q1).num < 0)), Value.slice xa xn xc, Value.slice xb xm xd] 28)) = v2 at *
  have Vx_2 := Ox_2.rdQ Px_2 s1.out
  clear Ox_2
  clear Px_2
  go_wp2_with fail
  refine (H2.out _).mono ?_
  rintro e w3 ⟨ya, yn, yc, yb, ym, yd, rfl, hO, hO', hD, hB⟩
  have hB_3 : Below v2.heap.size v2 w3 := (bl.next hB)
  have A_3 := A_2.next hB_3
  have cA_3_0 : _ = some (Value.bool (decide ((q1).num < 0))) := A_3.cell 0
  have cA_3_1 : _ = some (Value.slice xa xn xc) := A_3.cell 1
  have cA_3_2 : _ = some (Value.slice xb xm xd) := A_3.cell 2
  have Vx_3 := Vx_2.below hB_3
  have hbel_3 := hbel_2.next hB_3
  have hsz_3 := hB_3.size
  clear A_2 cA_2_0 cA_2_1 cA_2_2 Vx_2 hbel_2 hB_3
  have Oy_3 := hO
  have ltOy := hO.ltB
  have Py_3 := hO'
  have ltPy := hO'.ltB
  clear hO hO' hD
  try clear hB
  have hbx := blk_new w3 #[Value.bool (decide ((q2).num < 0)), Value.slice ya yn yc, Value.slice yb ym yd] 28
  have hbB := (Below.refl w3.heap.size w3).alloc (Nat.le_refl _) (.cells #[Value.bool (decide ((q2).num < 0)), Value.slice ya yn yc, Value.slice yb ym yd] 28)
  have hltB := hbx.lt
  have hB_4 : Below w3.heap.size w3 (w3.alloc (.cells #[Value.bool (decide ((q2).num < 0)), Value.slice ya yn yc, Value.slice yb ym yd] 28)) := hbB
  have A_4 := A_3.next hB_4
  have cA_4_0 : _ = some (Value.bool (decide ((q1).num < 0))) := A_4.cell 0
  have cA_4_1 : _ = some (Value.slice xa xn xc) := A_4.cell 1
  have cA_4_2 : _ = some (Value.slice xb xm xd) := A_4.cell 2
  have Vx_4 := Vx_3.below hB_4
  have Oy_4 := Oy_3.below hB_4
  have Py_4 := Py_3.below hB_4
  have hbel_4 := hbel_3.next hB_4
  have hsz_4 := hB_4.size
  clear hB_4
  have B_4 := hbx
  clear hbx hbB
  have cB_4_0 : _ = some (Value.bool (decide ((q2).num < 0))) := B_4.cell 0
  have cB_4_1 : _ = some (Value.slice ya yn yc) := B_4.cell 1
  have cB_4_2 : _ = some (Value.slice yb ym yd) := B_4.cell 2
  go_wp2_with fail
  clear A_3 cA_3_0 cA_3_1 cA_3_2 Vx_3 Oy_3 Py_3 hbel_3
  generalize (w3.alloc (.cells #[Value.bool (decide ((q2).num < 0)), Value.slice ya yn yc, Value.slice yb ym yd] 28)) = v4 at *
  have Vy_4 := Oy_4.rdQ Py_4 s2.out
  clear Oy_4
  clear Py_4
  go_wp2_with fail
  refine (qadd Vx_4 (by omega) Vy_4 (by omega)).mono ?_
  rintro e w5 ⟨za, zn, zc, zb, zm, zd, rfl, hO, hO', hD, hB⟩
  have hB_5 : Below v4.heap.size v4 w5 := (bl.next hB)
  have A_5 := A_4.next hB_5
  have cA_5_0 : _ = some (Value.bool (decide ((q1).num < 0))) := A_5.cell 0
  have cA_5_1 : _ = some (Value.slice xa xn xc) := A_5.cell 1
  have cA_5_2 : _ = some (Value.slice xb xm xd) := A_5.cell 2
  have B_5 := B_4.next hB_5
  have cB_5_0 : _ = some (Value.bool (decide ((q2).num < 0))) := B_5.cell 0
  have cB_5_1 : _ = some (Value.slice ya yn yc) := B_5.cell 1
  have cB_5_2 : _ = some (Value.slice yb ym yd) := B_5.cell 2
  have Vx_5 := Vx_4.below hB_5
  have Vy_5 := Vy_4.below hB_5
  have hbel_5 := hbel_4.next hB_5
  have hsz_5 := hB_5.size
  clear A_4 cA_4_0 cA_4_1 cA_4_2 B_4 cB_4_0 cB_4_1 cB_4_2 Vx_4 Vy_4 hbel_4 hB_5
  have Oz_5 := hO
  have ltOz := hO.ltB
  have Pz_5 := hO'
  have ltPz := hO'.ltB
  clear hO hO' hD
  try clear hB
  have hbx := blk_new w5 #[Value.bool (decide ((q1 + q2).num < 0)), Value.slice za zn zc, Value.slice zb zm zd] 28
  have hbB := (Below.refl w5.heap.size w5).alloc (Nat.le_refl _) (.cells #[Value.bool (decide ((q1 + q2).num < 0)), Value.slice za zn zc, Value.slice zb zm zd] 28)
  have hltC := hbx.lt
  have hB_6 : Below w5.heap.size w5 (w5.alloc (.cells #[Value.bool (decide ((q1 + q2).num < 0)), Value.slice za zn zc, Value.slice zb zm zd] 28)) := hbB
  have A_6 := A_5.next hB_6
  have cA_6_0 : _ = some (Value.bool (decide ((q1).num < 0))) := A_6.cell 0
  have cA_6_1 : _ = some (Value.slice xa xn xc) := A_6.cell 1
  have cA_6_2 : _ = some (Value.slice xb xm xd) := A_6.cell 2
  have B_6 := B_5.next hB_6
  have cB_6_0 : _ = some (Value.bool (decide ((q2).num < 0))) := B_6.cell 0
  have cB_6_1 : _ = some (Value.slice ya yn yc) := B_6.cell 1
  have cB_6_2 : _ = some (Value.slice yb ym yd) := B_6.cell 2
  have Vx_6 := Vx_5.below hB_6
  have Vy_6 := Vy_5.below hB_6
  have Oz_6 := Oz_5.below hB_6
  have Pz_6 := Pz_5.below hB_6
  have hbel_6 := hbel_5.next hB_6
  have hsz_6 := hB_6.size
  clear hB_6
  have C_6 := hbx
  clear hbx hbB
  have cC_6_0 : _ = some (Value.bool (decide ((q1 + q2).num < 0))) := C_6.cell 0
  have cC_6_1 : _ = some (Value.slice za zn zc) := C_6.cell 1
  have cC_6_2 : _ = some (Value.slice zb zm zd) := C_6.cell 2
  go_wp2_with fail
  clear A_5 cA_5_0 cA_5_1 cA_5_2 B_5 cB_5_0 cB_5_1 cB_5_2 Vx_5 Vy_5 Oz_5 Pz_5 hbel_5
  generalize (w5.alloc (.cells #[Value.bool (decide ((q1 + q2).num < 0)), Value.slice za zn zc, Value.slice zb zm zd] 28)) = v6 at *
  have Vz_6 := Oz_6.rdQ Pz_6 s3.out
  clear Oz_6
  clear Pz_6
  go_wp2_with fail
  refine (qtext Vx_6 (by omega)).mono ?_
  rw [t1.out]
  rintro e w7 ⟨rfl, hB⟩
  have hB_7 : Below v6.heap.size v6 w7 := (bl.next hB)
  have A_7 := A_6.next hB_7
  have cA_7_0 : _ = some (Value.bool (decide ((q1).num < 0))) := A_7.cell 0
  have cA_7_1 : _ = some (Value.slice xa xn xc) := A_7.cell 1
  have cA_7_2 : _ = some (Value.slice xb xm xd) := A_7.cell 2
  have B_7 := B_6.next hB_7
  have cB_7_0 : _ = some (Value.bool (decide ((q2).num < 0))) := B_7.cell 0
  have cB_7_1 : _ = some (Value.slice ya yn yc) := B_7.cell 1
  have cB_7_2 : _ = some (Value.slice yb ym yd) := B_7.cell 2
  have C_7 := C_6.next hB_7
  have cC_7_0 : _ = some (Value.bool (decide ((q1 + q2).num < 0))) := C_7.cell 0
  have cC_7_1 : _ = some (Value.slice za zn zc) := C_7.cell 1
  have cC_7_2 : _ = some (Value.slice zb zm zd) := C_7.cell 2
  have Vx_7 := Vx_6.below hB_7
  have Vy_7 := Vy_6.below hB_7
  have Vz_7 := Vz_6.below hB_7
  have hbel_7 := hbel_6.next hB_7
  have hsz_7 := hB_7.size
  clear A_6 cA_6_0 cA_6_1 cA_6_2 B_6 cB_6_0 cB_6_1 cB_6_2 C_6 cC_6_0 cC_6_1 cC_6_2 Vx_6 Vy_6 Vz_6 hbel_6 hB_7
  try clear hB
  go_wp2_with fail
  refine (qtext Vz_7 (by omega)).mono ?_
  rw [t3.out]
  rintro e w8 ⟨rfl, hB⟩
  have hB_8 : Below w7.heap.size w7 w8 := (bl.next hB)
  have A_8 := A_7.next hB_8
  have cA_8_0 : _ = some (Value.bool (decide ((q1).num < 0))) := A_8.cell 0
  have cA_8_1 : _ = some (Value.slice xa xn xc) := A_8.cell 1
  have cA_8_2 : _ = some (Value.slice xb xm xd) := A_8.cell 2
  have B_8 := B_7.next hB_8
  have cB_8_0 : _ = some (Value.bool (decide ((q2).num < 0))) := B_8.cell 0
  have cB_8_1 : _ = some (Value.slice ya yn yc) := B_8.cell 1
  have cB_8_2 : _ = some (Value.slice yb ym yd) := B_8.cell 2
  have C_8 := C_7.next hB_8
  have cC_8_0 : _ = some (Value.bool (decide ((q1 + q2).num < 0))) := C_8.cell 0
  have cC_8_1 : _ = some (Value.slice za zn zc) := C_8.cell 1
  have cC_8_2 : _ = some (Value.slice zb zm zd) := C_8.cell 2
  have Vx_8 := Vx_7.below hB_8
  have Vy_8 := Vy_7.below hB_8
  have Vz_8 := Vz_7.below hB_8
  have hbel_8 := hbel_7.next hB_8
  have hsz_8 := hB_8.size
  clear A_7 cA_7_0 cA_7_1 cA_7_2 B_7 cB_7_0 cB_7_1 cB_7_2 C_7 cC_7_0 cC_7_1 cC_7_2 Vx_7 Vy_7 Vz_7 hbel_7 hB_8
  try clear hB
  go_wp2_with fail
  refine (qsum (rdqs_nil 1 _) (Nat.le_refl _) (by omega)).mono ?_
  rintro e w9 ⟨sa, sn, sc, sb, sm, sd, rfl, hO, hO', hD, hB⟩
  have hB_9 : Below w8.heap.size w8 w9 := (bl.next hB)
  have A_9 := A_8.next hB_9
  have cA_9_0 : _ = some (Value.bool (decide ((q1).num < 0))) := A_9.cell 0
  have cA_9_1 : _ = some (Value.slice xa xn xc) := A_9.cell 1
  have cA_9_2 : _ = some (Value.slice xb xm xd) := A_9.cell 2
  have B_9 := B_8.next hB_9
  have cB_9_0 : _ = some (Value.bool (decide ((q2).num < 0))) := B_9.cell 0
  have cB_9_1 : _ = some (Value.slice ya yn yc) := B_9.cell 1
  have cB_9_2 : _ = some (Value.slice yb ym yd) := B_9.cell 2
  have C_9 := C_8.next hB_9
  have cC_9_0 : _ = some (Value.bool (decide ((q1 + q2).num < 0))) := C_9.cell 0
  have cC_9_1 : _ = some (Value.slice za zn zc) := C_9.cell 1
  have cC_9_2 : _ = some (Value.slice zb zm zd) := C_9.cell 2
  have Vx_9 := Vx_8.below hB_9
  have Vy_9 := Vy_8.below hB_9
  have Vz_9 := Vz_8.below hB_9
  have hbel_9 := hbel_8.next hB_9
  have hsz_9 := hB_9.size
  clear A_8 cA_8_0 cA_8_1 cA_8_2 B_8 cB_8_0 cB_8_1 cB_8_2 C_8 cC_8_0 cC_8_1 cC_8_2 Vx_8 Vy_8 Vz_8 hbel_8 hB_9
  have Vs_9 := hO.rdQ hO' qs_zero
  clear hO hO' hD
  try clear hB
  go_wp2_with fail
  refine (qtext Vs_9 (by omega)).mono ?_
  rw [t0.out]
  rintro e w10 ⟨rfl, hB⟩
  have hB_10 : Below w9.heap.size w9 w10 := (bl.next hB)
  have A_10 := A_9.next hB_10
  have cA_10_0 : _ = some (Value.bool (decide ((q1).num < 0))) := A_10.cell 0
  have cA_10_1 : _ = some (Value.slice xa xn xc) := A_10.cell 1
  have cA_10_2 : _ = some (Value.slice xb xm xd) := A_10.cell 2
  have B_10 := B_9.next hB_10
  have cB_10_0 : _ = some (Value.bool (decide ((q2).num < 0))) := B_10.cell 0
  have cB_10_1 : _ = some (Value.slice ya yn yc) := B_10.cell 1
  have cB_10_2 : _ = some (Value.slice yb ym yd) := B_10.cell 2
  have C_10 := C_9.next hB_10
  have cC_10_0 : _ = some (Value.bool (decide ((q1 + q2).num < 0))) := C_10.cell 0
  have cC_10_1 : _ = some (Value.slice za zn zc) := C_10.cell 1
  have cC_10_2 : _ = some (Value.slice zb zm zd) := C_10.cell 2
  have Vx_10 := Vx_9.below hB_10
  have Vy_10 := Vy_9.below hB_10
  have Vz_10 := Vz_9.below hB_10
  have Vs_10 := Vs_9.below hB_10
  have hbel_10 := hbel_9.next hB_10
  have hsz_10 := hB_10.size
  clear A_9 cA_9_0 cA_9_1 cA_9_2 B_9 cB_9_0 cB_9_1 cB_9_2 C_9 cC_9_0 cC_9_1 cC_9_2 Vx_9 Vy_9 Vz_9 Vs_9 hbel_9 hB_10
  try clear hB
  go_wp2_with fail
  refine (qcmp Vx_10 (by omega) Vy_10 (by omega)).mono ?_
  rw [c12.out]
  rintro e w11 ⟨rfl, hB⟩
  have hB_11 : Below w10.heap.size w10 w11 := (bl.next hB)
  have A_11 := A_10.next hB_11
  have cA_11_0 : _ = some (Value.bool (decide ((q1).num < 0))) := A_11.cell 0
  have cA_11_1 : _ = some (Value.slice xa xn xc) := A_11.cell 1
  have cA_11_2 : _ = some (Value.slice xb xm xd) := A_11.cell 2
  have B_11 := B_10.next hB_11
  have cB_11_0 : _ = some (Value.bool (decide ((q2).num < 0))) := B_11.cell 0
  have cB_11_1 : _ = some (Value.slice ya yn yc) := B_11.cell 1
  have cB_11_2 : _ = some (Value.slice yb ym yd) := B_11.cell 2
  have C_11 := C_10.next hB_11
  have cC_11_0 : _ = some (Value.bool (decide ((q1 + q2).num < 0))) := C_11.cell 0
  have cC_11_1 : _ = some (Value.slice za zn zc) := C_11.cell 1
  have cC_11_2 : _ = some (Value.slice zb zm zd) := C_11.cell 2
  have Vx_11 := Vx_10.below hB_11
  have Vy_11 := Vy_10.below hB_11
  have Vz_11 := Vz_10.below hB_11
  have Vs_11 := Vs_10.below hB_11
  have hbel_11 := hbel_10.next hB_11
  have hsz_11 := hB_11.size
  clear A_10 cA_10_0 cA_10_1 cA_10_2 B_10 cB_10_0 cB_10_1 cB_10_2 C_10 cC_10_0 cC_10_1 cC_10_2 Vx_10 Vy_10 Vz_10 Vs_10 hbel_10 hB_11
  try clear hB
  go_wp2
  go_ret
  exact ⟨rfl, hbel_11⟩

/-- a whole number cut to N limbs -/
def RetCutZ (w : World) (N n0 : Nat) (s : Bool) (a : Option Addr) (c : Nat) (e : Ending) (w' : World) : Prop :=
  ∃ n l, e = .returned (.agg #[.bool s, .slice a n c]) ∧ n ≤ N ∧ n ≤ n0 ∧ Rd w' a n c l ∧ Below w.heap.size w w'
/-- a fraction cut to N limbs each -/
def RetCutQ (w : World) (N n0 m0 : Nat) (s : Bool) (a : Option Addr) (c : Nat) (b : Option Addr) (d : Nat) (e : Ending) (w' : World) : Prop :=
  ∃ n l m k, e = .returned (.agg #[.bool s, .slice a n c, .slice b m d]) ∧ n ≤ N ∧ m ≤ N ∧ n ≤ n0 ∧ m ≤ m0 ∧ Rd w' a n c l ∧ Rd w' b m d k ∧ Below w.heap.size w w'
theorem Below.set1 {B g i : Nat} {a w : World} (h : Below B a w) (hg : B ≤ g) (v : Value) : Below B a (w.setCell ⟨g, i, none⟩ v) := h.setCell (p := ⟨g, i, none⟩) hg v

set_option maxRecDepth 100000 in
set_option maxHeartbeats 4000000 in
theorem fcut {w : World} {a b : Option Addr} {n c m d : Nat} {l k : List Nat} {s : Bool} (N : Nat) (hN : N ≤ 1000) (ha : Rd w a n c l) (hb : Rd w b m d k) : Calls Try.prog 22 #[.agg #[.bool s, .slice a n c, .slice b m d], .int .i64 (N : Int)] w (RetCutQ w N n m s a c b d) := by
  have hbn := ha.bnd
  have hbm := hb.bnd
  by_cases hn : N < n
  · obtain ⟨b0, o0, rfl⟩ := ha.head (by omega)
    have hp := hid (ha.pre (k := N) (by omega))
    clear ha
    have hd : decide (N < n) = true := decide_eq_true hn
    by_cases hm : N < m
    · obtain ⟨b1, o1, rfl⟩ := hb.head (by omega)
      have hq := hid (hb.pre (k := N) (by omega))
      clear hb
      have hd2 : decide (N < m) = true := decide_eq_true hm
      go_enter Try.func22, Try.ntmps22
      go_wp2
      refine bodyPost_ret (v := .agg #[.bool s, .slice (some ⟨b0, o0, none⟩) N c, .slice (some ⟨b1, o1, none⟩) N d]) (by simp [results, Try.results22, go_sem]) rfl ?_
      exact ⟨N, _, N, _, rfl, Nat.le_refl _, Nat.le_refl _, by omega, by omega, (hp.out.alloc _).alloc _, (hq.out.alloc _).alloc _, ((Below.refl _ _).alloc (Nat.le_refl _) _).alloc (by simp) _⟩
    · have hq := hid hb
      clear hb
      have hd2 : decide (N < m) = false := decide_eq_false hm
      go_enter Try.func22, Try.ntmps22
      go_wp2
      refine bodyPost_ret (v := .agg #[.bool s, .slice (some ⟨b0, o0, none⟩) N c, .slice b m d]) (by simp [results, Try.results22, go_sem]) rfl ?_
      exact ⟨N, _, m, _, rfl, Nat.le_refl _, by omega, by omega, by omega, (hp.out.alloc _).alloc _, (hq.out.alloc _).alloc _, ((Below.refl _ _).alloc (Nat.le_refl _) _).alloc (by simp) _⟩
  · have hp := hid ha
    clear ha
    have hd : decide (N < n) = false := decide_eq_false hn
    by_cases hm : N < m
    · obtain ⟨b1, o1, rfl⟩ := hb.head (by omega)
      have hq := hid (hb.pre (k := N) (by omega))
      clear hb
      have hd2 : decide (N < m) = true := decide_eq_true hm
      go_enter Try.func22, Try.ntmps22
      go_wp2
      refine bodyPost_ret (v := .agg #[.bool s, .slice a n c, .slice (some ⟨b1, o1, none⟩) N d]) (by simp [results, Try.results22, go_sem]) rfl ?_
      exact ⟨n, _, N, _, rfl, by omega, Nat.le_refl _, by omega, by omega, (hp.out.alloc _).alloc _, (hq.out.alloc _).alloc _, ((Below.refl _ _).alloc (Nat.le_refl _) _).alloc (by simp) _⟩
    · have hq := hid hb
      clear hb
      have hd2 : decide (N < m) = false := decide_eq_false hm
      go_enter Try.func22, Try.ntmps22
      go_wp2
      refine bodyPost_ret (v := .agg #[.bool s, .slice a n c, .slice b m d]) (by simp [results, Try.results22, go_sem]) rfl ?_
      exact ⟨n, _, m, _, rfl, by omega, by omega, by omega, by omega, (hp.out.alloc _).alloc _, (hq.out.alloc _).alloc _, ((Below.refl _ _).alloc (Nat.le_refl _) _).alloc (by simp) _⟩

/-- a list of limbs with marked room behind -/
def Lent (w : World) (a : Option Addr) (n c : Nat) (l : List Nat) : Prop := Rd w a (n + 5) c (l ++ List.replicate 5 7000) ∧ Rd w a n c l
theorem Lent.below {w w' : World} {a : Option Addr} {n c : Nat} {l : List Nat} (h : Lent w a n c l) (hB : Below w.heap.size w w') : Lent w' a n c l := ⟨h.1.below hB, h.2.below hB⟩
theorem Own.lent {B : Nat} {w : World} {a : Option Addr} {n c : Nat} {l : List Nat} (h : Own B w a (n + 5) c (l ++ List.replicate 5 7000)) (hl : l.length = n) : Lent w a n c l := by
  refine ⟨h.rd, ?_⟩
  have := h.rd.pre (k := n) (by omega)
  rwa [List.take_left' hl] at this
def RetLendZ (w : World) (s : Bool) (n : Nat) (l : List Nat) (e : Ending) (w' : World) : Prop :=
  ∃ a c, e = .returned (.agg #[.bool s, .slice a n c]) ∧ Lent w' a n c l ∧ (∀ b o, a = some ⟨b, o, none⟩ → w.heap.size ≤ b) ∧ Below w.heap.size w w'
def RetLendQ (w : World) (s : Bool) (n : Nat) (l : List Nat) (m : Nat) (k : List Nat) (e : Ending) (w' : World) : Prop :=
  ∃ a c b d, e = .returned (.agg #[.bool s, .slice a n c, .slice b m d]) ∧ Lent w' a n c l ∧ Lent w' b m d k ∧ Below w.heap.size w w'
theorem Lent.set2 {w : World} {a : Option Addr} {n c : Nat} {l : List Nat} (h : Lent w a n c l) {g : Nat} (hg : ∀ b o, a = some ⟨b, o, none⟩ → b ≠ g) (v0 v1 : Value) : Lent ((w.setCell ⟨g, 0, none⟩ v0).setCell ⟨g, 1, none⟩ v1) a n c l := by
  have hk := ((Kp.refl (fun j => j = g) w).setCell (ad := ⟨g, 0, none⟩) rfl v0).setCell (ad := ⟨g, 1, none⟩) rfl v1
  exact ⟨h.1.kp hk hg, h.2.kp hk hg⟩
theorem Lent.set3 {w : World} {a : Option Addr} {n c : Nat} {l : List Nat} (h : Lent w a n c l) {g : Nat} (hg : ∀ b o, a = some ⟨b, o, none⟩ → b ≠ g) (v0 v1 v2 : Value) : Lent (((w.setCell ⟨g, 0, none⟩ v0).setCell ⟨g, 1, none⟩ v1).setCell ⟨g, 2, none⟩ v2) a n c l := by
  have hk := (((Kp.refl (fun j => j = g) w).setCell (ad := ⟨g, 0, none⟩) rfl v0).setCell (ad := ⟨g, 1, none⟩) rfl v1).setCell (ad := ⟨g, 2, none⟩) rfl v2
  exact ⟨h.1.kp hk hg, h.2.kp hk hg⟩
theorem Own.blk_ge {B : Nat} {w : World} {a : Option Addr} {n c : Nat} {l : List Nat} (h : Own B w a n c l) {b o : Nat} (e : a = some ⟨b, o, none⟩) : B ≤ b := by
  rcases h.cases with ⟨h1, _⟩ | ⟨g, h1, h2, _⟩
  · rw [h1] at e; cases e
  · rw [h1] at e; cases e; exact h2

/-- what came in is as it was behind a store into a block of the call's own -/
theorem Rd.kp_old {w W W' : World} {a : Option Addr} {n n' c : Nat} {l l' : List Nat} {p : Nat → Prop} (h0 : Rd w a n c l) (hn : n' ≤ n) (h : Rd W a n' c l') (hk : Kp p W W') (hp : ∀ b, b < w.heap.size → ¬ p b) : Rd W' a n' c l' := by
  rcases Nat.eq_zero_or_pos n' with h1 | h1
  · exact ⟨h.1, h.2.1, h.2.2.1, h.2.2.2.1, fun i hi => by omega⟩
  · exact h.kp hk fun b o e => hp b (h0.blk_lt (by omega) e)
theorem kp_set2 (w : World) (g : Nat) (v0 v1 : Value) : Kp (fun j => j = g) w ((w.setCell ⟨g, 0, none⟩ v0).setCell ⟨g, 1, none⟩ v1) := ((Kp.refl (fun j => j = g) w).setCell (ad := ⟨g, 0, none⟩) rfl v0).setCell (ad := ⟨g, 1, none⟩) rfl v1
theorem kp_set3 (w : World) (g : Nat) (v0 v1 v2 : Value) : Kp (fun j => j = g) w (((w.setCell ⟨g, 0, none⟩ v0).setCell ⟨g, 1, none⟩ v1).setCell ⟨g, 2, none⟩ v2) := (kp_set2 w g v0 v1).setCell (ad := ⟨g, 2, none⟩) rfl v2
theorem Blk.set2 {w : World} {g g' : Nat} {cs : Array Value} (h : Blk w g' cs) (hne : g' ≠ g) (v0 v1 : Value) : Blk ((w.setCell ⟨g, 0, none⟩ v0).setCell ⟨g, 1, none⟩ v1) g' cs := (h.set_other hne).set_other hne
theorem Lent.kp {w w' : World} {a : Option Addr} {n c : Nat} {l : List Nat} {p : Nat → Prop} (h : Lent w a n c l) (hk : Kp p w w') (hp : ∀ b o, a = some ⟨b, o, none⟩ → ¬ p b) : Lent w' a n c l := ⟨h.1.kp hk hp, h.2.kp hk hp⟩

/-! ### fractions that were answered, in a row -/
theorem qnl_len {q : Rat} {er : Int} {k : Nat} (h : QS q k) : (qnl q er).length ≤ k := by unfold qnl; split; exact h.len1; exact Nat.zero_le _
theorem qdl_len {q : Rat} {er : Int} {k : Nat} (h : QS q k) : (qdl q er).length ≤ k := by unfold qdl; split; exact h.len2; exact Nat.zero_le _
theorem divInt_sz {u v k : Nat} (hu : Sz u k) (hv : Sz v k) (s t : Bool) (hk : 1 ≤ k) : QS (Rat.divInt (zv s u) (zv t v)) k := by
  by_cases h : v = 0
  · rw [zv_zero t h, Rat.divInt_zero]; exact qs_zero.mono hk
  · rw [← divInt_zv s t u h]; exact QS.mk h (by rw [zv_abs]; exact hu) hv
theorem divInt_szi {k l : Int} (h1 : -9223372036854775808 ≤ k) (h2 : k ≤ 9223372036854775807) (h3 : -9223372036854775808 ≤ l) (h4 : l ≤ 9223372036854775807) : QS (Rat.divInt k l) 2 := by
  have h := divInt_sz (szInt h1 h2) (szInt h3 h4) (decide (k < 0)) (decide (l < 0)) (by omega)
  rwa [zv_self, zv_self] at h
section
variable {W : World} {g : Nat} {s t : Bool} {a b a' b' : Option Addr} {n c m d n' c' m' d' : Nat} {l k l' k' : List Nat} {B1 B2 B3 B4 : Nat}
def pick2 {α : Type} (x y : α) (i : Nat) : α := if i = 0 then x else y
def pick4 {α : Type} (x y z u : α) (i : Nat) : α := if i = 0 then x else if i = 1 then y else if i = 2 then z else u
theorem rgot1 (hc : Blk W g #[.bool s, .slice a n c, .slice b m d]) (h1 : Own B1 W a n c l) (h2 : Own B2 W b m d k) (hD : Diff a b) :
    RGot W (some ⟨g, 0, none⟩) 1 (pick2 a b) (pick2 n m) (pick2 c d) (pick2 l k) := by
  refine ⟨fun i hi => ?_, fun i hi => ?_, fun i j hi hj hij g' e => ?_⟩
  · obtain rfl : i = 0 := by omega
    exact ⟨g, 0, rfl, hc.cell 1, hc.cell 2⟩
  · rcases (by omega : i = 0 ∨ i = 1) with rfl | rfl
    · exact h1.mono (Nat.zero_le _)
    · exact h2.mono (Nat.zero_le _)
  · rcases (by omega : (i = 0 ∧ j = 1) ∨ (i = 1 ∧ j = 0)) with ⟨rfl, rfl⟩ | ⟨rfl, rfl⟩
    · exact hD g' e
    · exact hD.symm g' e
theorem rgot2 (hc : Blk W g #[.bool s, .slice a n c, .slice b m d, .bool t, .slice a' n' c', .slice b' m' d']) (h1 : Own B1 W a n c l) (h2 : Own B2 W b m d k) (h3 : Own B3 W a' n' c' l') (h4 : Own B4 W b' m' d' k')
    (d12 : Diff a b) (d13 : Diff a a') (d14 : Diff a b') (d23 : Diff b a') (d24 : Diff b b') (d34 : Diff a' b') :
    RGot W (some ⟨g, 0, none⟩) 2 (pick4 a b a' b') (pick4 n m n' m') (pick4 c d c' d') (pick4 l k l' k') := by
  refine ⟨fun i hi => ?_, fun i hi => ?_, fun i j hi hj hij g' e => ?_⟩
  · rcases (by omega : i = 0 ∨ i = 1) with rfl | rfl
    · exact ⟨g, 0, rfl, hc.cell 1, hc.cell 2⟩
    · exact ⟨g, 0, rfl, hc.cell 4, hc.cell 5⟩
  · rcases (by omega : i = 0 ∨ i = 1 ∨ i = 2 ∨ i = 3) with rfl | rfl | rfl | rfl
    · exact h1.mono (Nat.zero_le _)
    · exact h2.mono (Nat.zero_le _)
    · exact h3.mono (Nat.zero_le _)
    · exact h4.mono (Nat.zero_le _)
  · rcases (by omega : i = 0 ∨ i = 1 ∨ i = 2 ∨ i = 3) with rfl | rfl | rfl | rfl <;> rcases (by omega : j = 0 ∨ j = 1 ∨ j = 2 ∨ j = 3) with rfl | rfl | rfl | rfl <;>
      first | exact absurd rfl hij | exact d12 g' e | exact d13 g' e | exact d14 g' e | exact d23 g' e | exact d24 g' e | exact d34 g' e | exact d12.symm g' e | exact d13.symm g' e | exact d14.symm g' e | exact d23.symm g' e | exact d24.symm g' e | exact d34.symm g' e
theorem pick2_le {x y N : Nat} (h1 : x ≤ N) (h2 : y ≤ N) (i : Nat) : pick2 x y i ≤ N := by unfold pick2; split <;> assumption
theorem pick4_le {x y z u N : Nat} (h1 : x ≤ N) (h2 : y ≤ N) (h3 : z ≤ N) (h4 : u ≤ N) (i : Nat) : pick4 x y z u i ≤ N := by unfold pick4; split; assumption; split; assumption; split <;> assumption
/-- behind OwnRats: what lies before the answers is as it was -/
theorem below_own1 {V w' : World} (hB : Below V.heap.size V W) (hK : Kp (fun j => ∃ i, i < 2 ∧ pick2 a b i = some ⟨j, 0, none⟩) W w') (h1 : Own B1 W a n c l) (h2 : Own B2 W b m d k) (l1 : V.heap.size ≤ B1) (l2 : V.heap.size ≤ B2) : Below V.heap.size V w' :=
  hB.kp hK hB.size fun j hj ⟨i, hi, e⟩ => by
    rcases (by omega : i = 0 ∨ i = 1) with rfl | rfl
    · have := h1.lt' j e; omega
    · have := h2.lt' j e; omega
theorem below_own2 {V w' : World} (hB : Below V.heap.size V W) (hK : Kp (fun j => ∃ i, i < 4 ∧ pick4 a b a' b' i = some ⟨j, 0, none⟩) W w') (h1 : Own B1 W a n c l) (h2 : Own B2 W b m d k) (h3 : Own B3 W a' n' c' l') (h4 : Own B4 W b' m' d' k')
    (l1 : V.heap.size ≤ B1) (l2 : V.heap.size ≤ B2) (l3 : V.heap.size ≤ B3) (l4 : V.heap.size ≤ B4) : Below V.heap.size V w' :=
  hB.kp hK hB.size fun j hj ⟨i, hi, e⟩ => by
    rcases (by omega : i = 0 ∨ i = 1 ∨ i = 2 ∨ i = 3) with rfl | rfl | rfl | rfl
    · have := h1.lt' j e; omega
    · have := h2.lt' j e; omega
    · have := h3.lt' j e; omega
    · have := h4.lt' j e; omega
end

end Go.Proofs.Ytennilapmcgnbaa
