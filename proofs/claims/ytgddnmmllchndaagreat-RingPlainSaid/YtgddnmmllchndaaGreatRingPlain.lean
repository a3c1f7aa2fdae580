/- THE WALK OF credencelaw12.RingPlain: of any two ints, floats, yes and no. -/
import Derived.Test.YtgddnmmllchndaaGreatKp
namespace Go.Proofs.YtgddnmmllchndaaGreat
set_option linter.unusedVariables false
set_option linter.unusedSimpArgs false
open Go.ChangeShapes Go.WideShapes Go.ChangeAt Go.RowKit Go.NatP Go.FloatP

set_option maxRecDepth 100000 in
set_option maxHeartbeats 8000000 in
theorem ringPlain_sstt {w : World} (a b : Int) (a1 : -9223372036854775808 ≤ a) (a2 : a ≤ 9223372036854775807) (b1 : -9223372036854775808 ≤ b) (b2 : b ≤ 9223372036854775807) (x y : Nat) {ra : Nat} (ha : floatBits .add .f64 x y = some ra) {rm : Nat} (hm : floatBits .mul .f64 x y = some rm) :
    Calls Tryz.prog 8 #[.int .i64 a, .int .i64 b, .float .f64 x, .float .f64 y, .bool true, .bool true] w (fun e w' => e = .returned (.bool true) ∧ Below w.heap.size w w') := by
  have h00 : (FloatKind.f64.format.order 0 0 == some Ordering.eq) = true := by decide +kernel
  have h11 : (FloatKind.f64.format.order 4607182418800017408 4607182418800017408 == some Ordering.eq) = true := by decide +kernel
  have La := hid (bits_lt ha)
  have Ra := fun w => run_float_arith (P := Tryz.prog) w .add 81 .f64 x y ra ha
  have Ha := hid ha
  clear ha
  have Lm := hid (bits_lt hm)
  have Rm := fun w => run_float_arith (P := Tryz.prog) w .mul 81 .f64 x y rm hm
  have Hm := hid hm
  clear hm
  have FS := hid (flt_self x)
  obtain ⟨fl, hfl0⟩ : ∃ c, flt x y = c := ⟨_, rfl⟩
  have hfl := hid hfl0
  clear hfl0
  obtain ⟨ab, hab⟩ : ∃ c, (a == b) = c := ⟨_, rfl⟩
  go_enter Tryz.func8, Tryz.ntmps8
  have hbel_0 : Below w.heap.size w w := Below.refl _ _
  go_wp2_with fail
  refine (kawake).mono ?_
  rintro e w1 ⟨rfl, hB⟩
  have hB_1 : Below w.heap.size w w1 := (bl.next hB)
  have hbel_1 := hbel_0.next hB_1
  have hsz_1 := hB_1.size
  clear hbel_0 hB_1
  try clear hB
  have hbx0 : Blk (((w1.alloc (.cells #[] 77)).alloc (.cells #[] 82)).alloc (.cells #[] 75)) (w1.heap.size) #[] := (((blk_new' w1 #[] 77 (g := w1.heap.size) (by simp)).alloc _).alloc _)
  have hbx1 : Blk (((w1.alloc (.cells #[] 77)).alloc (.cells #[] 82)).alloc (.cells #[] 75)) (w1.heap.size + 1) #[] := ((blk_new' (w1.alloc (.cells #[] 77)) #[] 82 (g := w1.heap.size + 1) (by simp)).alloc _)
  have hbx2 : Blk (((w1.alloc (.cells #[] 77)).alloc (.cells #[] 82)).alloc (.cells #[] 75)) (w1.heap.size + 1 + 1) #[] := (blk_new' ((w1.alloc (.cells #[] 77)).alloc (.cells #[] 82)) #[] 75 (g := w1.heap.size + 1 + 1) (by simp))
  have hbB : Below w1.heap.size w1 (((w1.alloc (.cells #[] 77)).alloc (.cells #[] 82)).alloc (.cells #[] 75)) := bl
  have hltN := hbx0.lt
  have hltF := hbx1.lt
  have hltO := hbx2.lt
  have hB_2 : Below w1.heap.size w1 (((w1.alloc (.cells #[] 77)).alloc (.cells #[] 82)).alloc (.cells #[] 75)) := hbB
  have hbel_2 := hbel_1.next hB_2
  have hsz_2 := hB_2.size
  clear hB_2
  have N_2 := hbx0
  clear hbx0
  have F_2 := hbx1
  clear hbx1
  have O_2 := hbx2
  clear hbx2
  clear hbB
  go_wp2_with fail
  clear hbel_1
  generalize (((w1.alloc (.cells #[] 77)).alloc (.cells #[] 82)).alloc (.cells #[] 75)) = v2 at *
  go_wp2_with fail
  refine (kintszero).mono ?_
  rintro e w3 ⟨rfl, hB⟩
  have hB_3 : Below v2.heap.size v2 w3 := (bl.next hB)
  have N_3 := N_2.next hB_3
  have F_3 := F_2.next hB_3
  have O_3 := O_2.next hB_3
  have hbel_3 := hbel_2.next hB_3
  have hsz_3 := hB_3.size
  clear N_2 F_2 O_2 hbel_2 hB_3
  try clear hB
  go_wp2_with fail
  refine (kintsone).mono ?_
  rintro e w4 ⟨rfl, hB⟩
  have hB_4 : Below w3.heap.size w3 w4 := (bl.next hB)
  have N_4 := N_3.next hB_4
  have F_4 := F_3.next hB_4
  have O_4 := O_3.next hB_4
  have hbel_4 := hbel_3.next hB_4
  have hsz_4 := hB_4.size
  clear N_3 F_3 O_3 hbel_3 hB_4
  try clear hB
  go_wp2_with fail
  refine (kintsadd a b a1 a2 b1 b2).mono ?_
  rintro e w5 ⟨rfl, hB⟩
  have hB_5 : Below w4.heap.size w4 w5 := (bl.next hB)
  have N_5 := N_4.next hB_5
  have F_5 := F_4.next hB_5
  have O_5 := O_4.next hB_5
  have hbel_5 := hbel_4.next hB_5
  have hsz_5 := hB_5.size
  clear N_4 F_4 O_4 hbel_4 hB_5
  try clear hB
  go_wp2_with fail
  refine (kintsmul a b a1 a2 b1 b2).mono ?_
  rintro e w6 ⟨rfl, hB⟩
  have hB_6 : Below w5.heap.size w5 w6 := (bl.next hB)
  have N_6 := N_5.next hB_6
  have F_6 := F_5.next hB_6
  have O_6 := O_5.next hB_6
  have hbel_6 := hbel_5.next hB_6
  have hsz_6 := hB_6.size
  clear N_5 F_5 O_5 hbel_5 hB_6
  try clear hB
  go_wp2_with fail
  refine (kintssame a b a1 a2 b1 b2).mono ?_
  rintro e w7 ⟨rfl, hB⟩
  have hB_7 : Below w6.heap.size w6 w7 := (bl.next hB)
  have N_7 := N_6.next hB_7
  have F_7 := F_6.next hB_7
  have O_7 := O_6.next hB_7
  have hbel_7 := hbel_6.next hB_7
  have hsz_7 := hB_7.size
  clear N_6 F_6 O_6 hbel_6 hB_7
  try clear hB
  go_wp2_with fail
  refine (kintssame a a a1 a2 a1 a2).mono ?_
  rintro e w8 ⟨rfl, hB⟩
  have hB_8 : Below w7.heap.size w7 w8 := (bl.next hB)
  have N_8 := N_7.next hB_8
  have F_8 := F_7.next hB_8
  have O_8 := O_7.next hB_8
  have hbel_8 := hbel_7.next hB_8
  have hsz_8 := hB_8.size
  clear N_7 F_7 O_7 hbel_7 hB_8
  try clear hB
  go_wp2_with fail
  refine (kfloatszero).mono ?_
  rintro e w9 ⟨rfl, hB⟩
  have hB_9 : Below w8.heap.size w8 w9 := (bl.next hB)
  have N_9 := N_8.next hB_9
  have F_9 := F_8.next hB_9
  have O_9 := O_8.next hB_9
  have hbel_9 := hbel_8.next hB_9
  have hsz_9 := hB_9.size
  clear N_8 F_8 O_8 hbel_8 hB_9
  try clear hB
  go_wp2_with fail
  refine (kfloatsone).mono ?_
  rintro e w10 ⟨rfl, hB⟩
  have hB_10 : Below w9.heap.size w9 w10 := (bl.next hB)
  have N_10 := N_9.next hB_10
  have F_10 := F_9.next hB_10
  have O_10 := O_9.next hB_10
  have hbel_10 := hbel_9.next hB_10
  have hsz_10 := hB_10.size
  clear N_9 F_9 O_9 hbel_9 hB_10
  try clear hB
  go_wp2_with fail
  refine (kfloatsadd_some Ha.out).mono ?_
  rintro e w11 ⟨rfl, hB⟩
  have hB_11 : Below w10.heap.size w10 w11 := (bl.next hB)
  have N_11 := N_10.next hB_11
  have F_11 := F_10.next hB_11
  have O_11 := O_10.next hB_11
  have hbel_11 := hbel_10.next hB_11
  have hsz_11 := hB_11.size
  clear N_10 F_10 O_10 hbel_10 hB_11
  try clear hB
  go_wp2_with fail
  refine (fexact_eq La.out).mono ?_
  rintro e w12 ⟨rfl, hB⟩
  have hB_12 : Below w11.heap.size w11 w12 := (bl.next hB)
  have N_12 := N_11.next hB_12
  have F_12 := F_11.next hB_12
  have O_12 := O_11.next hB_12
  have hbel_12 := hbel_11.next hB_12
  have hsz_12 := hB_12.size
  clear N_11 F_11 O_11 hbel_11 hB_12
  try clear hB
  go_wp2_with fail
  refine (kfloatsmul_some Hm.out).mono ?_
  rintro e w13 ⟨rfl, hB⟩
  have hB_13 : Below w12.heap.size w12 w13 := (bl.next hB)
  have N_13 := N_12.next hB_13
  have F_13 := F_12.next hB_13
  have O_13 := O_12.next hB_13
  have hbel_13 := hbel_12.next hB_13
  have hsz_13 := hB_13.size
  clear N_12 F_12 O_12 hbel_12 hB_13
  try clear hB
  go_wp2_with fail
  refine (fexact_eq Lm.out).mono ?_
  rintro e w14 ⟨rfl, hB⟩
  have hB_14 : Below w13.heap.size w13 w14 := (bl.next hB)
  have N_14 := N_13.next hB_14
  have F_14 := F_13.next hB_14
  have O_14 := O_13.next hB_14
  have hbel_14 := hbel_13.next hB_14
  have hsz_14 := hB_14.size
  clear N_13 F_13 O_13 hbel_13 hB_14
  try clear hB
  go_wp2_with fail
  refine (kfloatssame x y).mono ?_
  rw [hfl.out]
  rintro e w15 ⟨rfl, hB⟩
  have hB_15 : Below w14.heap.size w14 w15 := (bl.next hB)
  have N_15 := N_14.next hB_15
  have F_15 := F_14.next hB_15
  have O_15 := O_14.next hB_15
  have hbel_15 := hbel_14.next hB_15
  have hsz_15 := hB_15.size
  clear N_14 F_14 O_14 hbel_14 hB_15
  try clear hB
  go_wp2_with fail
  refine (ffloat x y).mono ?_
  rw [hfl.out]
  rintro e w16 ⟨rfl, hB⟩
  have hB_16 : Below w15.heap.size w15 w16 := (bl.next hB)
  have N_16 := N_15.next hB_16
  have F_16 := F_15.next hB_16
  have O_16 := O_15.next hB_16
  have hbel_16 := hbel_15.next hB_16
  have hsz_16 := hB_16.size
  clear N_15 F_15 O_15 hbel_15 hB_16
  try clear hB
  go_wp2_with fail
  refine (kfloatssame x x).mono ?_
  rw [FS.out]
  rintro e w17 ⟨rfl, hB⟩
  have hB_17 : Below w16.heap.size w16 w17 := (bl.next hB)
  have N_17 := N_16.next hB_17
  have F_17 := F_16.next hB_17
  have O_17 := O_16.next hB_17
  have hbel_17 := hbel_16.next hB_17
  have hsz_17 := hB_17.size
  clear N_16 F_16 O_16 hbel_16 hB_17
  try clear hB
  go_wp2_with fail
  refine (kboolszero).mono ?_
  rintro e w18 ⟨rfl, hB⟩
  have hB_18 : Below w17.heap.size w17 w18 := (bl.next hB)
  have N_18 := N_17.next hB_18
  have F_18 := F_17.next hB_18
  have O_18 := O_17.next hB_18
  have hbel_18 := hbel_17.next hB_18
  have hsz_18 := hB_18.size
  clear N_17 F_17 O_17 hbel_17 hB_18
  try clear hB
  go_wp2_with fail
  refine (kboolsone).mono ?_
  rintro e w19 ⟨rfl, hB⟩
  have hB_19 : Below w18.heap.size w18 w19 := (bl.next hB)
  have N_19 := N_18.next hB_19
  have F_19 := F_18.next hB_19
  have O_19 := O_18.next hB_19
  have hbel_19 := hbel_18.next hB_19
  have hsz_19 := hB_19.size
  clear N_18 F_18 O_18 hbel_18 hB_19
  try clear hB
  go_wp2_with fail
  refine (kboolsadd true true).mono ?_
  rintro e w20 ⟨rfl, hB⟩
  have hB_20 : Below w19.heap.size w19 w20 := (bl.next hB)
  have N_20 := N_19.next hB_20
  have F_20 := F_19.next hB_20
  have O_20 := O_19.next hB_20
  have hbel_20 := hbel_19.next hB_20
  have hsz_20 := hB_20.size
  clear N_19 F_19 O_19 hbel_19 hB_20
  try clear hB
  go_wp2_with fail
  refine (kboolsmul true true).mono ?_
  rintro e w21 ⟨rfl, hB⟩
  have hB_21 : Below w20.heap.size w20 w21 := (bl.next hB)
  have N_21 := N_20.next hB_21
  have F_21 := F_20.next hB_21
  have O_21 := O_20.next hB_21
  have hbel_21 := hbel_20.next hB_21
  have hsz_21 := hB_21.size
  clear N_20 F_20 O_20 hbel_20 hB_21
  try clear hB
  go_wp2_with fail
  refine (kboolssame true true).mono ?_
  rintro e w22 ⟨rfl, hB⟩
  have hB_22 : Below w21.heap.size w21 w22 := (bl.next hB)
  have N_22 := N_21.next hB_22
  have F_22 := F_21.next hB_22
  have O_22 := O_21.next hB_22
  have hbel_22 := hbel_21.next hB_22
  have hsz_22 := hB_22.size
  clear N_21 F_21 O_21 hbel_21 hB_22
  try clear hB
  go_wp2
  go_ret
  exact ⟨rfl, hbel_22⟩

set_option maxRecDepth 100000 in
set_option maxHeartbeats 8000000 in
theorem ringPlain_sstf {w : World} (a b : Int) (a1 : -9223372036854775808 ≤ a) (a2 : a ≤ 9223372036854775807) (b1 : -9223372036854775808 ≤ b) (b2 : b ≤ 9223372036854775807) (x y : Nat) {ra : Nat} (ha : floatBits .add .f64 x y = some ra) {rm : Nat} (hm : floatBits .mul .f64 x y = some rm) :
    Calls Tryz.prog 8 #[.int .i64 a, .int .i64 b, .float .f64 x, .float .f64 y, .bool true, .bool false] w (fun e w' => e = .returned (.bool true) ∧ Below w.heap.size w w') := by
  have h00 : (FloatKind.f64.format.order 0 0 == some Ordering.eq) = true := by decide +kernel
  have h11 : (FloatKind.f64.format.order 4607182418800017408 4607182418800017408 == some Ordering.eq) = true := by decide +kernel
  have La := hid (bits_lt ha)
  have Ra := fun w => run_float_arith (P := Tryz.prog) w .add 81 .f64 x y ra ha
  have Ha := hid ha
  clear ha
  have Lm := hid (bits_lt hm)
  have Rm := fun w => run_float_arith (P := Tryz.prog) w .mul 81 .f64 x y rm hm
  have Hm := hid hm
  clear hm
  have FS := hid (flt_self x)
  obtain ⟨fl, hfl0⟩ : ∃ c, flt x y = c := ⟨_, rfl⟩
  have hfl := hid hfl0
  clear hfl0
  obtain ⟨ab, hab⟩ : ∃ c, (a == b) = c := ⟨_, rfl⟩
  go_enter Tryz.func8, Tryz.ntmps8
  have hbel_0 : Below w.heap.size w w := Below.refl _ _
  go_wp2_with fail
  refine (kawake).mono ?_
  rintro e w1 ⟨rfl, hB⟩
  have hB_1 : Below w.heap.size w w1 := (bl.next hB)
  have hbel_1 := hbel_0.next hB_1
  have hsz_1 := hB_1.size
  clear hbel_0 hB_1
  try clear hB
  have hbx0 : Blk (((w1.alloc (.cells #[] 77)).alloc (.cells #[] 82)).alloc (.cells #[] 75)) (w1.heap.size) #[] := (((blk_new' w1 #[] 77 (g := w1.heap.size) (by simp)).alloc _).alloc _)
  have hbx1 : Blk (((w1.alloc (.cells #[] 77)).alloc (.cells #[] 82)).alloc (.cells #[] 75)) (w1.heap.size + 1) #[] := ((blk_new' (w1.alloc (.cells #[] 77)) #[] 82 (g := w1.heap.size + 1) (by simp)).alloc _)
  have hbx2 : Blk (((w1.alloc (.cells #[] 77)).alloc (.cells #[] 82)).alloc (.cells #[] 75)) (w1.heap.size + 1 + 1) #[] := (blk_new' ((w1.alloc (.cells #[] 77)).alloc (.cells #[] 82)) #[] 75 (g := w1.heap.size + 1 + 1) (by simp))
  have hbB : Below w1.heap.size w1 (((w1.alloc (.cells #[] 77)).alloc (.cells #[] 82)).alloc (.cells #[] 75)) := bl
  have hltN := hbx0.lt
  have hltF := hbx1.lt
  have hltO := hbx2.lt
  have hB_2 : Below w1.heap.size w1 (((w1.alloc (.cells #[] 77)).alloc (.cells #[] 82)).alloc (.cells #[] 75)) := hbB
  have hbel_2 := hbel_1.next hB_2
  have hsz_2 := hB_2.size
  clear hB_2
  have N_2 := hbx0
  clear hbx0
  have F_2 := hbx1
  clear hbx1
  have O_2 := hbx2
  clear hbx2
  clear hbB
  go_wp2_with fail
  clear hbel_1
  generalize (((w1.alloc (.cells #[] 77)).alloc (.cells #[] 82)).alloc (.cells #[] 75)) = v2 at *
  go_wp2_with fail
  refine (kintszero).mono ?_
  rintro e w3 ⟨rfl, hB⟩
  have hB_3 : Below v2.heap.size v2 w3 := (bl.next hB)
  have N_3 := N_2.next hB_3
  have F_3 := F_2.next hB_3
  have O_3 := O_2.next hB_3
  have hbel_3 := hbel_2.next hB_3
  have hsz_3 := hB_3.size
  clear N_2 F_2 O_2 hbel_2 hB_3
  try clear hB
  go_wp2_with fail
  refine (kintsone).mono ?_
  rintro e w4 ⟨rfl, hB⟩
  have hB_4 : Below w3.heap.size w3 w4 := (bl.next hB)
  have N_4 := N_3.next hB_4
  have F_4 := F_3.next hB_4
  have O_4 := O_3.next hB_4
  have hbel_4 := hbel_3.next hB_4
  have hsz_4 := hB_4.size
  clear N_3 F_3 O_3 hbel_3 hB_4
  try clear hB
  go_wp2_with fail
  refine (kintsadd a b a1 a2 b1 b2).mono ?_
  rintro e w5 ⟨rfl, hB⟩
  have hB_5 : Below w4.heap.size w4 w5 := (bl.next hB)
  have N_5 := N_4.next hB_5
  have F_5 := F_4.next hB_5
  have O_5 := O_4.next hB_5
  have hbel_5 := hbel_4.next hB_5
  have hsz_5 := hB_5.size
  clear N_4 F_4 O_4 hbel_4 hB_5
  try clear hB
  go_wp2_with fail
  refine (kintsmul a b a1 a2 b1 b2).mono ?_
  rintro e w6 ⟨rfl, hB⟩
  have hB_6 : Below w5.heap.size w5 w6 := (bl.next hB)
  have N_6 := N_5.next hB_6
  have F_6 := F_5.next hB_6
  have O_6 := O_5.next hB_6
  have hbel_6 := hbel_5.next hB_6
  have hsz_6 := hB_6.size
  clear N_5 F_5 O_5 hbel_5 hB_6
  try clear hB
  go_wp2_with fail
  refine (kintssame a b a1 a2 b1 b2).mono ?_
  rintro e w7 ⟨rfl, hB⟩
  have hB_7 : Below w6.heap.size w6 w7 := (bl.next hB)
  have N_7 := N_6.next hB_7
  have F_7 := F_6.next hB_7
  have O_7 := O_6.next hB_7
  have hbel_7 := hbel_6.next hB_7
  have hsz_7 := hB_7.size
  clear N_6 F_6 O_6 hbel_6 hB_7
  try clear hB
  go_wp2_with fail
  refine (kintssame a a a1 a2 a1 a2).mono ?_
  rintro e w8 ⟨rfl, hB⟩
  have hB_8 : Below w7.heap.size w7 w8 := (bl.next hB)
  have N_8 := N_7.next hB_8
  have F_8 := F_7.next hB_8
  have O_8 := O_7.next hB_8
  have hbel_8 := hbel_7.next hB_8
  have hsz_8 := hB_8.size
  clear N_7 F_7 O_7 hbel_7 hB_8
  try clear hB
  go_wp2_with fail
  refine (kfloatszero).mono ?_
  rintro e w9 ⟨rfl, hB⟩
  have hB_9 : Below w8.heap.size w8 w9 := (bl.next hB)
  have N_9 := N_8.next hB_9
  have F_9 := F_8.next hB_9
  have O_9 := O_8.next hB_9
  have hbel_9 := hbel_8.next hB_9
  have hsz_9 := hB_9.size
  clear N_8 F_8 O_8 hbel_8 hB_9
  try clear hB
  go_wp2_with fail
  refine (kfloatsone).mono ?_
  rintro e w10 ⟨rfl, hB⟩
  have hB_10 : Below w9.heap.size w9 w10 := (bl.next hB)
  have N_10 := N_9.next hB_10
  have F_10 := F_9.next hB_10
  have O_10 := O_9.next hB_10
  have hbel_10 := hbel_9.next hB_10
  have hsz_10 := hB_10.size
  clear N_9 F_9 O_9 hbel_9 hB_10
  try clear hB
  go_wp2_with fail
  refine (kfloatsadd_some Ha.out).mono ?_
  rintro e w11 ⟨rfl, hB⟩
  have hB_11 : Below w10.heap.size w10 w11 := (bl.next hB)
  have N_11 := N_10.next hB_11
  have F_11 := F_10.next hB_11
  have O_11 := O_10.next hB_11
  have hbel_11 := hbel_10.next hB_11
  have hsz_11 := hB_11.size
  clear N_10 F_10 O_10 hbel_10 hB_11
  try clear hB
  go_wp2_with fail
  refine (fexact_eq La.out).mono ?_
  rintro e w12 ⟨rfl, hB⟩
  have hB_12 : Below w11.heap.size w11 w12 := (bl.next hB)
  have N_12 := N_11.next hB_12
  have F_12 := F_11.next hB_12
  have O_12 := O_11.next hB_12
  have hbel_12 := hbel_11.next hB_12
  have hsz_12 := hB_12.size
  clear N_11 F_11 O_11 hbel_11 hB_12
  try clear hB
  go_wp2_with fail
  refine (kfloatsmul_some Hm.out).mono ?_
  rintro e w13 ⟨rfl, hB⟩
  have hB_13 : Below w12.heap.size w12 w13 := (bl.next hB)
  have N_13 := N_12.next hB_13
  have F_13 := F_12.next hB_13
  have O_13 := O_12.next hB_13
  have hbel_13 := hbel_12.next hB_13
  have hsz_13 := hB_13.size
  clear N_12 F_12 O_12 hbel_12 hB_13
  try clear hB
  go_wp2_with fail
  refine (fexact_eq Lm.out).mono ?_
  rintro e w14 ⟨rfl, hB⟩
  have hB_14 : Below w13.heap.size w13 w14 := (bl.next hB)
  have N_14 := N_13.next hB_14
  have F_14 := F_13.next hB_14
  have O_14 := O_13.next hB_14
  have hbel_14 := hbel_13.next hB_14
  have hsz_14 := hB_14.size
  clear N_13 F_13 O_13 hbel_13 hB_14
  try clear hB
  go_wp2_with fail
  refine (kfloatssame x y).mono ?_
  rw [hfl.out]
  rintro e w15 ⟨rfl, hB⟩
  have hB_15 : Below w14.heap.size w14 w15 := (bl.next hB)
  have N_15 := N_14.next hB_15
  have F_15 := F_14.next hB_15
  have O_15 := O_14.next hB_15
  have hbel_15 := hbel_14.next hB_15
  have hsz_15 := hB_15.size
  clear N_14 F_14 O_14 hbel_14 hB_15
  try clear hB
  go_wp2_with fail
  refine (ffloat x y).mono ?_
  rw [hfl.out]
  rintro e w16 ⟨rfl, hB⟩
  have hB_16 : Below w15.heap.size w15 w16 := (bl.next hB)
  have N_16 := N_15.next hB_16
  have F_16 := F_15.next hB_16
  have O_16 := O_15.next hB_16
  have hbel_16 := hbel_15.next hB_16
  have hsz_16 := hB_16.size
  clear N_15 F_15 O_15 hbel_15 hB_16
  try clear hB
  go_wp2_with fail
  refine (kfloatssame x x).mono ?_
  rw [FS.out]
  rintro e w17 ⟨rfl, hB⟩
  have hB_17 : Below w16.heap.size w16 w17 := (bl.next hB)
  have N_17 := N_16.next hB_17
  have F_17 := F_16.next hB_17
  have O_17 := O_16.next hB_17
  have hbel_17 := hbel_16.next hB_17
  have hsz_17 := hB_17.size
  clear N_16 F_16 O_16 hbel_16 hB_17
  try clear hB
  go_wp2_with fail
  refine (kboolszero).mono ?_
  rintro e w18 ⟨rfl, hB⟩
  have hB_18 : Below w17.heap.size w17 w18 := (bl.next hB)
  have N_18 := N_17.next hB_18
  have F_18 := F_17.next hB_18
  have O_18 := O_17.next hB_18
  have hbel_18 := hbel_17.next hB_18
  have hsz_18 := hB_18.size
  clear N_17 F_17 O_17 hbel_17 hB_18
  try clear hB
  go_wp2_with fail
  refine (kboolsone).mono ?_
  rintro e w19 ⟨rfl, hB⟩
  have hB_19 : Below w18.heap.size w18 w19 := (bl.next hB)
  have N_19 := N_18.next hB_19
  have F_19 := F_18.next hB_19
  have O_19 := O_18.next hB_19
  have hbel_19 := hbel_18.next hB_19
  have hsz_19 := hB_19.size
  clear N_18 F_18 O_18 hbel_18 hB_19
  try clear hB
  go_wp2_with fail
  refine (kboolsadd true false).mono ?_
  rintro e w20 ⟨rfl, hB⟩
  have hB_20 : Below w19.heap.size w19 w20 := (bl.next hB)
  have N_20 := N_19.next hB_20
  have F_20 := F_19.next hB_20
  have O_20 := O_19.next hB_20
  have hbel_20 := hbel_19.next hB_20
  have hsz_20 := hB_20.size
  clear N_19 F_19 O_19 hbel_19 hB_20
  try clear hB
  go_wp2_with fail
  refine (kboolsmul true false).mono ?_
  rintro e w21 ⟨rfl, hB⟩
  have hB_21 : Below w20.heap.size w20 w21 := (bl.next hB)
  have N_21 := N_20.next hB_21
  have F_21 := F_20.next hB_21
  have O_21 := O_20.next hB_21
  have hbel_21 := hbel_20.next hB_21
  have hsz_21 := hB_21.size
  clear N_20 F_20 O_20 hbel_20 hB_21
  try clear hB
  go_wp2_with fail
  refine (kboolssame true false).mono ?_
  rintro e w22 ⟨rfl, hB⟩
  have hB_22 : Below w21.heap.size w21 w22 := (bl.next hB)
  have N_22 := N_21.next hB_22
  have F_22 := F_21.next hB_22
  have O_22 := O_21.next hB_22
  have hbel_22 := hbel_21.next hB_22
  have hsz_22 := hB_22.size
  clear N_21 F_21 O_21 hbel_21 hB_22
  try clear hB
  go_wp2
  go_ret
  exact ⟨rfl, hbel_22⟩

set_option maxRecDepth 100000 in
set_option maxHeartbeats 8000000 in
theorem ringPlain_ssft {w : World} (a b : Int) (a1 : -9223372036854775808 ≤ a) (a2 : a ≤ 9223372036854775807) (b1 : -9223372036854775808 ≤ b) (b2 : b ≤ 9223372036854775807) (x y : Nat) {ra : Nat} (ha : floatBits .add .f64 x y = some ra) {rm : Nat} (hm : floatBits .mul .f64 x y = some rm) :
    Calls Tryz.prog 8 #[.int .i64 a, .int .i64 b, .float .f64 x, .float .f64 y, .bool false, .bool true] w (fun e w' => e = .returned (.bool true) ∧ Below w.heap.size w w') := by
  have h00 : (FloatKind.f64.format.order 0 0 == some Ordering.eq) = true := by decide +kernel
  have h11 : (FloatKind.f64.format.order 4607182418800017408 4607182418800017408 == some Ordering.eq) = true := by decide +kernel
  have La := hid (bits_lt ha)
  have Ra := fun w => run_float_arith (P := Tryz.prog) w .add 81 .f64 x y ra ha
  have Ha := hid ha
  clear ha
  have Lm := hid (bits_lt hm)
  have Rm := fun w => run_float_arith (P := Tryz.prog) w .mul 81 .f64 x y rm hm
  have Hm := hid hm
  clear hm
  have FS := hid (flt_self x)
  obtain ⟨fl, hfl0⟩ : ∃ c, flt x y = c := ⟨_, rfl⟩
  have hfl := hid hfl0
  clear hfl0
  obtain ⟨ab, hab⟩ : ∃ c, (a == b) = c := ⟨_, rfl⟩
  go_enter Tryz.func8, Tryz.ntmps8
  have hbel_0 : Below w.heap.size w w := Below.refl _ _
  go_wp2_with fail
  refine (kawake).mono ?_
  rintro e w1 ⟨rfl, hB⟩
  have hB_1 : Below w.heap.size w w1 := (bl.next hB)
  have hbel_1 := hbel_0.next hB_1
  have hsz_1 := hB_1.size
  clear hbel_0 hB_1
  try clear hB
  have hbx0 : Blk (((w1.alloc (.cells #[] 77)).alloc (.cells #[] 82)).alloc (.cells #[] 75)) (w1.heap.size) #[] := (((blk_new' w1 #[] 77 (g := w1.heap.size) (by simp)).alloc _).alloc _)
  have hbx1 : Blk (((w1.alloc (.cells #[] 77)).alloc (.cells #[] 82)).alloc (.cells #[] 75)) (w1.heap.size + 1) #[] := ((blk_new' (w1.alloc (.cells #[] 77)) #[] 82 (g := w1.heap.size + 1) (by simp)).alloc _)
  have hbx2 : Blk (((w1.alloc (.cells #[] 77)).alloc (.cells #[] 82)).alloc (.cells #[] 75)) (w1.heap.size + 1 + 1) #[] := (blk_new' ((w1.alloc (.cells #[] 77)).alloc (.cells #[] 82)) #[] 75 (g := w1.heap.size + 1 + 1) (by simp))
  have hbB : Below w1.heap.size w1 (((w1.alloc (.cells #[] 77)).alloc (.cells #[] 82)).alloc (.cells #[] 75)) := bl
  have hltN := hbx0.lt
  have hltF := hbx1.lt
  have hltO := hbx2.lt
  have hB_2 : Below w1.heap.size w1 (((w1.alloc (.cells #[] 77)).alloc (.cells #[] 82)).alloc (.cells #[] 75)) := hbB
  have hbel_2 := hbel_1.next hB_2
  have hsz_2 := hB_2.size
  clear hB_2
  have N_2 := hbx0
  clear hbx0
  have F_2 := hbx1
  clear hbx1
  have O_2 := hbx2
  clear hbx2
  clear hbB
  go_wp2_with fail
  clear hbel_1
  generalize (((w1.alloc (.cells #[] 77)).alloc (.cells #[] 82)).alloc (.cells #[] 75)) = v2 at *
  go_wp2_with fail
  refine (kintszero).mono ?_
  rintro e w3 ⟨rfl, hB⟩
  have hB_3 : Below v2.heap.size v2 w3 := (bl.next hB)
  have N_3 := N_2.next hB_3
  have F_3 := F_2.next hB_3
  have O_3 := O_2.next hB_3
  have hbel_3 := hbel_2.next hB_3
  have hsz_3 := hB_3.size
  clear N_2 F_2 O_2 hbel_2 hB_3
  try clear hB
  go_wp2_with fail
  refine (kintsone).mono ?_
  rintro e w4 ⟨rfl, hB⟩
  have hB_4 : Below w3.heap.size w3 w4 := (bl.next hB)
  have N_4 := N_3.next hB_4
  have F_4 := F_3.next hB_4
  have O_4 := O_3.next hB_4
  have hbel_4 := hbel_3.next hB_4
  have hsz_4 := hB_4.size
  clear N_3 F_3 O_3 hbel_3 hB_4
  try clear hB
  go_wp2_with fail
  refine (kintsadd a b a1 a2 b1 b2).mono ?_
  rintro e w5 ⟨rfl, hB⟩
  have hB_5 : Below w4.heap.size w4 w5 := (bl.next hB)
  have N_5 := N_4.next hB_5
  have F_5 := F_4.next hB_5
  have O_5 := O_4.next hB_5
  have hbel_5 := hbel_4.next hB_5
  have hsz_5 := hB_5.size
  clear N_4 F_4 O_4 hbel_4 hB_5
  try clear hB
  go_wp2_with fail
  refine (kintsmul a b a1 a2 b1 b2).mono ?_
  rintro e w6 ⟨rfl, hB⟩
  have hB_6 : Below w5.heap.size w5 w6 := (bl.next hB)
  have N_6 := N_5.next hB_6
  have F_6 := F_5.next hB_6
  have O_6 := O_5.next hB_6
  have hbel_6 := hbel_5.next hB_6
  have hsz_6 := hB_6.size
  clear N_5 F_5 O_5 hbel_5 hB_6
  try clear hB
  go_wp2_with fail
  refine (kintssame a b a1 a2 b1 b2).mono ?_
  rintro e w7 ⟨rfl, hB⟩
  have hB_7 : Below w6.heap.size w6 w7 := (bl.next hB)
  have N_7 := N_6.next hB_7
  have F_7 := F_6.next hB_7
  have O_7 := O_6.next hB_7
  have hbel_7 := hbel_6.next hB_7
  have hsz_7 := hB_7.size
  clear N_6 F_6 O_6 hbel_6 hB_7
  try clear hB
  go_wp2_with fail
  refine (kintssame a a a1 a2 a1 a2).mono ?_
  rintro e w8 ⟨rfl, hB⟩
  have hB_8 : Below w7.heap.size w7 w8 := (bl.next hB)
  have N_8 := N_7.next hB_8
  have F_8 := F_7.next hB_8
  have O_8 := O_7.next hB_8
  have hbel_8 := hbel_7.next hB_8
  have hsz_8 := hB_8.size
  clear N_7 F_7 O_7 hbel_7 hB_8
  try clear hB
  go_wp2_with fail
  refine (kfloatszero).mono ?_
  rintro e w9 ⟨rfl, hB⟩
  have hB_9 : Below w8.heap.size w8 w9 := (bl.next hB)
  have N_9 := N_8.next hB_9
  have F_9 := F_8.next hB_9
  have O_9 := O_8.next hB_9
  have hbel_9 := hbel_8.next hB_9
  have hsz_9 := hB_9.size
  clear N_8 F_8 O_8 hbel_8 hB_9
  try clear hB
  go_wp2_with fail
  refine (kfloatsone).mono ?_
  rintro e w10 ⟨rfl, hB⟩
  have hB_10 : Below w9.heap.size w9 w10 := (bl.next hB)
  have N_10 := N_9.next hB_10
  have F_10 := F_9.next hB_10
  have O_10 := O_9.next hB_10
  have hbel_10 := hbel_9.next hB_10
  have hsz_10 := hB_10.size
  clear N_9 F_9 O_9 hbel_9 hB_10
  try clear hB
  go_wp2_with fail
  refine (kfloatsadd_some Ha.out).mono ?_
  rintro e w11 ⟨rfl, hB⟩
  have hB_11 : Below w10.heap.size w10 w11 := (bl.next hB)
  have N_11 := N_10.next hB_11
  have F_11 := F_10.next hB_11
  have O_11 := O_10.next hB_11
  have hbel_11 := hbel_10.next hB_11
  have hsz_11 := hB_11.size
  clear N_10 F_10 O_10 hbel_10 hB_11
  try clear hB
  go_wp2_with fail
  refine (fexact_eq La.out).mono ?_
  rintro e w12 ⟨rfl, hB⟩
  have hB_12 : Below w11.heap.size w11 w12 := (bl.next hB)
  have N_12 := N_11.next hB_12
  have F_12 := F_11.next hB_12
  have O_12 := O_11.next hB_12
  have hbel_12 := hbel_11.next hB_12
  have hsz_12 := hB_12.size
  clear N_11 F_11 O_11 hbel_11 hB_12
  try clear hB
  go_wp2_with fail
  refine (kfloatsmul_some Hm.out).mono ?_
  rintro e w13 ⟨rfl, hB⟩
  have hB_13 : Below w12.heap.size w12 w13 := (bl.next hB)
  have N_13 := N_12.next hB_13
  have F_13 := F_12.next hB_13
  have O_13 := O_12.next hB_13
  have hbel_13 := hbel_12.next hB_13
  have hsz_13 := hB_13.size
  clear N_12 F_12 O_12 hbel_12 hB_13
  try clear hB
  go_wp2_with fail
  refine (fexact_eq Lm.out).mono ?_
  rintro e w14 ⟨rfl, hB⟩
  have hB_14 : Below w13.heap.size w13 w14 := (bl.next hB)
  have N_14 := N_13.next hB_14
  have F_14 := F_13.next hB_14
  have O_14 := O_13.next hB_14
  have hbel_14 := hbel_13.next hB_14
  have hsz_14 := hB_14.size
  clear N_13 F_13 O_13 hbel_13 hB_14
  try clear hB
  go_wp2_with fail
  refine (kfloatssame x y).mono ?_
  rw [hfl.out]
  rintro e w15 ⟨rfl, hB⟩
  have hB_15 : Below w14.heap.size w14 w15 := (bl.next hB)
  have N_15 := N_14.next hB_15
  have F_15 := F_14.next hB_15
  have O_15 := O_14.next hB_15
  have hbel_15 := hbel_14.next hB_15
  have hsz_15 := hB_15.size
  clear N_14 F_14 O_14 hbel_14 hB_15
  try clear hB
  go_wp2_with fail
  refine (ffloat x y).mono ?_
  rw [hfl.out]
  rintro e w16 ⟨rfl, hB⟩
  have hB_16 : Below w15.heap.size w15 w16 := (bl.next hB)
  have N_16 := N_15.next hB_16
  have F_16 := F_15.next hB_16
  have O_16 := O_15.next hB_16
  have hbel_16 := hbel_15.next hB_16
  have hsz_16 := hB_16.size
  clear N_15 F_15 O_15 hbel_15 hB_16
  try clear hB
  go_wp2_with fail
  refine (kfloatssame x x).mono ?_
  rw [FS.out]
  rintro e w17 ⟨rfl, hB⟩
  have hB_17 : Below w16.heap.size w16 w17 := (bl.next hB)
  have N_17 := N_16.next hB_17
  have F_17 := F_16.next hB_17
  have O_17 := O_16.next hB_17
  have hbel_17 := hbel_16.next hB_17
  have hsz_17 := hB_17.size
  clear N_16 F_16 O_16 hbel_16 hB_17
  try clear hB
  go_wp2_with fail
  refine (kboolszero).mono ?_
  rintro e w18 ⟨rfl, hB⟩
  have hB_18 : Below w17.heap.size w17 w18 := (bl.next hB)
  have N_18 := N_17.next hB_18
  have F_18 := F_17.next hB_18
  have O_18 := O_17.next hB_18
  have hbel_18 := hbel_17.next hB_18
  have hsz_18 := hB_18.size
  clear N_17 F_17 O_17 hbel_17 hB_18
  try clear hB
  go_wp2_with fail
  refine (kboolsone).mono ?_
  rintro e w19 ⟨rfl, hB⟩
  have hB_19 : Below w18.heap.size w18 w19 := (bl.next hB)
  have N_19 := N_18.next hB_19
  have F_19 := F_18.next hB_19
  have O_19 := O_18.next hB_19
  have hbel_19 := hbel_18.next hB_19
  have hsz_19 := hB_19.size
  clear N_18 F_18 O_18 hbel_18 hB_19
  try clear hB
  go_wp2_with fail
  refine (kboolsadd false true).mono ?_
  rintro e w20 ⟨rfl, hB⟩
  have hB_20 : Below w19.heap.size w19 w20 := (bl.next hB)
  have N_20 := N_19.next hB_20
  have F_20 := F_19.next hB_20
  have O_20 := O_19.next hB_20
  have hbel_20 := hbel_19.next hB_20
  have hsz_20 := hB_20.size
  clear N_19 F_19 O_19 hbel_19 hB_20
  try clear hB
  go_wp2_with fail
  refine (kboolsmul false true).mono ?_
  rintro e w21 ⟨rfl, hB⟩
  have hB_21 : Below w20.heap.size w20 w21 := (bl.next hB)
  have N_21 := N_20.next hB_21
  have F_21 := F_20.next hB_21
  have O_21 := O_20.next hB_21
  have hbel_21 := hbel_20.next hB_21
  have hsz_21 := hB_21.size
  clear N_20 F_20 O_20 hbel_20 hB_21
  try clear hB
  go_wp2_with fail
  refine (kboolssame false true).mono ?_
  rintro e w22 ⟨rfl, hB⟩
  have hB_22 : Below w21.heap.size w21 w22 := (bl.next hB)
  have N_22 := N_21.next hB_22
  have F_22 := F_21.next hB_22
  have O_22 := O_21.next hB_22
  have hbel_22 := hbel_21.next hB_22
  have hsz_22 := hB_22.size
  clear N_21 F_21 O_21 hbel_21 hB_22
  try clear hB
  go_wp2
  go_ret
  exact ⟨rfl, hbel_22⟩

set_option maxRecDepth 100000 in
set_option maxHeartbeats 8000000 in
theorem ringPlain_ssff {w : World} (a b : Int) (a1 : -9223372036854775808 ≤ a) (a2 : a ≤ 9223372036854775807) (b1 : -9223372036854775808 ≤ b) (b2 : b ≤ 9223372036854775807) (x y : Nat) {ra : Nat} (ha : floatBits .add .f64 x y = some ra) {rm : Nat} (hm : floatBits .mul .f64 x y = some rm) :
    Calls Tryz.prog 8 #[.int .i64 a, .int .i64 b, .float .f64 x, .float .f64 y, .bool false, .bool false] w (fun e w' => e = .returned (.bool true) ∧ Below w.heap.size w w') := by
  have h00 : (FloatKind.f64.format.order 0 0 == some Ordering.eq) = true := by decide +kernel
  have h11 : (FloatKind.f64.format.order 4607182418800017408 4607182418800017408 == some Ordering.eq) = true := by decide +kernel
  have La := hid (bits_lt ha)
  have Ra := fun w => run_float_arith (P := Tryz.prog) w .add 81 .f64 x y ra ha
  have Ha := hid ha
  clear ha
  have Lm := hid (bits_lt hm)
  have Rm := fun w => run_float_arith (P := Tryz.prog) w .mul 81 .f64 x y rm hm
  have Hm := hid hm
  clear hm
  have FS := hid (flt_self x)
  obtain ⟨fl, hfl0⟩ : ∃ c, flt x y = c := ⟨_, rfl⟩
  have hfl := hid hfl0
  clear hfl0
  obtain ⟨ab, hab⟩ : ∃ c, (a == b) = c := ⟨_, rfl⟩
  go_enter Tryz.func8, Tryz.ntmps8
  have hbel_0 : Below w.heap.size w w := Below.refl _ _
  go_wp2_with fail
  refine (kawake).mono ?_
  rintro e w1 ⟨rfl, hB⟩
  have hB_1 : Below w.heap.size w w1 := (bl.next hB)
  have hbel_1 := hbel_0.next hB_1
  have hsz_1 := hB_1.size
  clear hbel_0 hB_1
  try clear hB
  have hbx0 : Blk (((w1.alloc (.cells #[] 77)).alloc (.cells #[] 82)).alloc (.cells #[] 75)) (w1.heap.size) #[] := (((blk_new' w1 #[] 77 (g := w1.heap.size) (by simp)).alloc _).alloc _)
  have hbx1 : Blk (((w1.alloc (.cells #[] 77)).alloc (.cells #[] 82)).alloc (.cells #[] 75)) (w1.heap.size + 1) #[] := ((blk_new' (w1.alloc (.cells #[] 77)) #[] 82 (g := w1.heap.size + 1) (by simp)).alloc _)
  have hbx2 : Blk (((w1.alloc (.cells #[] 77)).alloc (.cells #[] 82)).alloc (.cells #[] 75)) (w1.heap.size + 1 + 1) #[] := (blk_new' ((w1.alloc (.cells #[] 77)).alloc (.cells #[] 82)) #[] 75 (g := w1.heap.size + 1 + 1) (by simp))
  have hbB : Below w1.heap.size w1 (((w1.alloc (.cells #[] 77)).alloc (.cells #[] 82)).alloc (.cells #[] 75)) := bl
  have hltN := hbx0.lt
  have hltF := hbx1.lt
  have hltO := hbx2.lt
  have hB_2 : Below w1.heap.size w1 (((w1.alloc (.cells #[] 77)).alloc (.cells #[] 82)).alloc (.cells #[] 75)) := hbB
  have hbel_2 := hbel_1.next hB_2
  have hsz_2 := hB_2.size
  clear hB_2
  have N_2 := hbx0
  clear hbx0
  have F_2 := hbx1
  clear hbx1
  have O_2 := hbx2
  clear hbx2
  clear hbB
  go_wp2_with fail
  clear hbel_1
  generalize (((w1.alloc (.cells #[] 77)).alloc (.cells #[] 82)).alloc (.cells #[] 75)) = v2 at *
  go_wp2_with fail
  refine (kintszero).mono ?_
  rintro e w3 ⟨rfl, hB⟩
  have hB_3 : Below v2.heap.size v2 w3 := (bl.next hB)
  have N_3 := N_2.next hB_3
  have F_3 := F_2.next hB_3
  have O_3 := O_2.next hB_3
  have hbel_3 := hbel_2.next hB_3
  have hsz_3 := hB_3.size
  clear N_2 F_2 O_2 hbel_2 hB_3
  try clear hB
  go_wp2_with fail
  refine (kintsone).mono ?_
  rintro e w4 ⟨rfl, hB⟩
  have hB_4 : Below w3.heap.size w3 w4 := (bl.next hB)
  have N_4 := N_3.next hB_4
  have F_4 := F_3.next hB_4
  have O_4 := O_3.next hB_4
  have hbel_4 := hbel_3.next hB_4
  have hsz_4 := hB_4.size
  clear N_3 F_3 O_3 hbel_3 hB_4
  try clear hB
  go_wp2_with fail
  refine (kintsadd a b a1 a2 b1 b2).mono ?_
  rintro e w5 ⟨rfl, hB⟩
  have hB_5 : Below w4.heap.size w4 w5 := (bl.next hB)
  have N_5 := N_4.next hB_5
  have F_5 := F_4.next hB_5
  have O_5 := O_4.next hB_5
  have hbel_5 := hbel_4.next hB_5
  have hsz_5 := hB_5.size
  clear N_4 F_4 O_4 hbel_4 hB_5
  try clear hB
  go_wp2_with fail
  refine (kintsmul a b a1 a2 b1 b2).mono ?_
  rintro e w6 ⟨rfl, hB⟩
  have hB_6 : Below w5.heap.size w5 w6 := (bl.next hB)
  have N_6 := N_5.next hB_6
  have F_6 := F_5.next hB_6
  have O_6 := O_5.next hB_6
  have hbel_6 := hbel_5.next hB_6
  have hsz_6 := hB_6.size
  clear N_5 F_5 O_5 hbel_5 hB_6
  try clear hB
  go_wp2_with fail
  refine (kintssame a b a1 a2 b1 b2).mono ?_
  rintro e w7 ⟨rfl, hB⟩
  have hB_7 : Below w6.heap.size w6 w7 := (bl.next hB)
  have N_7 := N_6.next hB_7
  have F_7 := F_6.next hB_7
  have O_7 := O_6.next hB_7
  have hbel_7 := hbel_6.next hB_7
  have hsz_7 := hB_7.size
  clear N_6 F_6 O_6 hbel_6 hB_7
  try clear hB
  go_wp2_with fail
  refine (kintssame a a a1 a2 a1 a2).mono ?_
  rintro e w8 ⟨rfl, hB⟩
  have hB_8 : Below w7.heap.size w7 w8 := (bl.next hB)
  have N_8 := N_7.next hB_8
  have F_8 := F_7.next hB_8
  have O_8 := O_7.next hB_8
  have hbel_8 := hbel_7.next hB_8
  have hsz_8 := hB_8.size
  clear N_7 F_7 O_7 hbel_7 hB_8
  try clear hB
  go_wp2_with fail
  refine (kfloatszero).mono ?_
  rintro e w9 ⟨rfl, hB⟩
  have hB_9 : Below w8.heap.size w8 w9 := (bl.next hB)
  have N_9 := N_8.next hB_9
  have F_9 := F_8.next hB_9
  have O_9 := O_8.next hB_9
  have hbel_9 := hbel_8.next hB_9
  have hsz_9 := hB_9.size
  clear N_8 F_8 O_8 hbel_8 hB_9
  try clear hB
  go_wp2_with fail
  refine (kfloatsone).mono ?_
  rintro e w10 ⟨rfl, hB⟩
  have hB_10 : Below w9.heap.size w9 w10 := (bl.next hB)
  have N_10 := N_9.next hB_10
  have F_10 := F_9.next hB_10
  have O_10 := O_9.next hB_10
  have hbel_10 := hbel_9.next hB_10
  have hsz_10 := hB_10.size
  clear N_9 F_9 O_9 hbel_9 hB_10
  try clear hB
  go_wp2_with fail
  refine (kfloatsadd_some Ha.out).mono ?_
  rintro e w11 ⟨rfl, hB⟩
  have hB_11 : Below w10.heap.size w10 w11 := (bl.next hB)
  have N_11 := N_10.next hB_11
  have F_11 := F_10.next hB_11
  have O_11 := O_10.next hB_11
  have hbel_11 := hbel_10.next hB_11
  have hsz_11 := hB_11.size
  clear N_10 F_10 O_10 hbel_10 hB_11
  try clear hB
  go_wp2_with fail
  refine (fexact_eq La.out).mono ?_
  rintro e w12 ⟨rfl, hB⟩
  have hB_12 : Below w11.heap.size w11 w12 := (bl.next hB)
  have N_12 := N_11.next hB_12
  have F_12 := F_11.next hB_12
  have O_12 := O_11.next hB_12
  have hbel_12 := hbel_11.next hB_12
  have hsz_12 := hB_12.size
  clear N_11 F_11 O_11 hbel_11 hB_12
  try clear hB
  go_wp2_with fail
  refine (kfloatsmul_some Hm.out).mono ?_
  rintro e w13 ⟨rfl, hB⟩
  have hB_13 : Below w12.heap.size w12 w13 := (bl.next hB)
  have N_13 := N_12.next hB_13
  have F_13 := F_12.next hB_13
  have O_13 := O_12.next hB_13
  have hbel_13 := hbel_12.next hB_13
  have hsz_13 := hB_13.size
  clear N_12 F_12 O_12 hbel_12 hB_13
  try clear hB
  go_wp2_with fail
  refine (fexact_eq Lm.out).mono ?_
  rintro e w14 ⟨rfl, hB⟩
  have hB_14 : Below w13.heap.size w13 w14 := (bl.next hB)
  have N_14 := N_13.next hB_14
  have F_14 := F_13.next hB_14
  have O_14 := O_13.next hB_14
  have hbel_14 := hbel_13.next hB_14
  have hsz_14 := hB_14.size
  clear N_13 F_13 O_13 hbel_13 hB_14
  try clear hB
  go_wp2_with fail
  refine (kfloatssame x y).mono ?_
  rw [hfl.out]
  rintro e w15 ⟨rfl, hB⟩
  have hB_15 : Below w14.heap.size w14 w15 := (bl.next hB)
  have N_15 := N_14.next hB_15
  have F_15 := F_14.next hB_15
  have O_15 := O_14.next hB_15
  have hbel_15 := hbel_14.next hB_15
  have hsz_15 := hB_15.size
  clear N_14 F_14 O_14 hbel_14 hB_15
  try clear hB
  go_wp2_with fail
  refine (ffloat x y).mono ?_
  rw [hfl.out]
  rintro e w16 ⟨rfl, hB⟩
  have hB_16 : Below w15.heap.size w15 w16 := (bl.next hB)
  have N_16 := N_15.next hB_16
  have F_16 := F_15.next hB_16
  have O_16 := O_15.next hB_16
  have hbel_16 := hbel_15.next hB_16
  have hsz_16 := hB_16.size
  clear N_15 F_15 O_15 hbel_15 hB_16
  try clear hB
  go_wp2_with fail
  refine (kfloatssame x x).mono ?_
  rw [FS.out]
  rintro e w17 ⟨rfl, hB⟩
  have hB_17 : Below w16.heap.size w16 w17 := (bl.next hB)
  have N_17 := N_16.next hB_17
  have F_17 := F_16.next hB_17
  have O_17 := O_16.next hB_17
  have hbel_17 := hbel_16.next hB_17
  have hsz_17 := hB_17.size
  clear N_16 F_16 O_16 hbel_16 hB_17
  try clear hB
  go_wp2_with fail
  refine (kboolszero).mono ?_
  rintro e w18 ⟨rfl, hB⟩
  have hB_18 : Below w17.heap.size w17 w18 := (bl.next hB)
  have N_18 := N_17.next hB_18
  have F_18 := F_17.next hB_18
  have O_18 := O_17.next hB_18
  have hbel_18 := hbel_17.next hB_18
  have hsz_18 := hB_18.size
  clear N_17 F_17 O_17 hbel_17 hB_18
  try clear hB
  go_wp2_with fail
  refine (kboolsone).mono ?_
  rintro e w19 ⟨rfl, hB⟩
  have hB_19 : Below w18.heap.size w18 w19 := (bl.next hB)
  have N_19 := N_18.next hB_19
  have F_19 := F_18.next hB_19
  have O_19 := O_18.next hB_19
  have hbel_19 := hbel_18.next hB_19
  have hsz_19 := hB_19.size
  clear N_18 F_18 O_18 hbel_18 hB_19
  try clear hB
  go_wp2_with fail
  refine (kboolsadd false false).mono ?_
  rintro e w20 ⟨rfl, hB⟩
  have hB_20 : Below w19.heap.size w19 w20 := (bl.next hB)
  have N_20 := N_19.next hB_20
  have F_20 := F_19.next hB_20
  have O_20 := O_19.next hB_20
  have hbel_20 := hbel_19.next hB_20
  have hsz_20 := hB_20.size
  clear N_19 F_19 O_19 hbel_19 hB_20
  try clear hB
  go_wp2_with fail
  refine (kboolsmul false false).mono ?_
  rintro e w21 ⟨rfl, hB⟩
  have hB_21 : Below w20.heap.size w20 w21 := (bl.next hB)
  have N_21 := N_20.next hB_21
  have F_21 := F_20.next hB_21
  have O_21 := O_20.next hB_21
  have hbel_21 := hbel_20.next hB_21
  have hsz_21 := hB_21.size
  clear N_20 F_20 O_20 hbel_20 hB_21
  try clear hB
  go_wp2_with fail
  refine (kboolssame false false).mono ?_
  rintro e w22 ⟨rfl, hB⟩
  have hB_22 : Below w21.heap.size w21 w22 := (bl.next hB)
  have N_22 := N_21.next hB_22
  have F_22 := F_21.next hB_22
  have O_22 := O_21.next hB_22
  have hbel_22 := hbel_21.next hB_22
  have hsz_22 := hB_22.size
  clear N_21 F_21 O_21 hbel_21 hB_22
  try clear hB
  go_wp2
  go_ret
  exact ⟨rfl, hbel_22⟩

set_option maxRecDepth 100000 in
set_option maxHeartbeats 8000000 in
theorem ringPlain_sntt {w : World} (a b : Int) (a1 : -9223372036854775808 ≤ a) (a2 : a ≤ 9223372036854775807) (b1 : -9223372036854775808 ≤ b) (b2 : b ≤ 9223372036854775807) (x y : Nat) {ra : Nat} (ha : floatBits .add .f64 x y = some ra) (hm : floatBits .mul .f64 x y = none) :
    Calls Tryz.prog 8 #[.int .i64 a, .int .i64 b, .float .f64 x, .float .f64 y, .bool true, .bool true] w (fun e w' => e = .returned (.bool true) ∧ Below w.heap.size w w') := by
  have h00 : (FloatKind.f64.format.order 0 0 == some Ordering.eq) = true := by decide +kernel
  have h11 : (FloatKind.f64.format.order 4607182418800017408 4607182418800017408 == some Ordering.eq) = true := by decide +kernel
  have La := hid (bits_lt ha)
  have Ra := fun w => run_float_arith (P := Tryz.prog) w .add 81 .f64 x y ra ha
  have Ha := hid ha
  clear ha
  have Rm := fun w => run_none .mul (by simp) 81 hm w
  have Hm := hid hm
  clear hm
  have FS := hid (flt_self x)
  obtain ⟨fl, hfl0⟩ : ∃ c, flt x y = c := ⟨_, rfl⟩
  have hfl := hid hfl0
  clear hfl0
  obtain ⟨ab, hab⟩ : ∃ c, (a == b) = c := ⟨_, rfl⟩
  go_enter Tryz.func8, Tryz.ntmps8
  have hbel_0 : Below w.heap.size w w := Below.refl _ _
  go_wp2_with fail
  refine (kawake).mono ?_
  rintro e w1 ⟨rfl, hB⟩
  have hB_1 : Below w.heap.size w w1 := (bl.next hB)
  have hbel_1 := hbel_0.next hB_1
  have hsz_1 := hB_1.size
  clear hbel_0 hB_1
  try clear hB
  have hbx0 : Blk (((w1.alloc (.cells #[] 77)).alloc (.cells #[] 82)).alloc (.cells #[] 75)) (w1.heap.size) #[] := (((blk_new' w1 #[] 77 (g := w1.heap.size) (by simp)).alloc _).alloc _)
  have hbx1 : Blk (((w1.alloc (.cells #[] 77)).alloc (.cells #[] 82)).alloc (.cells #[] 75)) (w1.heap.size + 1) #[] := ((blk_new' (w1.alloc (.cells #[] 77)) #[] 82 (g := w1.heap.size + 1) (by simp)).alloc _)
  have hbx2 : Blk (((w1.alloc (.cells #[] 77)).alloc (.cells #[] 82)).alloc (.cells #[] 75)) (w1.heap.size + 1 + 1) #[] := (blk_new' ((w1.alloc (.cells #[] 77)).alloc (.cells #[] 82)) #[] 75 (g := w1.heap.size + 1 + 1) (by simp))
  have hbB : Below w1.heap.size w1 (((w1.alloc (.cells #[] 77)).alloc (.cells #[] 82)).alloc (.cells #[] 75)) := bl
  have hltN := hbx0.lt
  have hltF := hbx1.lt
  have hltO := hbx2.lt
  have hB_2 : Below w1.heap.size w1 (((w1.alloc (.cells #[] 77)).alloc (.cells #[] 82)).alloc (.cells #[] 75)) := hbB
  have hbel_2 := hbel_1.next hB_2
  have hsz_2 := hB_2.size
  clear hB_2
  have N_2 := hbx0
  clear hbx0
  have F_2 := hbx1
  clear hbx1
  have O_2 := hbx2
  clear hbx2
  clear hbB
  go_wp2_with fail
  clear hbel_1
  generalize (((w1.alloc (.cells #[] 77)).alloc (.cells #[] 82)).alloc (.cells #[] 75)) = v2 at *
  go_wp2_with fail
  refine (kintszero).mono ?_
  rintro e w3 ⟨rfl, hB⟩
  have hB_3 : Below v2.heap.size v2 w3 := (bl.next hB)
  have N_3 := N_2.next hB_3
  have F_3 := F_2.next hB_3
  have O_3 := O_2.next hB_3
  have hbel_3 := hbel_2.next hB_3
  have hsz_3 := hB_3.size
  clear N_2 F_2 O_2 hbel_2 hB_3
  try clear hB
  go_wp2_with fail
  refine (kintsone).mono ?_
  rintro e w4 ⟨rfl, hB⟩
  have hB_4 : Below w3.heap.size w3 w4 := (bl.next hB)
  have N_4 := N_3.next hB_4
  have F_4 := F_3.next hB_4
  have O_4 := O_3.next hB_4
  have hbel_4 := hbel_3.next hB_4
  have hsz_4 := hB_4.size
  clear N_3 F_3 O_3 hbel_3 hB_4
  try clear hB
  go_wp2_with fail
  refine (kintsadd a b a1 a2 b1 b2).mono ?_
  rintro e w5 ⟨rfl, hB⟩
  have hB_5 : Below w4.heap.size w4 w5 := (bl.next hB)
  have N_5 := N_4.next hB_5
  have F_5 := F_4.next hB_5
  have O_5 := O_4.next hB_5
  have hbel_5 := hbel_4.next hB_5
  have hsz_5 := hB_5.size
  clear N_4 F_4 O_4 hbel_4 hB_5
  try clear hB
  go_wp2_with fail
  refine (kintsmul a b a1 a2 b1 b2).mono ?_
  rintro e w6 ⟨rfl, hB⟩
  have hB_6 : Below w5.heap.size w5 w6 := (bl.next hB)
  have N_6 := N_5.next hB_6
  have F_6 := F_5.next hB_6
  have O_6 := O_5.next hB_6
  have hbel_6 := hbel_5.next hB_6
  have hsz_6 := hB_6.size
  clear N_5 F_5 O_5 hbel_5 hB_6
  try clear hB
  go_wp2_with fail
  refine (kintssame a b a1 a2 b1 b2).mono ?_
  rintro e w7 ⟨rfl, hB⟩
  have hB_7 : Below w6.heap.size w6 w7 := (bl.next hB)
  have N_7 := N_6.next hB_7
  have F_7 := F_6.next hB_7
  have O_7 := O_6.next hB_7
  have hbel_7 := hbel_6.next hB_7
  have hsz_7 := hB_7.size
  clear N_6 F_6 O_6 hbel_6 hB_7
  try clear hB
  go_wp2_with fail
  refine (kintssame a a a1 a2 a1 a2).mono ?_
  rintro e w8 ⟨rfl, hB⟩
  have hB_8 : Below w7.heap.size w7 w8 := (bl.next hB)
  have N_8 := N_7.next hB_8
  have F_8 := F_7.next hB_8
  have O_8 := O_7.next hB_8
  have hbel_8 := hbel_7.next hB_8
  have hsz_8 := hB_8.size
  clear N_7 F_7 O_7 hbel_7 hB_8
  try clear hB
  go_wp2_with fail
  refine (kfloatszero).mono ?_
  rintro e w9 ⟨rfl, hB⟩
  have hB_9 : Below w8.heap.size w8 w9 := (bl.next hB)
  have N_9 := N_8.next hB_9
  have F_9 := F_8.next hB_9
  have O_9 := O_8.next hB_9
  have hbel_9 := hbel_8.next hB_9
  have hsz_9 := hB_9.size
  clear N_8 F_8 O_8 hbel_8 hB_9
  try clear hB
  go_wp2_with fail
  refine (kfloatsone).mono ?_
  rintro e w10 ⟨rfl, hB⟩
  have hB_10 : Below w9.heap.size w9 w10 := (bl.next hB)
  have N_10 := N_9.next hB_10
  have F_10 := F_9.next hB_10
  have O_10 := O_9.next hB_10
  have hbel_10 := hbel_9.next hB_10
  have hsz_10 := hB_10.size
  clear N_9 F_9 O_9 hbel_9 hB_10
  try clear hB
  go_wp2_with fail
  refine (kfloatsadd_some Ha.out).mono ?_
  rintro e w11 ⟨rfl, hB⟩
  have hB_11 : Below w10.heap.size w10 w11 := (bl.next hB)
  have N_11 := N_10.next hB_11
  have F_11 := F_10.next hB_11
  have O_11 := O_10.next hB_11
  have hbel_11 := hbel_10.next hB_11
  have hsz_11 := hB_11.size
  clear N_10 F_10 O_10 hbel_10 hB_11
  try clear hB
  go_wp2_with fail
  refine (fexact_eq La.out).mono ?_
  rintro e w12 ⟨rfl, hB⟩
  have hB_12 : Below w11.heap.size w11 w12 := (bl.next hB)
  have N_12 := N_11.next hB_12
  have F_12 := F_11.next hB_12
  have O_12 := O_11.next hB_12
  have hbel_12 := hbel_11.next hB_12
  have hsz_12 := hB_12.size
  clear N_11 F_11 O_11 hbel_11 hB_12
  try clear hB
  go_wp2_with fail
  refine (kfloatsmul_none Hm.out).mono ?_
  rintro e w13 ⟨nm, hn0, rfl, hB⟩
  have hB_13 : Below w12.heap.size w12 w13 := (bl.next hB)
  have N_13 := N_12.next hB_13
  have F_13 := F_12.next hB_13
  have O_13 := O_12.next hB_13
  have hbel_13 := hbel_12.next hB_13
  have hsz_13 := hB_13.size
  clear N_12 F_12 O_12 hbel_12 hB_13
  have hnm := hid hn0
  clear hn0
  try clear hB
  go_wp2_with fail
  refine (fexact_nan hnm.out (nanw_nan _ _ _)).mono ?_
  rintro e w14 ⟨rfl, hB⟩
  have hB_14 : Below w13.heap.size w13 w14 := (bl.next hB)
  have N_14 := N_13.next hB_14
  have F_14 := F_13.next hB_14
  have O_14 := O_13.next hB_14
  have hbel_14 := hbel_13.next hB_14
  have hsz_14 := hB_14.size
  clear N_13 F_13 O_13 hbel_13 hB_14
  try clear hB
  go_wp2_with fail
  refine (kfloatssame x y).mono ?_
  rw [hfl.out]
  rintro e w15 ⟨rfl, hB⟩
  have hB_15 : Below w14.heap.size w14 w15 := (bl.next hB)
  have N_15 := N_14.next hB_15
  have F_15 := F_14.next hB_15
  have O_15 := O_14.next hB_15
  have hbel_15 := hbel_14.next hB_15
  have hsz_15 := hB_15.size
  clear N_14 F_14 O_14 hbel_14 hB_15
  try clear hB
  go_wp2_with fail
  refine (ffloat x y).mono ?_
  rw [hfl.out]
  rintro e w16 ⟨rfl, hB⟩
  have hB_16 : Below w15.heap.size w15 w16 := (bl.next hB)
  have N_16 := N_15.next hB_16
  have F_16 := F_15.next hB_16
  have O_16 := O_15.next hB_16
  have hbel_16 := hbel_15.next hB_16
  have hsz_16 := hB_16.size
  clear N_15 F_15 O_15 hbel_15 hB_16
  try clear hB
  go_wp2_with fail
  refine (kfloatssame x x).mono ?_
  rw [FS.out]
  rintro e w17 ⟨rfl, hB⟩
  have hB_17 : Below w16.heap.size w16 w17 := (bl.next hB)
  have N_17 := N_16.next hB_17
  have F_17 := F_16.next hB_17
  have O_17 := O_16.next hB_17
  have hbel_17 := hbel_16.next hB_17
  have hsz_17 := hB_17.size
  clear N_16 F_16 O_16 hbel_16 hB_17
  try clear hB
  go_wp2_with fail
  refine (kboolszero).mono ?_
  rintro e w18 ⟨rfl, hB⟩
  have hB_18 : Below w17.heap.size w17 w18 := (bl.next hB)
  have N_18 := N_17.next hB_18
  have F_18 := F_17.next hB_18
  have O_18 := O_17.next hB_18
  have hbel_18 := hbel_17.next hB_18
  have hsz_18 := hB_18.size
  clear N_17 F_17 O_17 hbel_17 hB_18
  try clear hB
  go_wp2_with fail
  refine (kboolsone).mono ?_
  rintro e w19 ⟨rfl, hB⟩
  have hB_19 : Below w18.heap.size w18 w19 := (bl.next hB)
  have N_19 := N_18.next hB_19
  have F_19 := F_18.next hB_19
  have O_19 := O_18.next hB_19
  have hbel_19 := hbel_18.next hB_19
  have hsz_19 := hB_19.size
  clear N_18 F_18 O_18 hbel_18 hB_19
  try clear hB
  go_wp2_with fail
  refine (kboolsadd true true).mono ?_
  rintro e w20 ⟨rfl, hB⟩
  have hB_20 : Below w19.heap.size w19 w20 := (bl.next hB)
  have N_20 := N_19.next hB_20
  have F_20 := F_19.next hB_20
  have O_20 := O_19.next hB_20
  have hbel_20 := hbel_19.next hB_20
  have hsz_20 := hB_20.size
  clear N_19 F_19 O_19 hbel_19 hB_20
  try clear hB
  go_wp2_with fail
  refine (kboolsmul true true).mono ?_
  rintro e w21 ⟨rfl, hB⟩
  have hB_21 : Below w20.heap.size w20 w21 := (bl.next hB)
  have N_21 := N_20.next hB_21
  have F_21 := F_20.next hB_21
  have O_21 := O_20.next hB_21
  have hbel_21 := hbel_20.next hB_21
  have hsz_21 := hB_21.size
  clear N_20 F_20 O_20 hbel_20 hB_21
  try clear hB
  go_wp2_with fail
  refine (kboolssame true true).mono ?_
  rintro e w22 ⟨rfl, hB⟩
  have hB_22 : Below w21.heap.size w21 w22 := (bl.next hB)
  have N_22 := N_21.next hB_22
  have F_22 := F_21.next hB_22
  have O_22 := O_21.next hB_22
  have hbel_22 := hbel_21.next hB_22
  have hsz_22 := hB_22.size
  clear N_21 F_21 O_21 hbel_21 hB_22
  try clear hB
  go_wp2
  go_ret
  exact ⟨rfl, hbel_22⟩

set_option maxRecDepth 100000 in
set_option maxHeartbeats 8000000 in
theorem ringPlain_sntf {w : World} (a b : Int) (a1 : -9223372036854775808 ≤ a) (a2 : a ≤ 9223372036854775807) (b1 : -9223372036854775808 ≤ b) (b2 : b ≤ 9223372036854775807) (x y : Nat) {ra : Nat} (ha : floatBits .add .f64 x y = some ra) (hm : floatBits .mul .f64 x y = none) :
    Calls Tryz.prog 8 #[.int .i64 a, .int .i64 b, .float .f64 x, .float .f64 y, .bool true, .bool false] w (fun e w' => e = .returned (.bool true) ∧ Below w.heap.size w w') := by
  have h00 : (FloatKind.f64.format.order 0 0 == some Ordering.eq) = true := by decide +kernel
  have h11 : (FloatKind.f64.format.order 4607182418800017408 4607182418800017408 == some Ordering.eq) = true := by decide +kernel
  have La := hid (bits_lt ha)
  have Ra := fun w => run_float_arith (P := Tryz.prog) w .add 81 .f64 x y ra ha
  have Ha := hid ha
  clear ha
  have Rm := fun w => run_none .mul (by simp) 81 hm w
  have Hm := hid hm
  clear hm
  have FS := hid (flt_self x)
  obtain ⟨fl, hfl0⟩ : ∃ c, flt x y = c := ⟨_, rfl⟩
  have hfl := hid hfl0
  clear hfl0
  obtain ⟨ab, hab⟩ : ∃ c, (a == b) = c := ⟨_, rfl⟩
  go_enter Tryz.func8, Tryz.ntmps8
  have hbel_0 : Below w.heap.size w w := Below.refl _ _
  go_wp2_with fail
  refine (kawake).mono ?_
  rintro e w1 ⟨rfl, hB⟩
  have hB_1 : Below w.heap.size w w1 := (bl.next hB)
  have hbel_1 := hbel_0.next hB_1
  have hsz_1 := hB_1.size
  clear hbel_0 hB_1
  try clear hB
  have hbx0 : Blk (((w1.alloc (.cells #[] 77)).alloc (.cells #[] 82)).alloc (.cells #[] 75)) (w1.heap.size) #[] := (((blk_new' w1 #[] 77 (g := w1.heap.size) (by simp)).alloc _).alloc _)
  have hbx1 : Blk (((w1.alloc (.cells #[] 77)).alloc (.cells #[] 82)).alloc (.cells #[] 75)) (w1.heap.size + 1) #[] := ((blk_new' (w1.alloc (.cells #[] 77)) #[] 82 (g := w1.heap.size + 1) (by simp)).alloc _)
  have hbx2 : Blk (((w1.alloc (.cells #[] 77)).alloc (.cells #[] 82)).alloc (.cells #[] 75)) (w1.heap.size + 1 + 1) #[] := (blk_new' ((w1.alloc (.cells #[] 77)).alloc (.cells #[] 82)) #[] 75 (g := w1.heap.size + 1 + 1) (by simp))
  have hbB : Below w1.heap.size w1 (((w1.alloc (.cells #[] 77)).alloc (.cells #[] 82)).alloc (.cells #[] 75)) := bl
  have hltN := hbx0.lt
  have hltF := hbx1.lt
  have hltO := hbx2.lt
  have hB_2 : Below w1.heap.size w1 (((w1.alloc (.cells #[] 77)).alloc (.cells #[] 82)).alloc (.cells #[] 75)) := hbB
  have hbel_2 := hbel_1.next hB_2
  have hsz_2 := hB_2.size
  clear hB_2
  have N_2 := hbx0
  clear hbx0
  have F_2 := hbx1
  clear hbx1
  have O_2 := hbx2
  clear hbx2
  clear hbB
  go_wp2_with fail
  clear hbel_1
  generalize (((w1.alloc (.cells #[] 77)).alloc (.cells #[] 82)).alloc (.cells #[] 75)) = v2 at *
  go_wp2_with fail
  refine (kintszero).mono ?_
  rintro e w3 ⟨rfl, hB⟩
  have hB_3 : Below v2.heap.size v2 w3 := (bl.next hB)
  have N_3 := N_2.next hB_3
  have F_3 := F_2.next hB_3
  have O_3 := O_2.next hB_3
  have hbel_3 := hbel_2.next hB_3
  have hsz_3 := hB_3.size
  clear N_2 F_2 O_2 hbel_2 hB_3
  try clear hB
  go_wp2_with fail
  refine (kintsone).mono ?_
  rintro e w4 ⟨rfl, hB⟩
  have hB_4 : Below w3.heap.size w3 w4 := (bl.next hB)
  have N_4 := N_3.next hB_4
  have F_4 := F_3.next hB_4
  have O_4 := O_3.next hB_4
  have hbel_4 := hbel_3.next hB_4
  have hsz_4 := hB_4.size
  clear N_3 F_3 O_3 hbel_3 hB_4
  try clear hB
  go_wp2_with fail
  refine (kintsadd a b a1 a2 b1 b2).mono ?_
  rintro e w5 ⟨rfl, hB⟩
  have hB_5 : Below w4.heap.size w4 w5 := (bl.next hB)
  have N_5 := N_4.next hB_5
  have F_5 := F_4.next hB_5
  have O_5 := O_4.next hB_5
  have hbel_5 := hbel_4.next hB_5
  have hsz_5 := hB_5.size
  clear N_4 F_4 O_4 hbel_4 hB_5
  try clear hB
  go_wp2_with fail
  refine (kintsmul a b a1 a2 b1 b2).mono ?_
  rintro e w6 ⟨rfl, hB⟩
  have hB_6 : Below w5.heap.size w5 w6 := (bl.next hB)
  have N_6 := N_5.next hB_6
  have F_6 := F_5.next hB_6
  have O_6 := O_5.next hB_6
  have hbel_6 := hbel_5.next hB_6
  have hsz_6 := hB_6.size
  clear N_5 F_5 O_5 hbel_5 hB_6
  try clear hB
  go_wp2_with fail
  refine (kintssame a b a1 a2 b1 b2).mono ?_
  rintro e w7 ⟨rfl, hB⟩
  have hB_7 : Below w6.heap.size w6 w7 := (bl.next hB)
  have N_7 := N_6.next hB_7
  have F_7 := F_6.next hB_7
  have O_7 := O_6.next hB_7
  have hbel_7 := hbel_6.next hB_7
  have hsz_7 := hB_7.size
  clear N_6 F_6 O_6 hbel_6 hB_7
  try clear hB
  go_wp2_with fail
  refine (kintssame a a a1 a2 a1 a2).mono ?_
  rintro e w8 ⟨rfl, hB⟩
  have hB_8 : Below w7.heap.size w7 w8 := (bl.next hB)
  have N_8 := N_7.next hB_8
  have F_8 := F_7.next hB_8
  have O_8 := O_7.next hB_8
  have hbel_8 := hbel_7.next hB_8
  have hsz_8 := hB_8.size
  clear N_7 F_7 O_7 hbel_7 hB_8
  try clear hB
  go_wp2_with fail
  refine (kfloatszero).mono ?_
  rintro e w9 ⟨rfl, hB⟩
  have hB_9 : Below w8.heap.size w8 w9 := (bl.next hB)
  have N_9 := N_8.next hB_9
  have F_9 := F_8.next hB_9
  have O_9 := O_8.next hB_9
  have hbel_9 := hbel_8.next hB_9
  have hsz_9 := hB_9.size
  clear N_8 F_8 O_8 hbel_8 hB_9
  try clear hB
  go_wp2_with fail
  refine (kfloatsone).mono ?_
  rintro e w10 ⟨rfl, hB⟩
  have hB_10 : Below w9.heap.size w9 w10 := (bl.next hB)
  have N_10 := N_9.next hB_10
  have F_10 := F_9.next hB_10
  have O_10 := O_9.next hB_10
  have hbel_10 := hbel_9.next hB_10
  have hsz_10 := hB_10.size
  clear N_9 F_9 O_9 hbel_9 hB_10
  try clear hB
  go_wp2_with fail
  refine (kfloatsadd_some Ha.out).mono ?_
  rintro e w11 ⟨rfl, hB⟩
  have hB_11 : Below w10.heap.size w10 w11 := (bl.next hB)
  have N_11 := N_10.next hB_11
  have F_11 := F_10.next hB_11
  have O_11 := O_10.next hB_11
  have hbel_11 := hbel_10.next hB_11
  have hsz_11 := hB_11.size
  clear N_10 F_10 O_10 hbel_10 hB_11
  try clear hB
  go_wp2_with fail
  refine (fexact_eq La.out).mono ?_
  rintro e w12 ⟨rfl, hB⟩
  have hB_12 : Below w11.heap.size w11 w12 := (bl.next hB)
  have N_12 := N_11.next hB_12
  have F_12 := F_11.next hB_12
  have O_12 := O_11.next hB_12
  have hbel_12 := hbel_11.next hB_12
  have hsz_12 := hB_12.size
  clear N_11 F_11 O_11 hbel_11 hB_12
  try clear hB
  go_wp2_with fail
  refine (kfloatsmul_none Hm.out).mono ?_
  rintro e w13 ⟨nm, hn0, rfl, hB⟩
  have hB_13 : Below w12.heap.size w12 w13 := (bl.next hB)
  have N_13 := N_12.next hB_13
  have F_13 := F_12.next hB_13
  have O_13 := O_12.next hB_13
  have hbel_13 := hbel_12.next hB_13
  have hsz_13 := hB_13.size
  clear N_12 F_12 O_12 hbel_12 hB_13
  have hnm := hid hn0
  clear hn0
  try clear hB
  go_wp2_with fail
  refine (fexact_nan hnm.out (nanw_nan _ _ _)).mono ?_
  rintro e w14 ⟨rfl, hB⟩
  have hB_14 : Below w13.heap.size w13 w14 := (bl.next hB)
  have N_14 := N_13.next hB_14
  have F_14 := F_13.next hB_14
  have O_14 := O_13.next hB_14
  have hbel_14 := hbel_13.next hB_14
  have hsz_14 := hB_14.size
  clear N_13 F_13 O_13 hbel_13 hB_14
  try clear hB
  go_wp2_with fail
  refine (kfloatssame x y).mono ?_
  rw [hfl.out]
  rintro e w15 ⟨rfl, hB⟩
  have hB_15 : Below w14.heap.size w14 w15 := (bl.next hB)
  have N_15 := N_14.next hB_15
  have F_15 := F_14.next hB_15
  have O_15 := O_14.next hB_15
  have hbel_15 := hbel_14.next hB_15
  have hsz_15 := hB_15.size
  clear N_14 F_14 O_14 hbel_14 hB_15
  try clear hB
  go_wp2_with fail
  refine (ffloat x y).mono ?_
  rw [hfl.out]
  rintro e w16 ⟨rfl, hB⟩
  have hB_16 : Below w15.heap.size w15 w16 := (bl.next hB)
  have N_16 := N_15.next hB_16
  have F_16 := F_15.next hB_16
  have O_16 := O_15.next hB_16
  have hbel_16 := hbel_15.next hB_16
  have hsz_16 := hB_16.size
  clear N_15 F_15 O_15 hbel_15 hB_16
  try clear hB
  go_wp2_with fail
  refine (kfloatssame x x).mono ?_
  rw [FS.out]
  rintro e w17 ⟨rfl, hB⟩
  have hB_17 : Below w16.heap.size w16 w17 := (bl.next hB)
  have N_17 := N_16.next hB_17
  have F_17 := F_16.next hB_17
  have O_17 := O_16.next hB_17
  have hbel_17 := hbel_16.next hB_17
  have hsz_17 := hB_17.size
  clear N_16 F_16 O_16 hbel_16 hB_17
  try clear hB
  go_wp2_with fail
  refine (kboolszero).mono ?_
  rintro e w18 ⟨rfl, hB⟩
  have hB_18 : Below w17.heap.size w17 w18 := (bl.next hB)
  have N_18 := N_17.next hB_18
  have F_18 := F_17.next hB_18
  have O_18 := O_17.next hB_18
  have hbel_18 := hbel_17.next hB_18
  have hsz_18 := hB_18.size
  clear N_17 F_17 O_17 hbel_17 hB_18
  try clear hB
  go_wp2_with fail
  refine (kboolsone).mono ?_
  rintro e w19 ⟨rfl, hB⟩
  have hB_19 : Below w18.heap.size w18 w19 := (bl.next hB)
  have N_19 := N_18.next hB_19
  have F_19 := F_18.next hB_19
  have O_19 := O_18.next hB_19
  have hbel_19 := hbel_18.next hB_19
  have hsz_19 := hB_19.size
  clear N_18 F_18 O_18 hbel_18 hB_19
  try clear hB
  go_wp2_with fail
  refine (kboolsadd true false).mono ?_
  rintro e w20 ⟨rfl, hB⟩
  have hB_20 : Below w19.heap.size w19 w20 := (bl.next hB)
  have N_20 := N_19.next hB_20
  have F_20 := F_19.next hB_20
  have O_20 := O_19.next hB_20
  have hbel_20 := hbel_19.next hB_20
  have hsz_20 := hB_20.size
  clear N_19 F_19 O_19 hbel_19 hB_20
  try clear hB
  go_wp2_with fail
  refine (kboolsmul true false).mono ?_
  rintro e w21 ⟨rfl, hB⟩
  have hB_21 : Below w20.heap.size w20 w21 := (bl.next hB)
  have N_21 := N_20.next hB_21
  have F_21 := F_20.next hB_21
  have O_21 := O_20.next hB_21
  have hbel_21 := hbel_20.next hB_21
  have hsz_21 := hB_21.size
  clear N_20 F_20 O_20 hbel_20 hB_21
  try clear hB
  go_wp2_with fail
  refine (kboolssame true false).mono ?_
  rintro e w22 ⟨rfl, hB⟩
  have hB_22 : Below w21.heap.size w21 w22 := (bl.next hB)
  have N_22 := N_21.next hB_22
  have F_22 := F_21.next hB_22
  have O_22 := O_21.next hB_22
  have hbel_22 := hbel_21.next hB_22
  have hsz_22 := hB_22.size
  clear N_21 F_21 O_21 hbel_21 hB_22
  try clear hB
  go_wp2
  go_ret
  exact ⟨rfl, hbel_22⟩

set_option maxRecDepth 100000 in
set_option maxHeartbeats 8000000 in
theorem ringPlain_snft {w : World} (a b : Int) (a1 : -9223372036854775808 ≤ a) (a2 : a ≤ 9223372036854775807) (b1 : -9223372036854775808 ≤ b) (b2 : b ≤ 9223372036854775807) (x y : Nat) {ra : Nat} (ha : floatBits .add .f64 x y = some ra) (hm : floatBits .mul .f64 x y = none) :
    Calls Tryz.prog 8 #[.int .i64 a, .int .i64 b, .float .f64 x, .float .f64 y, .bool false, .bool true] w (fun e w' => e = .returned (.bool true) ∧ Below w.heap.size w w') := by
  have h00 : (FloatKind.f64.format.order 0 0 == some Ordering.eq) = true := by decide +kernel
  have h11 : (FloatKind.f64.format.order 4607182418800017408 4607182418800017408 == some Ordering.eq) = true := by decide +kernel
  have La := hid (bits_lt ha)
  have Ra := fun w => run_float_arith (P := Tryz.prog) w .add 81 .f64 x y ra ha
  have Ha := hid ha
  clear ha
  have Rm := fun w => run_none .mul (by simp) 81 hm w
  have Hm := hid hm
  clear hm
  have FS := hid (flt_self x)
  obtain ⟨fl, hfl0⟩ : ∃ c, flt x y = c := ⟨_, rfl⟩
  have hfl := hid hfl0
  clear hfl0
  obtain ⟨ab, hab⟩ : ∃ c, (a == b) = c := ⟨_, rfl⟩
  go_enter Tryz.func8, Tryz.ntmps8
  have hbel_0 : Below w.heap.size w w := Below.refl _ _
  go_wp2_with fail
  refine (kawake).mono ?_
  rintro e w1 ⟨rfl, hB⟩
  have hB_1 : Below w.heap.size w w1 := (bl.next hB)
  have hbel_1 := hbel_0.next hB_1
  have hsz_1 := hB_1.size
  clear hbel_0 hB_1
  try clear hB
  have hbx0 : Blk (((w1.alloc (.cells #[] 77)).alloc (.cells #[] 82)).alloc (.cells #[] 75)) (w1.heap.size) #[] := (((blk_new' w1 #[] 77 (g := w1.heap.size) (by simp)).alloc _).alloc _)
  have hbx1 : Blk (((w1.alloc (.cells #[] 77)).alloc (.cells #[] 82)).alloc (.cells #[] 75)) (w1.heap.size + 1) #[] := ((blk_new' (w1.alloc (.cells #[] 77)) #[] 82 (g := w1.heap.size + 1) (by simp)).alloc _)
  have hbx2 : Blk (((w1.alloc (.cells #[] 77)).alloc (.cells #[] 82)).alloc (.cells #[] 75)) (w1.heap.size + 1 + 1) #[] := (blk_new' ((w1.alloc (.cells #[] 77)).alloc (.cells #[] 82)) #[] 75 (g := w1.heap.size + 1 + 1) (by simp))
  have hbB : Below w1.heap.size w1 (((w1.alloc (.cells #[] 77)).alloc (.cells #[] 82)).alloc (.cells #[] 75)) := bl
  have hltN := hbx0.lt
  have hltF := hbx1.lt
  have hltO := hbx2.lt
  have hB_2 : Below w1.heap.size w1 (((w1.alloc (.cells #[] 77)).alloc (.cells #[] 82)).alloc (.cells #[] 75)) := hbB
  have hbel_2 := hbel_1.next hB_2
  have hsz_2 := hB_2.size
  clear hB_2
  have N_2 := hbx0
  clear hbx0
  have F_2 := hbx1
  clear hbx1
  have O_2 := hbx2
  clear hbx2
  clear hbB
  go_wp2_with fail
  clear hbel_1
  generalize (((w1.alloc (.cells #[] 77)).alloc (.cells #[] 82)).alloc (.cells #[] 75)) = v2 at *
  go_wp2_with fail
  refine (kintszero).mono ?_
  rintro e w3 ⟨rfl, hB⟩
  have hB_3 : Below v2.heap.size v2 w3 := (bl.next hB)
  have N_3 := N_2.next hB_3
  have F_3 := F_2.next hB_3
  have O_3 := O_2.next hB_3
  have hbel_3 := hbel_2.next hB_3
  have hsz_3 := hB_3.size
  clear N_2 F_2 O_2 hbel_2 hB_3
  try clear hB
  go_wp2_with fail
  refine (kintsone).mono ?_
  rintro e w4 ⟨rfl, hB⟩
  have hB_4 : Below w3.heap.size w3 w4 := (bl.next hB)
  have N_4 := N_3.next hB_4
  have F_4 := F_3.next hB_4
  have O_4 := O_3.next hB_4
  have hbel_4 := hbel_3.next hB_4
  have hsz_4 := hB_4.size
  clear N_3 F_3 O_3 hbel_3 hB_4
  try clear hB
  go_wp2_with fail
  refine (kintsadd a b a1 a2 b1 b2).mono ?_
  rintro e w5 ⟨rfl, hB⟩
  have hB_5 : Below w4.heap.size w4 w5 := (bl.next hB)
  have N_5 := N_4.next hB_5
  have F_5 := F_4.next hB_5
  have O_5 := O_4.next hB_5
  have hbel_5 := hbel_4.next hB_5
  have hsz_5 := hB_5.size
  clear N_4 F_4 O_4 hbel_4 hB_5
  try clear hB
  go_wp2_with fail
  refine (kintsmul a b a1 a2 b1 b2).mono ?_
  rintro e w6 ⟨rfl, hB⟩
  have hB_6 : Below w5.heap.size w5 w6 := (bl.next hB)
  have N_6 := N_5.next hB_6
  have F_6 := F_5.next hB_6
  have O_6 := O_5.next hB_6
  have hbel_6 := hbel_5.next hB_6
  have hsz_6 := hB_6.size
  clear N_5 F_5 O_5 hbel_5 hB_6
  try clear hB
  go_wp2_with fail
  refine (kintssame a b a1 a2 b1 b2).mono ?_
  rintro e w7 ⟨rfl, hB⟩
  have hB_7 : Below w6.heap.size w6 w7 := (bl.next hB)
  have N_7 := N_6.next hB_7
  have F_7 := F_6.next hB_7
  have O_7 := O_6.next hB_7
  have hbel_7 := hbel_6.next hB_7
  have hsz_7 := hB_7.size
  clear N_6 F_6 O_6 hbel_6 hB_7
  try clear hB
  go_wp2_with fail
  refine (kintssame a a a1 a2 a1 a2).mono ?_
  rintro e w8 ⟨rfl, hB⟩
  have hB_8 : Below w7.heap.size w7 w8 := (bl.next hB)
  have N_8 := N_7.next hB_8
  have F_8 := F_7.next hB_8
  have O_8 := O_7.next hB_8
  have hbel_8 := hbel_7.next hB_8
  have hsz_8 := hB_8.size
  clear N_7 F_7 O_7 hbel_7 hB_8
  try clear hB
  go_wp2_with fail
  refine (kfloatszero).mono ?_
  rintro e w9 ⟨rfl, hB⟩
  have hB_9 : Below w8.heap.size w8 w9 := (bl.next hB)
  have N_9 := N_8.next hB_9
  have F_9 := F_8.next hB_9
  have O_9 := O_8.next hB_9
  have hbel_9 := hbel_8.next hB_9
  have hsz_9 := hB_9.size
  clear N_8 F_8 O_8 hbel_8 hB_9
  try clear hB
  go_wp2_with fail
  refine (kfloatsone).mono ?_
  rintro e w10 ⟨rfl, hB⟩
  have hB_10 : Below w9.heap.size w9 w10 := (bl.next hB)
  have N_10 := N_9.next hB_10
  have F_10 := F_9.next hB_10
  have O_10 := O_9.next hB_10
  have hbel_10 := hbel_9.next hB_10
  have hsz_10 := hB_10.size
  clear N_9 F_9 O_9 hbel_9 hB_10
  try clear hB
  go_wp2_with fail
  refine (kfloatsadd_some Ha.out).mono ?_
  rintro e w11 ⟨rfl, hB⟩
  have hB_11 : Below w10.heap.size w10 w11 := (bl.next hB)
  have N_11 := N_10.next hB_11
  have F_11 := F_10.next hB_11
  have O_11 := O_10.next hB_11
  have hbel_11 := hbel_10.next hB_11
  have hsz_11 := hB_11.size
  clear N_10 F_10 O_10 hbel_10 hB_11
  try clear hB
  go_wp2_with fail
  refine (fexact_eq La.out).mono ?_
  rintro e w12 ⟨rfl, hB⟩
  have hB_12 : Below w11.heap.size w11 w12 := (bl.next hB)
  have N_12 := N_11.next hB_12
  have F_12 := F_11.next hB_12
  have O_12 := O_11.next hB_12
  have hbel_12 := hbel_11.next hB_12
  have hsz_12 := hB_12.size
  clear N_11 F_11 O_11 hbel_11 hB_12
  try clear hB
  go_wp2_with fail
  refine (kfloatsmul_none Hm.out).mono ?_
  rintro e w13 ⟨nm, hn0, rfl, hB⟩
  have hB_13 : Below w12.heap.size w12 w13 := (bl.next hB)
  have N_13 := N_12.next hB_13
  have F_13 := F_12.next hB_13
  have O_13 := O_12.next hB_13
  have hbel_13 := hbel_12.next hB_13
  have hsz_13 := hB_13.size
  clear N_12 F_12 O_12 hbel_12 hB_13
  have hnm := hid hn0
  clear hn0
  try clear hB
  go_wp2_with fail
  refine (fexact_nan hnm.out (nanw_nan _ _ _)).mono ?_
  rintro e w14 ⟨rfl, hB⟩
  have hB_14 : Below w13.heap.size w13 w14 := (bl.next hB)
  have N_14 := N_13.next hB_14
  have F_14 := F_13.next hB_14
  have O_14 := O_13.next hB_14
  have hbel_14 := hbel_13.next hB_14
  have hsz_14 := hB_14.size
  clear N_13 F_13 O_13 hbel_13 hB_14
  try clear hB
  go_wp2_with fail
  refine (kfloatssame x y).mono ?_
  rw [hfl.out]
  rintro e w15 ⟨rfl, hB⟩
  have hB_15 : Below w14.heap.size w14 w15 := (bl.next hB)
  have N_15 := N_14.next hB_15
  have F_15 := F_14.next hB_15
  have O_15 := O_14.next hB_15
  have hbel_15 := hbel_14.next hB_15
  have hsz_15 := hB_15.size
  clear N_14 F_14 O_14 hbel_14 hB_15
  try clear hB
  go_wp2_with fail
  refine (ffloat x y).mono ?_
  rw [hfl.out]
  rintro e w16 ⟨rfl, hB⟩
  have hB_16 : Below w15.heap.size w15 w16 := (bl.next hB)
  have N_16 := N_15.next hB_16
  have F_16 := F_15.next hB_16
  have O_16 := O_15.next hB_16
  have hbel_16 := hbel_15.next hB_16
  have hsz_16 := hB_16.size
  clear N_15 F_15 O_15 hbel_15 hB_16
  try clear hB
  go_wp2_with fail
  refine (kfloatssame x x).mono ?_
  rw [FS.out]
  rintro e w17 ⟨rfl, hB⟩
  have hB_17 : Below w16.heap.size w16 w17 := (bl.next hB)
  have N_17 := N_16.next hB_17
  have F_17 := F_16.next hB_17
  have O_17 := O_16.next hB_17
  have hbel_17 := hbel_16.next hB_17
  have hsz_17 := hB_17.size
  clear N_16 F_16 O_16 hbel_16 hB_17
  try clear hB
  go_wp2_with fail
  refine (kboolszero).mono ?_
  rintro e w18 ⟨rfl, hB⟩
  have hB_18 : Below w17.heap.size w17 w18 := (bl.next hB)
  have N_18 := N_17.next hB_18
  have F_18 := F_17.next hB_18
  have O_18 := O_17.next hB_18
  have hbel_18 := hbel_17.next hB_18
  have hsz_18 := hB_18.size
  clear N_17 F_17 O_17 hbel_17 hB_18
  try clear hB
  go_wp2_with fail
  refine (kboolsone).mono ?_
  rintro e w19 ⟨rfl, hB⟩
  have hB_19 : Below w18.heap.size w18 w19 := (bl.next hB)
  have N_19 := N_18.next hB_19
  have F_19 := F_18.next hB_19
  have O_19 := O_18.next hB_19
  have hbel_19 := hbel_18.next hB_19
  have hsz_19 := hB_19.size
  clear N_18 F_18 O_18 hbel_18 hB_19
  try clear hB
  go_wp2_with fail
  refine (kboolsadd false true).mono ?_
  rintro e w20 ⟨rfl, hB⟩
  have hB_20 : Below w19.heap.size w19 w20 := (bl.next hB)
  have N_20 := N_19.next hB_20
  have F_20 := F_19.next hB_20
  have O_20 := O_19.next hB_20
  have hbel_20 := hbel_19.next hB_20
  have hsz_20 := hB_20.size
  clear N_19 F_19 O_19 hbel_19 hB_20
  try clear hB
  go_wp2_with fail
  refine (kboolsmul false true).mono ?_
  rintro e w21 ⟨rfl, hB⟩
  have hB_21 : Below w20.heap.size w20 w21 := (bl.next hB)
  have N_21 := N_20.next hB_21
  have F_21 := F_20.next hB_21
  have O_21 := O_20.next hB_21
  have hbel_21 := hbel_20.next hB_21
  have hsz_21 := hB_21.size
  clear N_20 F_20 O_20 hbel_20 hB_21
  try clear hB
  go_wp2_with fail
  refine (kboolssame false true).mono ?_
  rintro e w22 ⟨rfl, hB⟩
  have hB_22 : Below w21.heap.size w21 w22 := (bl.next hB)
  have N_22 := N_21.next hB_22
  have F_22 := F_21.next hB_22
  have O_22 := O_21.next hB_22
  have hbel_22 := hbel_21.next hB_22
  have hsz_22 := hB_22.size
  clear N_21 F_21 O_21 hbel_21 hB_22
  try clear hB
  go_wp2
  go_ret
  exact ⟨rfl, hbel_22⟩

set_option maxRecDepth 100000 in
set_option maxHeartbeats 8000000 in
theorem ringPlain_snff {w : World} (a b : Int) (a1 : -9223372036854775808 ≤ a) (a2 : a ≤ 9223372036854775807) (b1 : -9223372036854775808 ≤ b) (b2 : b ≤ 9223372036854775807) (x y : Nat) {ra : Nat} (ha : floatBits .add .f64 x y = some ra) (hm : floatBits .mul .f64 x y = none) :
    Calls Tryz.prog 8 #[.int .i64 a, .int .i64 b, .float .f64 x, .float .f64 y, .bool false, .bool false] w (fun e w' => e = .returned (.bool true) ∧ Below w.heap.size w w') := by
  have h00 : (FloatKind.f64.format.order 0 0 == some Ordering.eq) = true := by decide +kernel
  have h11 : (FloatKind.f64.format.order 4607182418800017408 4607182418800017408 == some Ordering.eq) = true := by decide +kernel
  have La := hid (bits_lt ha)
  have Ra := fun w => run_float_arith (P := Tryz.prog) w .add 81 .f64 x y ra ha
  have Ha := hid ha
  clear ha
  have Rm := fun w => run_none .mul (by simp) 81 hm w
  have Hm := hid hm
  clear hm
  have FS := hid (flt_self x)
  obtain ⟨fl, hfl0⟩ : ∃ c, flt x y = c := ⟨_, rfl⟩
  have hfl := hid hfl0
  clear hfl0
  obtain ⟨ab, hab⟩ : ∃ c, (a == b) = c := ⟨_, rfl⟩
  go_enter Tryz.func8, Tryz.ntmps8
  have hbel_0 : Below w.heap.size w w := Below.refl _ _
  go_wp2_with fail
  refine (kawake).mono ?_
  rintro e w1 ⟨rfl, hB⟩
  have hB_1 : Below w.heap.size w w1 := (bl.next hB)
  have hbel_1 := hbel_0.next hB_1
  have hsz_1 := hB_1.size
  clear hbel_0 hB_1
  try clear hB
  have hbx0 : Blk (((w1.alloc (.cells #[] 77)).alloc (.cells #[] 82)).alloc (.cells #[] 75)) (w1.heap.size) #[] := (((blk_new' w1 #[] 77 (g := w1.heap.size) (by simp)).alloc _).alloc _)
  have hbx1 : Blk (((w1.alloc (.cells #[] 77)).alloc (.cells #[] 82)).alloc (.cells #[] 75)) (w1.heap.size + 1) #[] := ((blk_new' (w1.alloc (.cells #[] 77)) #[] 82 (g := w1.heap.size + 1) (by simp)).alloc _)
  have hbx2 : Blk (((w1.alloc (.cells #[] 77)).alloc (.cells #[] 82)).alloc (.cells #[] 75)) (w1.heap.size + 1 + 1) #[] := (blk_new' ((w1.alloc (.cells #[] 77)).alloc (.cells #[] 82)) #[] 75 (g := w1.heap.size + 1 + 1) (by simp))
  have hbB : Below w1.heap.size w1 (((w1.alloc (.cells #[] 77)).alloc (.cells #[] 82)).alloc (.cells #[] 75)) := bl
  have hltN := hbx0.lt
  have hltF := hbx1.lt
  have hltO := hbx2.lt
  have hB_2 : Below w1.heap.size w1 (((w1.alloc (.cells #[] 77)).alloc (.cells #[] 82)).alloc (.cells #[] 75)) := hbB
  have hbel_2 := hbel_1.next hB_2
  have hsz_2 := hB_2.size
  clear hB_2
  have N_2 := hbx0
  clear hbx0
  have F_2 := hbx1
  clear hbx1
  have O_2 := hbx2
  clear hbx2
  clear hbB
  go_wp2_with fail
  clear hbel_1
  generalize (((w1.alloc (.cells #[] 77)).alloc (.cells #[] 82)).alloc (.cells #[] 75)) = v2 at *
  go_wp2_with fail
  refine (kintszero).mono ?_
  rintro e w3 ⟨rfl, hB⟩
  have hB_3 : Below v2.heap.size v2 w3 := (bl.next hB)
  have N_3 := N_2.next hB_3
  have F_3 := F_2.next hB_3
  have O_3 := O_2.next hB_3
  have hbel_3 := hbel_2.next hB_3
  have hsz_3 := hB_3.size
  clear N_2 F_2 O_2 hbel_2 hB_3
  try clear hB
  go_wp2_with fail
  refine (kintsone).mono ?_
  rintro e w4 ⟨rfl, hB⟩
  have hB_4 : Below w3.heap.size w3 w4 := (bl.next hB)
  have N_4 := N_3.next hB_4
  have F_4 := F_3.next hB_4
  have O_4 := O_3.next hB_4
  have hbel_4 := hbel_3.next hB_4
  have hsz_4 := hB_4.size
  clear N_3 F_3 O_3 hbel_3 hB_4
  try clear hB
  go_wp2_with fail
  refine (kintsadd a b a1 a2 b1 b2).mono ?_
  rintro e w5 ⟨rfl, hB⟩
  have hB_5 : Below w4.heap.size w4 w5 := (bl.next hB)
  have N_5 := N_4.next hB_5
  have F_5 := F_4.next hB_5
  have O_5 := O_4.next hB_5
  have hbel_5 := hbel_4.next hB_5
  have hsz_5 := hB_5.size
  clear N_4 F_4 O_4 hbel_4 hB_5
  try clear hB
  go_wp2_with fail
  refine (kintsmul a b a1 a2 b1 b2).mono ?_
  rintro e w6 ⟨rfl, hB⟩
  have hB_6 : Below w5.heap.size w5 w6 := (bl.next hB)
  have N_6 := N_5.next hB_6
  have F_6 := F_5.next hB_6
  have O_6 := O_5.next hB_6
  have hbel_6 := hbel_5.next hB_6
  have hsz_6 := hB_6.size
  clear N_5 F_5 O_5 hbel_5 hB_6
  try clear hB
  go_wp2_with fail
  refine (kintssame a b a1 a2 b1 b2).mono ?_
  rintro e w7 ⟨rfl, hB⟩
  have hB_7 : Below w6.heap.size w6 w7 := (bl.next hB)
  have N_7 := N_6.next hB_7
  have F_7 := F_6.next hB_7
  have O_7 := O_6.next hB_7
  have hbel_7 := hbel_6.next hB_7
  have hsz_7 := hB_7.size
  clear N_6 F_6 O_6 hbel_6 hB_7
  try clear hB
  go_wp2_with fail
  refine (kintssame a a a1 a2 a1 a2).mono ?_
  rintro e w8 ⟨rfl, hB⟩
  have hB_8 : Below w7.heap.size w7 w8 := (bl.next hB)
  have N_8 := N_7.next hB_8
  have F_8 := F_7.next hB_8
  have O_8 := O_7.next hB_8
  have hbel_8 := hbel_7.next hB_8
  have hsz_8 := hB_8.size
  clear N_7 F_7 O_7 hbel_7 hB_8
  try clear hB
  go_wp2_with fail
  refine (kfloatszero).mono ?_
  rintro e w9 ⟨rfl, hB⟩
  have hB_9 : Below w8.heap.size w8 w9 := (bl.next hB)
  have N_9 := N_8.next hB_9
  have F_9 := F_8.next hB_9
  have O_9 := O_8.next hB_9
  have hbel_9 := hbel_8.next hB_9
  have hsz_9 := hB_9.size
  clear N_8 F_8 O_8 hbel_8 hB_9
  try clear hB
  go_wp2_with fail
  refine (kfloatsone).mono ?_
  rintro e w10 ⟨rfl, hB⟩
  have hB_10 : Below w9.heap.size w9 w10 := (bl.next hB)
  have N_10 := N_9.next hB_10
  have F_10 := F_9.next hB_10
  have O_10 := O_9.next hB_10
  have hbel_10 := hbel_9.next hB_10
  have hsz_10 := hB_10.size
  clear N_9 F_9 O_9 hbel_9 hB_10
  try clear hB
  go_wp2_with fail
  refine (kfloatsadd_some Ha.out).mono ?_
  rintro e w11 ⟨rfl, hB⟩
  have hB_11 : Below w10.heap.size w10 w11 := (bl.next hB)
  have N_11 := N_10.next hB_11
  have F_11 := F_10.next hB_11
  have O_11 := O_10.next hB_11
  have hbel_11 := hbel_10.next hB_11
  have hsz_11 := hB_11.size
  clear N_10 F_10 O_10 hbel_10 hB_11
  try clear hB
  go_wp2_with fail
  refine (fexact_eq La.out).mono ?_
  rintro e w12 ⟨rfl, hB⟩
  have hB_12 : Below w11.heap.size w11 w12 := (bl.next hB)
  have N_12 := N_11.next hB_12
  have F_12 := F_11.next hB_12
  have O_12 := O_11.next hB_12
  have hbel_12 := hbel_11.next hB_12
  have hsz_12 := hB_12.size
  clear N_11 F_11 O_11 hbel_11 hB_12
  try clear hB
  go_wp2_with fail
  refine (kfloatsmul_none Hm.out).mono ?_
  rintro e w13 ⟨nm, hn0, rfl, hB⟩
  have hB_13 : Below w12.heap.size w12 w13 := (bl.next hB)
  have N_13 := N_12.next hB_13
  have F_13 := F_12.next hB_13
  have O_13 := O_12.next hB_13
  have hbel_13 := hbel_12.next hB_13
  have hsz_13 := hB_13.size
  clear N_12 F_12 O_12 hbel_12 hB_13
  have hnm := hid hn0
  clear hn0
  try clear hB
  go_wp2_with fail
  refine (fexact_nan hnm.out (nanw_nan _ _ _)).mono ?_
  rintro e w14 ⟨rfl, hB⟩
  have hB_14 : Below w13.heap.size w13 w14 := (bl.next hB)
  have N_14 := N_13.next hB_14
  have F_14 := F_13.next hB_14
  have O_14 := O_13.next hB_14
  have hbel_14 := hbel_13.next hB_14
  have hsz_14 := hB_14.size
  clear N_13 F_13 O_13 hbel_13 hB_14
  try clear hB
  go_wp2_with fail
  refine (kfloatssame x y).mono ?_
  rw [hfl.out]
  rintro e w15 ⟨rfl, hB⟩
  have hB_15 : Below w14.heap.size w14 w15 := (bl.next hB)
  have N_15 := N_14.next hB_15
  have F_15 := F_14.next hB_15
  have O_15 := O_14.next hB_15
  have hbel_15 := hbel_14.next hB_15
  have hsz_15 := hB_15.size
  clear N_14 F_14 O_14 hbel_14 hB_15
  try clear hB
  go_wp2_with fail
  refine (ffloat x y).mono ?_
  rw [hfl.out]
  rintro e w16 ⟨rfl, hB⟩
  have hB_16 : Below w15.heap.size w15 w16 := (bl.next hB)
  have N_16 := N_15.next hB_16
  have F_16 := F_15.next hB_16
  have O_16 := O_15.next hB_16
  have hbel_16 := hbel_15.next hB_16
  have hsz_16 := hB_16.size
  clear N_15 F_15 O_15 hbel_15 hB_16
  try clear hB
  go_wp2_with fail
  refine (kfloatssame x x).mono ?_
  rw [FS.out]
  rintro e w17 ⟨rfl, hB⟩
  have hB_17 : Below w16.heap.size w16 w17 := (bl.next hB)
  have N_17 := N_16.next hB_17
  have F_17 := F_16.next hB_17
  have O_17 := O_16.next hB_17
  have hbel_17 := hbel_16.next hB_17
  have hsz_17 := hB_17.size
  clear N_16 F_16 O_16 hbel_16 hB_17
  try clear hB
  go_wp2_with fail
  refine (kboolszero).mono ?_
  rintro e w18 ⟨rfl, hB⟩
  have hB_18 : Below w17.heap.size w17 w18 := (bl.next hB)
  have N_18 := N_17.next hB_18
  have F_18 := F_17.next hB_18
  have O_18 := O_17.next hB_18
  have hbel_18 := hbel_17.next hB_18
  have hsz_18 := hB_18.size
  clear N_17 F_17 O_17 hbel_17 hB_18
  try clear hB
  go_wp2_with fail
  refine (kboolsone).mono ?_
  rintro e w19 ⟨rfl, hB⟩
  have hB_19 : Below w18.heap.size w18 w19 := (bl.next hB)
  have N_19 := N_18.next hB_19
  have F_19 := F_18.next hB_19
  have O_19 := O_18.next hB_19
  have hbel_19 := hbel_18.next hB_19
  have hsz_19 := hB_19.size
  clear N_18 F_18 O_18 hbel_18 hB_19
  try clear hB
  go_wp2_with fail
  refine (kboolsadd false false).mono ?_
  rintro e w20 ⟨rfl, hB⟩
  have hB_20 : Below w19.heap.size w19 w20 := (bl.next hB)
  have N_20 := N_19.next hB_20
  have F_20 := F_19.next hB_20
  have O_20 := O_19.next hB_20
  have hbel_20 := hbel_19.next hB_20
  have hsz_20 := hB_20.size
  clear N_19 F_19 O_19 hbel_19 hB_20
  try clear hB
  go_wp2_with fail
  refine (kboolsmul false false).mono ?_
  rintro e w21 ⟨rfl, hB⟩
  have hB_21 : Below w20.heap.size w20 w21 := (bl.next hB)
  have N_21 := N_20.next hB_21
  have F_21 := F_20.next hB_21
  have O_21 := O_20.next hB_21
  have hbel_21 := hbel_20.next hB_21
  have hsz_21 := hB_21.size
  clear N_20 F_20 O_20 hbel_20 hB_21
  try clear hB
  go_wp2_with fail
  refine (kboolssame false false).mono ?_
  rintro e w22 ⟨rfl, hB⟩
  have hB_22 : Below w21.heap.size w21 w22 := (bl.next hB)
  have N_22 := N_21.next hB_22
  have F_22 := F_21.next hB_22
  have O_22 := O_21.next hB_22
  have hbel_22 := hbel_21.next hB_22
  have hsz_22 := hB_22.size
  clear N_21 F_21 O_21 hbel_21 hB_22
  try clear hB
  go_wp2
  go_ret
  exact ⟨rfl, hbel_22⟩

set_option maxRecDepth 100000 in
set_option maxHeartbeats 8000000 in
theorem ringPlain_nstt {w : World} (a b : Int) (a1 : -9223372036854775808 ≤ a) (a2 : a ≤ 9223372036854775807) (b1 : -9223372036854775808 ≤ b) (b2 : b ≤ 9223372036854775807) (x y : Nat) (ha : floatBits .add .f64 x y = none) {rm : Nat} (hm : floatBits .mul .f64 x y = some rm) :
    Calls Tryz.prog 8 #[.int .i64 a, .int .i64 b, .float .f64 x, .float .f64 y, .bool true, .bool true] w (fun e w' => e = .returned (.bool true) ∧ Below w.heap.size w w') := by
  have h00 : (FloatKind.f64.format.order 0 0 == some Ordering.eq) = true := by decide +kernel
  have h11 : (FloatKind.f64.format.order 4607182418800017408 4607182418800017408 == some Ordering.eq) = true := by decide +kernel
  have Ra := fun w => run_none .add (by simp) 81 ha w
  have Ha := hid ha
  clear ha
  have Lm := hid (bits_lt hm)
  have Rm := fun w => run_float_arith (P := Tryz.prog) w .mul 81 .f64 x y rm hm
  have Hm := hid hm
  clear hm
  have FS := hid (flt_self x)
  obtain ⟨fl, hfl0⟩ : ∃ c, flt x y = c := ⟨_, rfl⟩
  have hfl := hid hfl0
  clear hfl0
  obtain ⟨ab, hab⟩ : ∃ c, (a == b) = c := ⟨_, rfl⟩
  go_enter Tryz.func8, Tryz.ntmps8
  have hbel_0 : Below w.heap.size w w := Below.refl _ _
  go_wp2_with fail
  refine (kawake).mono ?_
  rintro e w1 ⟨rfl, hB⟩
  have hB_1 : Below w.heap.size w w1 := (bl.next hB)
  have hbel_1 := hbel_0.next hB_1
  have hsz_1 := hB_1.size
  clear hbel_0 hB_1
  try clear hB
  have hbx0 : Blk (((w1.alloc (.cells #[] 77)).alloc (.cells #[] 82)).alloc (.cells #[] 75)) (w1.heap.size) #[] := (((blk_new' w1 #[] 77 (g := w1.heap.size) (by simp)).alloc _).alloc _)
  have hbx1 : Blk (((w1.alloc (.cells #[] 77)).alloc (.cells #[] 82)).alloc (.cells #[] 75)) (w1.heap.size + 1) #[] := ((blk_new' (w1.alloc (.cells #[] 77)) #[] 82 (g := w1.heap.size + 1) (by simp)).alloc _)
  have hbx2 : Blk (((w1.alloc (.cells #[] 77)).alloc (.cells #[] 82)).alloc (.cells #[] 75)) (w1.heap.size + 1 + 1) #[] := (blk_new' ((w1.alloc (.cells #[] 77)).alloc (.cells #[] 82)) #[] 75 (g := w1.heap.size + 1 + 1) (by simp))
  have hbB : Below w1.heap.size w1 (((w1.alloc (.cells #[] 77)).alloc (.cells #[] 82)).alloc (.cells #[] 75)) := bl
  have hltN := hbx0.lt
  have hltF := hbx1.lt
  have hltO := hbx2.lt
  have hB_2 : Below w1.heap.size w1 (((w1.alloc (.cells #[] 77)).alloc (.cells #[] 82)).alloc (.cells #[] 75)) := hbB
  have hbel_2 := hbel_1.next hB_2
  have hsz_2 := hB_2.size
  clear hB_2
  have N_2 := hbx0
  clear hbx0
  have F_2 := hbx1
  clear hbx1
  have O_2 := hbx2
  clear hbx2
  clear hbB
  go_wp2_with fail
  clear hbel_1
  generalize (((w1.alloc (.cells #[] 77)).alloc (.cells #[] 82)).alloc (.cells #[] 75)) = v2 at *
  go_wp2_with fail
  refine (kintszero).mono ?_
  rintro e w3 ⟨rfl, hB⟩
  have hB_3 : Below v2.heap.size v2 w3 := (bl.next hB)
  have N_3 := N_2.next hB_3
  have F_3 := F_2.next hB_3
  have O_3 := O_2.next hB_3
  have hbel_3 := hbel_2.next hB_3
  have hsz_3 := hB_3.size
  clear N_2 F_2 O_2 hbel_2 hB_3
  try clear hB
  go_wp2_with fail
  refine (kintsone).mono ?_
  rintro e w4 ⟨rfl, hB⟩
  have hB_4 : Below w3.heap.size w3 w4 := (bl.next hB)
  have N_4 := N_3.next hB_4
  have F_4 := F_3.next hB_4
  have O_4 := O_3.next hB_4
  have hbel_4 := hbel_3.next hB_4
  have hsz_4 := hB_4.size
  clear N_3 F_3 O_3 hbel_3 hB_4
  try clear hB
  go_wp2_with fail
  refine (kintsadd a b a1 a2 b1 b2).mono ?_
  rintro e w5 ⟨rfl, hB⟩
  have hB_5 : Below w4.heap.size w4 w5 := (bl.next hB)
  have N_5 := N_4.next hB_5
  have F_5 := F_4.next hB_5
  have O_5 := O_4.next hB_5
  have hbel_5 := hbel_4.next hB_5
  have hsz_5 := hB_5.size
  clear N_4 F_4 O_4 hbel_4 hB_5
  try clear hB
  go_wp2_with fail
  refine (kintsmul a b a1 a2 b1 b2).mono ?_
  rintro e w6 ⟨rfl, hB⟩
  have hB_6 : Below w5.heap.size w5 w6 := (bl.next hB)
  have N_6 := N_5.next hB_6
  have F_6 := F_5.next hB_6
  have O_6 := O_5.next hB_6
  have hbel_6 := hbel_5.next hB_6
  have hsz_6 := hB_6.size
  clear N_5 F_5 O_5 hbel_5 hB_6
  try clear hB
  go_wp2_with fail
  refine (kintssame a b a1 a2 b1 b2).mono ?_
  rintro e w7 ⟨rfl, hB⟩
  have hB_7 : Below w6.heap.size w6 w7 := (bl.next hB)
  have N_7 := N_6.next hB_7
  have F_7 := F_6.next hB_7
  have O_7 := O_6.next hB_7
  have hbel_7 := hbel_6.next hB_7
  have hsz_7 := hB_7.size
  clear N_6 F_6 O_6 hbel_6 hB_7
  try clear hB
  go_wp2_with fail
  refine (kintssame a a a1 a2 a1 a2).mono ?_
  rintro e w8 ⟨rfl, hB⟩
  have hB_8 : Below w7.heap.size w7 w8 := (bl.next hB)
  have N_8 := N_7.next hB_8
  have F_8 := F_7.next hB_8
  have O_8 := O_7.next hB_8
  have hbel_8 := hbel_7.next hB_8
  have hsz_8 := hB_8.size
  clear N_7 F_7 O_7 hbel_7 hB_8
  try clear hB
  go_wp2_with fail
  refine (kfloatszero).mono ?_
  rintro e w9 ⟨rfl, hB⟩
  have hB_9 : Below w8.heap.size w8 w9 := (bl.next hB)
  have N_9 := N_8.next hB_9
  have F_9 := F_8.next hB_9
  have O_9 := O_8.next hB_9
  have hbel_9 := hbel_8.next hB_9
  have hsz_9 := hB_9.size
  clear N_8 F_8 O_8 hbel_8 hB_9
  try clear hB
  go_wp2_with fail
  refine (kfloatsone).mono ?_
  rintro e w10 ⟨rfl, hB⟩
  have hB_10 : Below w9.heap.size w9 w10 := (bl.next hB)
  have N_10 := N_9.next hB_10
  have F_10 := F_9.next hB_10
  have O_10 := O_9.next hB_10
  have hbel_10 := hbel_9.next hB_10
  have hsz_10 := hB_10.size
  clear N_9 F_9 O_9 hbel_9 hB_10
  try clear hB
  go_wp2_with fail
  refine (kfloatsadd_none Ha.out).mono ?_
  rintro e w11 ⟨na, hn0, rfl, hB⟩
  have hB_11 : Below w10.heap.size w10 w11 := (bl.next hB)
  have N_11 := N_10.next hB_11
  have F_11 := F_10.next hB_11
  have O_11 := O_10.next hB_11
  have hbel_11 := hbel_10.next hB_11
  have hsz_11 := hB_11.size
  clear N_10 F_10 O_10 hbel_10 hB_11
  have hna := hid hn0
  clear hn0
  try clear hB
  go_wp2_with fail
  refine (fexact_nan hna.out (nanw_nan _ _ _)).mono ?_
  rintro e w12 ⟨rfl, hB⟩
  have hB_12 : Below w11.heap.size w11 w12 := (bl.next hB)
  have N_12 := N_11.next hB_12
  have F_12 := F_11.next hB_12
  have O_12 := O_11.next hB_12
  have hbel_12 := hbel_11.next hB_12
  have hsz_12 := hB_12.size
  clear N_11 F_11 O_11 hbel_11 hB_12
  try clear hB
  go_wp2_with fail
  refine (kfloatsmul_some Hm.out).mono ?_
  rintro e w13 ⟨rfl, hB⟩
  have hB_13 : Below w12.heap.size w12 w13 := (bl.next hB)
  have N_13 := N_12.next hB_13
  have F_13 := F_12.next hB_13
  have O_13 := O_12.next hB_13
  have hbel_13 := hbel_12.next hB_13
  have hsz_13 := hB_13.size
  clear N_12 F_12 O_12 hbel_12 hB_13
  try clear hB
  go_wp2_with fail
  refine (fexact_eq Lm.out).mono ?_
  rintro e w14 ⟨rfl, hB⟩
  have hB_14 : Below w13.heap.size w13 w14 := (bl.next hB)
  have N_14 := N_13.next hB_14
  have F_14 := F_13.next hB_14
  have O_14 := O_13.next hB_14
  have hbel_14 := hbel_13.next hB_14
  have hsz_14 := hB_14.size
  clear N_13 F_13 O_13 hbel_13 hB_14
  try clear hB
  go_wp2_with fail
  refine (kfloatssame x y).mono ?_
  rw [hfl.out]
  rintro e w15 ⟨rfl, hB⟩
  have hB_15 : Below w14.heap.size w14 w15 := (bl.next hB)
  have N_15 := N_14.next hB_15
  have F_15 := F_14.next hB_15
  have O_15 := O_14.next hB_15
  have hbel_15 := hbel_14.next hB_15
  have hsz_15 := hB_15.size
  clear N_14 F_14 O_14 hbel_14 hB_15
  try clear hB
  go_wp2_with fail
  refine (ffloat x y).mono ?_
  rw [hfl.out]
  rintro e w16 ⟨rfl, hB⟩
  have hB_16 : Below w15.heap.size w15 w16 := (bl.next hB)
  have N_16 := N_15.next hB_16
  have F_16 := F_15.next hB_16
  have O_16 := O_15.next hB_16
  have hbel_16 := hbel_15.next hB_16
  have hsz_16 := hB_16.size
  clear N_15 F_15 O_15 hbel_15 hB_16
  try clear hB
  go_wp2_with fail
  refine (kfloatssame x x).mono ?_
  rw [FS.out]
  rintro e w17 ⟨rfl, hB⟩
  have hB_17 : Below w16.heap.size w16 w17 := (bl.next hB)
  have N_17 := N_16.next hB_17
  have F_17 := F_16.next hB_17
  have O_17 := O_16.next hB_17
  have hbel_17 := hbel_16.next hB_17
  have hsz_17 := hB_17.size
  clear N_16 F_16 O_16 hbel_16 hB_17
  try clear hB
  go_wp2_with fail
  refine (kboolszero).mono ?_
  rintro e w18 ⟨rfl, hB⟩
  have hB_18 : Below w17.heap.size w17 w18 := (bl.next hB)
  have N_18 := N_17.next hB_18
  have F_18 := F_17.next hB_18
  have O_18 := O_17.next hB_18
  have hbel_18 := hbel_17.next hB_18
  have hsz_18 := hB_18.size
  clear N_17 F_17 O_17 hbel_17 hB_18
  try clear hB
  go_wp2_with fail
  refine (kboolsone).mono ?_
  rintro e w19 ⟨rfl, hB⟩
  have hB_19 : Below w18.heap.size w18 w19 := (bl.next hB)
  have N_19 := N_18.next hB_19
  have F_19 := F_18.next hB_19
  have O_19 := O_18.next hB_19
  have hbel_19 := hbel_18.next hB_19
  have hsz_19 := hB_19.size
  clear N_18 F_18 O_18 hbel_18 hB_19
  try clear hB
  go_wp2_with fail
  refine (kboolsadd true true).mono ?_
  rintro e w20 ⟨rfl, hB⟩
  have hB_20 : Below w19.heap.size w19 w20 := (bl.next hB)
  have N_20 := N_19.next hB_20
  have F_20 := F_19.next hB_20
  have O_20 := O_19.next hB_20
  have hbel_20 := hbel_19.next hB_20
  have hsz_20 := hB_20.size
  clear N_19 F_19 O_19 hbel_19 hB_20
  try clear hB
  go_wp2_with fail
  refine (kboolsmul true true).mono ?_
  rintro e w21 ⟨rfl, hB⟩
  have hB_21 : Below w20.heap.size w20 w21 := (bl.next hB)
  have N_21 := N_20.next hB_21
  have F_21 := F_20.next hB_21
  have O_21 := O_20.next hB_21
  have hbel_21 := hbel_20.next hB_21
  have hsz_21 := hB_21.size
  clear N_20 F_20 O_20 hbel_20 hB_21
  try clear hB
  go_wp2_with fail
  refine (kboolssame true true).mono ?_
  rintro e w22 ⟨rfl, hB⟩
  have hB_22 : Below w21.heap.size w21 w22 := (bl.next hB)
  have N_22 := N_21.next hB_22
  have F_22 := F_21.next hB_22
  have O_22 := O_21.next hB_22
  have hbel_22 := hbel_21.next hB_22
  have hsz_22 := hB_22.size
  clear N_21 F_21 O_21 hbel_21 hB_22
  try clear hB
  go_wp2
  go_ret
  exact ⟨rfl, hbel_22⟩

set_option maxRecDepth 100000 in
set_option maxHeartbeats 8000000 in
theorem ringPlain_nstf {w : World} (a b : Int) (a1 : -9223372036854775808 ≤ a) (a2 : a ≤ 9223372036854775807) (b1 : -9223372036854775808 ≤ b) (b2 : b ≤ 9223372036854775807) (x y : Nat) (ha : floatBits .add .f64 x y = none) {rm : Nat} (hm : floatBits .mul .f64 x y = some rm) :
    Calls Tryz.prog 8 #[.int .i64 a, .int .i64 b, .float .f64 x, .float .f64 y, .bool true, .bool false] w (fun e w' => e = .returned (.bool true) ∧ Below w.heap.size w w') := by
  have h00 : (FloatKind.f64.format.order 0 0 == some Ordering.eq) = true := by decide +kernel
  have h11 : (FloatKind.f64.format.order 4607182418800017408 4607182418800017408 == some Ordering.eq) = true := by decide +kernel
  have Ra := fun w => run_none .add (by simp) 81 ha w
  have Ha := hid ha
  clear ha
  have Lm := hid (bits_lt hm)
  have Rm := fun w => run_float_arith (P := Tryz.prog) w .mul 81 .f64 x y rm hm
  have Hm := hid hm
  clear hm
  have FS := hid (flt_self x)
  obtain ⟨fl, hfl0⟩ : ∃ c, flt x y = c := ⟨_, rfl⟩
  have hfl := hid hfl0
  clear hfl0
  obtain ⟨ab, hab⟩ : ∃ c, (a == b) = c := ⟨_, rfl⟩
  go_enter Tryz.func8, Tryz.ntmps8
  have hbel_0 : Below w.heap.size w w := Below.refl _ _
  go_wp2_with fail
  refine (kawake).mono ?_
  rintro e w1 ⟨rfl, hB⟩
  have hB_1 : Below w.heap.size w w1 := (bl.next hB)
  have hbel_1 := hbel_0.next hB_1
  have hsz_1 := hB_1.size
  clear hbel_0 hB_1
  try clear hB
  have hbx0 : Blk (((w1.alloc (.cells #[] 77)).alloc (.cells #[] 82)).alloc (.cells #[] 75)) (w1.heap.size) #[] := (((blk_new' w1 #[] 77 (g := w1.heap.size) (by simp)).alloc _).alloc _)
  have hbx1 : Blk (((w1.alloc (.cells #[] 77)).alloc (.cells #[] 82)).alloc (.cells #[] 75)) (w1.heap.size + 1) #[] := ((blk_new' (w1.alloc (.cells #[] 77)) #[] 82 (g := w1.heap.size + 1) (by simp)).alloc _)
  have hbx2 : Blk (((w1.alloc (.cells #[] 77)).alloc (.cells #[] 82)).alloc (.cells #[] 75)) (w1.heap.size + 1 + 1) #[] := (blk_new' ((w1.alloc (.cells #[] 77)).alloc (.cells #[] 82)) #[] 75 (g := w1.heap.size + 1 + 1) (by simp))
  have hbB : Below w1.heap.size w1 (((w1.alloc (.cells #[] 77)).alloc (.cells #[] 82)).alloc (.cells #[] 75)) := bl
  have hltN := hbx0.lt
  have hltF := hbx1.lt
  have hltO := hbx2.lt
  have hB_2 : Below w1.heap.size w1 (((w1.alloc (.cells #[] 77)).alloc (.cells #[] 82)).alloc (.cells #[] 75)) := hbB
  have hbel_2 := hbel_1.next hB_2
  have hsz_2 := hB_2.size
  clear hB_2
  have N_2 := hbx0
  clear hbx0
  have F_2 := hbx1
  clear hbx1
  have O_2 := hbx2
  clear hbx2
  clear hbB
  go_wp2_with fail
  clear hbel_1
  generalize (((w1.alloc (.cells #[] 77)).alloc (.cells #[] 82)).alloc (.cells #[] 75)) = v2 at *
  go_wp2_with fail
  refine (kintszero).mono ?_
  rintro e w3 ⟨rfl, hB⟩
  have hB_3 : Below v2.heap.size v2 w3 := (bl.next hB)
  have N_3 := N_2.next hB_3
  have F_3 := F_2.next hB_3
  have O_3 := O_2.next hB_3
  have hbel_3 := hbel_2.next hB_3
  have hsz_3 := hB_3.size
  clear N_2 F_2 O_2 hbel_2 hB_3
  try clear hB
  go_wp2_with fail
  refine (kintsone).mono ?_
  rintro e w4 ⟨rfl, hB⟩
  have hB_4 : Below w3.heap.size w3 w4 := (bl.next hB)
  have N_4 := N_3.next hB_4
  have F_4 := F_3.next hB_4
  have O_4 := O_3.next hB_4
  have hbel_4 := hbel_3.next hB_4
  have hsz_4 := hB_4.size
  clear N_3 F_3 O_3 hbel_3 hB_4
  try clear hB
  go_wp2_with fail
  refine (kintsadd a b a1 a2 b1 b2).mono ?_
  rintro e w5 ⟨rfl, hB⟩
  have hB_5 : Below w4.heap.size w4 w5 := (bl.next hB)
  have N_5 := N_4.next hB_5
  have F_5 := F_4.next hB_5
  have O_5 := O_4.next hB_5
  have hbel_5 := hbel_4.next hB_5
  have hsz_5 := hB_5.size
  clear N_4 F_4 O_4 hbel_4 hB_5
  try clear hB
  go_wp2_with fail
  refine (kintsmul a b a1 a2 b1 b2).mono ?_
  rintro e w6 ⟨rfl, hB⟩
  have hB_6 : Below w5.heap.size w5 w6 := (bl.next hB)
  have N_6 := N_5.next hB_6
  have F_6 := F_5.next hB_6
  have O_6 := O_5.next hB_6
  have hbel_6 := hbel_5.next hB_6
  have hsz_6 := hB_6.size
  clear N_5 F_5 O_5 hbel_5 hB_6
  try clear hB
  go_wp2_with fail
  refine (kintssame a b a1 a2 b1 b2).mono ?_
  rintro e w7 ⟨rfl, hB⟩
  have hB_7 : Below w6.heap.size w6 w7 := (bl.next hB)
  have N_7 := N_6.next hB_7
  have F_7 := F_6.next hB_7
  have O_7 := O_6.next hB_7
  have hbel_7 := hbel_6.next hB_7
  have hsz_7 := hB_7.size
  clear N_6 F_6 O_6 hbel_6 hB_7
  try clear hB
  go_wp2_with fail
  refine (kintssame a a a1 a2 a1 a2).mono ?_
  rintro e w8 ⟨rfl, hB⟩
  have hB_8 : Below w7.heap.size w7 w8 := (bl.next hB)
  have N_8 := N_7.next hB_8
  have F_8 := F_7.next hB_8
  have O_8 := O_7.next hB_8
  have hbel_8 := hbel_7.next hB_8
  have hsz_8 := hB_8.size
  clear N_7 F_7 O_7 hbel_7 hB_8
  try clear hB
  go_wp2_with fail
  refine (kfloatszero).mono ?_
  rintro e w9 ⟨rfl, hB⟩
  have hB_9 : Below w8.heap.size w8 w9 := (bl.next hB)
  have N_9 := N_8.next hB_9
  have F_9 := F_8.next hB_9
  have O_9 := O_8.next hB_9
  have hbel_9 := hbel_8.next hB_9
  have hsz_9 := hB_9.size
  clear N_8 F_8 O_8 hbel_8 hB_9
  try clear hB
  go_wp2_with fail
  refine (kfloatsone).mono ?_
  rintro e w10 ⟨rfl, hB⟩
  have hB_10 : Below w9.heap.size w9 w10 := (bl.next hB)
  have N_10 := N_9.next hB_10
  have F_10 := F_9.next hB_10
  have O_10 := O_9.next hB_10
  have hbel_10 := hbel_9.next hB_10
  have hsz_10 := hB_10.size
  clear N_9 F_9 O_9 hbel_9 hB_10
  try clear hB
  go_wp2_with fail
  refine (kfloatsadd_none Ha.out).mono ?_
  rintro e w11 ⟨na, hn0, rfl, hB⟩
  have hB_11 : Below w10.heap.size w10 w11 := (bl.next hB)
  have N_11 := N_10.next hB_11
  have F_11 := F_10.next hB_11
  have O_11 := O_10.next hB_11
  have hbel_11 := hbel_10.next hB_11
  have hsz_11 := hB_11.size
  clear N_10 F_10 O_10 hbel_10 hB_11
  have hna := hid hn0
  clear hn0
  try clear hB
  go_wp2_with fail
  refine (fexact_nan hna.out (nanw_nan _ _ _)).mono ?_
  rintro e w12 ⟨rfl, hB⟩
  have hB_12 : Below w11.heap.size w11 w12 := (bl.next hB)
  have N_12 := N_11.next hB_12
  have F_12 := F_11.next hB_12
  have O_12 := O_11.next hB_12
  have hbel_12 := hbel_11.next hB_12
  have hsz_12 := hB_12.size
  clear N_11 F_11 O_11 hbel_11 hB_12
  try clear hB
  go_wp2_with fail
  refine (kfloatsmul_some Hm.out).mono ?_
  rintro e w13 ⟨rfl, hB⟩
  have hB_13 : Below w12.heap.size w12 w13 := (bl.next hB)
  have N_13 := N_12.next hB_13
  have F_13 := F_12.next hB_13
  have O_13 := O_12.next hB_13
  have hbel_13 := hbel_12.next hB_13
  have hsz_13 := hB_13.size
  clear N_12 F_12 O_12 hbel_12 hB_13
  try clear hB
  go_wp2_with fail
  refine (fexact_eq Lm.out).mono ?_
  rintro e w14 ⟨rfl, hB⟩
  have hB_14 : Below w13.heap.size w13 w14 := (bl.next hB)
  have N_14 := N_13.next hB_14
  have F_14 := F_13.next hB_14
  have O_14 := O_13.next hB_14
  have hbel_14 := hbel_13.next hB_14
  have hsz_14 := hB_14.size
  clear N_13 F_13 O_13 hbel_13 hB_14
  try clear hB
  go_wp2_with fail
  refine (kfloatssame x y).mono ?_
  rw [hfl.out]
  rintro e w15 ⟨rfl, hB⟩
  have hB_15 : Below w14.heap.size w14 w15 := (bl.next hB)
  have N_15 := N_14.next hB_15
  have F_15 := F_14.next hB_15
  have O_15 := O_14.next hB_15
  have hbel_15 := hbel_14.next hB_15
  have hsz_15 := hB_15.size
  clear N_14 F_14 O_14 hbel_14 hB_15
  try clear hB
  go_wp2_with fail
  refine (ffloat x y).mono ?_
  rw [hfl.out]
  rintro e w16 ⟨rfl, hB⟩
  have hB_16 : Below w15.heap.size w15 w16 := (bl.next hB)
  have N_16 := N_15.next hB_16
  have F_16 := F_15.next hB_16
  have O_16 := O_15.next hB_16
  have hbel_16 := hbel_15.next hB_16
  have hsz_16 := hB_16.size
  clear N_15 F_15 O_15 hbel_15 hB_16
  try clear hB
  go_wp2_with fail
  refine (kfloatssame x x).mono ?_
  rw [FS.out]
  rintro e w17 ⟨rfl, hB⟩
  have hB_17 : Below w16.heap.size w16 w17 := (bl.next hB)
  have N_17 := N_16.next hB_17
  have F_17 := F_16.next hB_17
  have O_17 := O_16.next hB_17
  have hbel_17 := hbel_16.next hB_17
  have hsz_17 := hB_17.size
  clear N_16 F_16 O_16 hbel_16 hB_17
  try clear hB
  go_wp2_with fail
  refine (kboolszero).mono ?_
  rintro e w18 ⟨rfl, hB⟩
  have hB_18 : Below w17.heap.size w17 w18 := (bl.next hB)
  have N_18 := N_17.next hB_18
  have F_18 := F_17.next hB_18
  have O_18 := O_17.next hB_18
  have hbel_18 := hbel_17.next hB_18
  have hsz_18 := hB_18.size
  clear N_17 F_17 O_17 hbel_17 hB_18
  try clear hB
  go_wp2_with fail
  refine (kboolsone).mono ?_
  rintro e w19 ⟨rfl, hB⟩
  have hB_19 : Below w18.heap.size w18 w19 := (bl.next hB)
  have N_19 := N_18.next hB_19
  have F_19 := F_18.next hB_19
  have O_19 := O_18.next hB_19
  have hbel_19 := hbel_18.next hB_19
  have hsz_19 := hB_19.size
  clear N_18 F_18 O_18 hbel_18 hB_19
  try clear hB
  go_wp2_with fail
  refine (kboolsadd true false).mono ?_
  rintro e w20 ⟨rfl, hB⟩
  have hB_20 : Below w19.heap.size w19 w20 := (bl.next hB)
  have N_20 := N_19.next hB_20
  have F_20 := F_19.next hB_20
  have O_20 := O_19.next hB_20
  have hbel_20 := hbel_19.next hB_20
  have hsz_20 := hB_20.size
  clear N_19 F_19 O_19 hbel_19 hB_20
  try clear hB
  go_wp2_with fail
  refine (kboolsmul true false).mono ?_
  rintro e w21 ⟨rfl, hB⟩
  have hB_21 : Below w20.heap.size w20 w21 := (bl.next hB)
  have N_21 := N_20.next hB_21
  have F_21 := F_20.next hB_21
  have O_21 := O_20.next hB_21
  have hbel_21 := hbel_20.next hB_21
  have hsz_21 := hB_21.size
  clear N_20 F_20 O_20 hbel_20 hB_21
  try clear hB
  go_wp2_with fail
  refine (kboolssame true false).mono ?_
  rintro e w22 ⟨rfl, hB⟩
  have hB_22 : Below w21.heap.size w21 w22 := (bl.next hB)
  have N_22 := N_21.next hB_22
  have F_22 := F_21.next hB_22
  have O_22 := O_21.next hB_22
  have hbel_22 := hbel_21.next hB_22
  have hsz_22 := hB_22.size
  clear N_21 F_21 O_21 hbel_21 hB_22
  try clear hB
  go_wp2
  go_ret
  exact ⟨rfl, hbel_22⟩

set_option maxRecDepth 100000 in
set_option maxHeartbeats 8000000 in
theorem ringPlain_nsft {w : World} (a b : Int) (a1 : -9223372036854775808 ≤ a) (a2 : a ≤ 9223372036854775807) (b1 : -9223372036854775808 ≤ b) (b2 : b ≤ 9223372036854775807) (x y : Nat) (ha : floatBits .add .f64 x y = none) {rm : Nat} (hm : floatBits .mul .f64 x y = some rm) :
    Calls Tryz.prog 8 #[.int .i64 a, .int .i64 b, .float .f64 x, .float .f64 y, .bool false, .bool true] w (fun e w' => e = .returned (.bool true) ∧ Below w.heap.size w w') := by
  have h00 : (FloatKind.f64.format.order 0 0 == some Ordering.eq) = true := by decide +kernel
  have h11 : (FloatKind.f64.format.order 4607182418800017408 4607182418800017408 == some Ordering.eq) = true := by decide +kernel
  have Ra := fun w => run_none .add (by simp) 81 ha w
  have Ha := hid ha
  clear ha
  have Lm := hid (bits_lt hm)
  have Rm := fun w => run_float_arith (P := Tryz.prog) w .mul 81 .f64 x y rm hm
  have Hm := hid hm
  clear hm
  have FS := hid (flt_self x)
  obtain ⟨fl, hfl0⟩ : ∃ c, flt x y = c := ⟨_, rfl⟩
  have hfl := hid hfl0
  clear hfl0
  obtain ⟨ab, hab⟩ : ∃ c, (a == b) = c := ⟨_, rfl⟩
  go_enter Tryz.func8, Tryz.ntmps8
  have hbel_0 : Below w.heap.size w w := Below.refl _ _
  go_wp2_with fail
  refine (kawake).mono ?_
  rintro e w1 ⟨rfl, hB⟩
  have hB_1 : Below w.heap.size w w1 := (bl.next hB)
  have hbel_1 := hbel_0.next hB_1
  have hsz_1 := hB_1.size
  clear hbel_0 hB_1
  try clear hB
  have hbx0 : Blk (((w1.alloc (.cells #[] 77)).alloc (.cells #[] 82)).alloc (.cells #[] 75)) (w1.heap.size) #[] := (((blk_new' w1 #[] 77 (g := w1.heap.size) (by simp)).alloc _).alloc _)
  have hbx1 : Blk (((w1.alloc (.cells #[] 77)).alloc (.cells #[] 82)).alloc (.cells #[] 75)) (w1.heap.size + 1) #[] := ((blk_new' (w1.alloc (.cells #[] 77)) #[] 82 (g := w1.heap.size + 1) (by simp)).alloc _)
  have hbx2 : Blk (((w1.alloc (.cells #[] 77)).alloc (.cells #[] 82)).alloc (.cells #[] 75)) (w1.heap.size + 1 + 1) #[] := (blk_new' ((w1.alloc (.cells #[] 77)).alloc (.cells #[] 82)) #[] 75 (g := w1.heap.size + 1 + 1) (by simp))
  have hbB : Below w1.heap.size w1 (((w1.alloc (.cells #[] 77)).alloc (.cells #[] 82)).alloc (.cells #[] 75)) := bl
  have hltN := hbx0.lt
  have hltF := hbx1.lt
  have hltO := hbx2.lt
  have hB_2 : Below w1.heap.size w1 (((w1.alloc (.cells #[] 77)).alloc (.cells #[] 82)).alloc (.cells #[] 75)) := hbB
  have hbel_2 := hbel_1.next hB_2
  have hsz_2 := hB_2.size
  clear hB_2
  have N_2 := hbx0
  clear hbx0
  have F_2 := hbx1
  clear hbx1
  have O_2 := hbx2
  clear hbx2
  clear hbB
  go_wp2_with fail
  clear hbel_1
  generalize (((w1.alloc (.cells #[] 77)).alloc (.cells #[] 82)).alloc (.cells #[] 75)) = v2 at *
  go_wp2_with fail
  refine (kintszero).mono ?_
  rintro e w3 ⟨rfl, hB⟩
  have hB_3 : Below v2.heap.size v2 w3 := (bl.next hB)
  have N_3 := N_2.next hB_3
  have F_3 := F_2.next hB_3
  have O_3 := O_2.next hB_3
  have hbel_3 := hbel_2.next hB_3
  have hsz_3 := hB_3.size
  clear N_2 F_2 O_2 hbel_2 hB_3
  try clear hB
  go_wp2_with fail
  refine (kintsone).mono ?_
  rintro e w4 ⟨rfl, hB⟩
  have hB_4 : Below w3.heap.size w3 w4 := (bl.next hB)
  have N_4 := N_3.next hB_4
  have F_4 := F_3.next hB_4
  have O_4 := O_3.next hB_4
  have hbel_4 := hbel_3.next hB_4
  have hsz_4 := hB_4.size
  clear N_3 F_3 O_3 hbel_3 hB_4
  try clear hB
  go_wp2_with fail
  refine (kintsadd a b a1 a2 b1 b2).mono ?_
  rintro e w5 ⟨rfl, hB⟩
  have hB_5 : Below w4.heap.size w4 w5 := (bl.next hB)
  have N_5 := N_4.next hB_5
  have F_5 := F_4.next hB_5
  have O_5 := O_4.next hB_5
  have hbel_5 := hbel_4.next hB_5
  have hsz_5 := hB_5.size
  clear N_4 F_4 O_4 hbel_4 hB_5
  try clear hB
  go_wp2_with fail
  refine (kintsmul a b a1 a2 b1 b2).mono ?_
  rintro e w6 ⟨rfl, hB⟩
  have hB_6 : Below w5.heap.size w5 w6 := (bl.next hB)
  have N_6 := N_5.next hB_6
  have F_6 := F_5.next hB_6
  have O_6 := O_5.next hB_6
  have hbel_6 := hbel_5.next hB_6
  have hsz_6 := hB_6.size
  clear N_5 F_5 O_5 hbel_5 hB_6
  try clear hB
  go_wp2_with fail
  refine (kintssame a b a1 a2 b1 b2).mono ?_
  rintro e w7 ⟨rfl, hB⟩
  have hB_7 : Below w6.heap.size w6 w7 := (bl.next hB)
  have N_7 := N_6.next hB_7
  have F_7 := F_6.next hB_7
  have O_7 := O_6.next hB_7
  have hbel_7 := hbel_6.next hB_7
  have hsz_7 := hB_7.size
  clear N_6 F_6 O_6 hbel_6 hB_7
  try clear hB
  go_wp2_with fail
  refine (kintssame a a a1 a2 a1 a2).mono ?_
  rintro e w8 ⟨rfl, hB⟩
  have hB_8 : Below w7.heap.size w7 w8 := (bl.next hB)
  have N_8 := N_7.next hB_8
  have F_8 := F_7.next hB_8
  have O_8 := O_7.next hB_8
  have hbel_8 := hbel_7.next hB_8
  have hsz_8 := hB_8.size
  clear N_7 F_7 O_7 hbel_7 hB_8
  try clear hB
  go_wp2_with fail
  refine (kfloatszero).mono ?_
  rintro e w9 ⟨rfl, hB⟩
  have hB_9 : Below w8.heap.size w8 w9 := (bl.next hB)
  have N_9 := N_8.next hB_9
  have F_9 := F_8.next hB_9
  have O_9 := O_8.next hB_9
  have hbel_9 := hbel_8.next hB_9
  have hsz_9 := hB_9.size
  clear N_8 F_8 O_8 hbel_8 hB_9
  try clear hB
  go_wp2_with fail
  refine (kfloatsone).mono ?_
  rintro e w10 ⟨rfl, hB⟩
  have hB_10 : Below w9.heap.size w9 w10 := (bl.next hB)
  have N_10 := N_9.next hB_10
  have F_10 := F_9.next hB_10
  have O_10 := O_9.next hB_10
  have hbel_10 := hbel_9.next hB_10
  have hsz_10 := hB_10.size
  clear N_9 F_9 O_9 hbel_9 hB_10
  try clear hB
  go_wp2_with fail
  refine (kfloatsadd_none Ha.out).mono ?_
  rintro e w11 ⟨na, hn0, rfl, hB⟩
  have hB_11 : Below w10.heap.size w10 w11 := (bl.next hB)
  have N_11 := N_10.next hB_11
  have F_11 := F_10.next hB_11
  have O_11 := O_10.next hB_11
  have hbel_11 := hbel_10.next hB_11
  have hsz_11 := hB_11.size
  clear N_10 F_10 O_10 hbel_10 hB_11
  have hna := hid hn0
  clear hn0
  try clear hB
  go_wp2_with fail
  refine (fexact_nan hna.out (nanw_nan _ _ _)).mono ?_
  rintro e w12 ⟨rfl, hB⟩
  have hB_12 : Below w11.heap.size w11 w12 := (bl.next hB)
  have N_12 := N_11.next hB_12
  have F_12 := F_11.next hB_12
  have O_12 := O_11.next hB_12
  have hbel_12 := hbel_11.next hB_12
  have hsz_12 := hB_12.size
  clear N_11 F_11 O_11 hbel_11 hB_12
  try clear hB
  go_wp2_with fail
  refine (kfloatsmul_some Hm.out).mono ?_
  rintro e w13 ⟨rfl, hB⟩
  have hB_13 : Below w12.heap.size w12 w13 := (bl.next hB)
  have N_13 := N_12.next hB_13
  have F_13 := F_12.next hB_13
  have O_13 := O_12.next hB_13
  have hbel_13 := hbel_12.next hB_13
  have hsz_13 := hB_13.size
  clear N_12 F_12 O_12 hbel_12 hB_13
  try clear hB
  go_wp2_with fail
  refine (fexact_eq Lm.out).mono ?_
  rintro e w14 ⟨rfl, hB⟩
  have hB_14 : Below w13.heap.size w13 w14 := (bl.next hB)
  have N_14 := N_13.next hB_14
  have F_14 := F_13.next hB_14
  have O_14 := O_13.next hB_14
  have hbel_14 := hbel_13.next hB_14
  have hsz_14 := hB_14.size
  clear N_13 F_13 O_13 hbel_13 hB_14
  try clear hB
  go_wp2_with fail
  refine (kfloatssame x y).mono ?_
  rw [hfl.out]
  rintro e w15 ⟨rfl, hB⟩
  have hB_15 : Below w14.heap.size w14 w15 := (bl.next hB)
  have N_15 := N_14.next hB_15
  have F_15 := F_14.next hB_15
  have O_15 := O_14.next hB_15
  have hbel_15 := hbel_14.next hB_15
  have hsz_15 := hB_15.size
  clear N_14 F_14 O_14 hbel_14 hB_15
  try clear hB
  go_wp2_with fail
  refine (ffloat x y).mono ?_
  rw [hfl.out]
  rintro e w16 ⟨rfl, hB⟩
  have hB_16 : Below w15.heap.size w15 w16 := (bl.next hB)
  have N_16 := N_15.next hB_16
  have F_16 := F_15.next hB_16
  have O_16 := O_15.next hB_16
  have hbel_16 := hbel_15.next hB_16
  have hsz_16 := hB_16.size
  clear N_15 F_15 O_15 hbel_15 hB_16
  try clear hB
  go_wp2_with fail
  refine (kfloatssame x x).mono ?_
  rw [FS.out]
  rintro e w17 ⟨rfl, hB⟩
  have hB_17 : Below w16.heap.size w16 w17 := (bl.next hB)
  have N_17 := N_16.next hB_17
  have F_17 := F_16.next hB_17
  have O_17 := O_16.next hB_17
  have hbel_17 := hbel_16.next hB_17
  have hsz_17 := hB_17.size
  clear N_16 F_16 O_16 hbel_16 hB_17
  try clear hB
  go_wp2_with fail
  refine (kboolszero).mono ?_
  rintro e w18 ⟨rfl, hB⟩
  have hB_18 : Below w17.heap.size w17 w18 := (bl.next hB)
  have N_18 := N_17.next hB_18
  have F_18 := F_17.next hB_18
  have O_18 := O_17.next hB_18
  have hbel_18 := hbel_17.next hB_18
  have hsz_18 := hB_18.size
  clear N_17 F_17 O_17 hbel_17 hB_18
  try clear hB
  go_wp2_with fail
  refine (kboolsone).mono ?_
  rintro e w19 ⟨rfl, hB⟩
  have hB_19 : Below w18.heap.size w18 w19 := (bl.next hB)
  have N_19 := N_18.next hB_19
  have F_19 := F_18.next hB_19
  have O_19 := O_18.next hB_19
  have hbel_19 := hbel_18.next hB_19
  have hsz_19 := hB_19.size
  clear N_18 F_18 O_18 hbel_18 hB_19
  try clear hB
  go_wp2_with fail
  refine (kboolsadd false true).mono ?_
  rintro e w20 ⟨rfl, hB⟩
  have hB_20 : Below w19.heap.size w19 w20 := (bl.next hB)
  have N_20 := N_19.next hB_20
  have F_20 := F_19.next hB_20
  have O_20 := O_19.next hB_20
  have hbel_20 := hbel_19.next hB_20
  have hsz_20 := hB_20.size
  clear N_19 F_19 O_19 hbel_19 hB_20
  try clear hB
  go_wp2_with fail
  refine (kboolsmul false true).mono ?_
  rintro e w21 ⟨rfl, hB⟩
  have hB_21 : Below w20.heap.size w20 w21 := (bl.next hB)
  have N_21 := N_20.next hB_21
  have F_21 := F_20.next hB_21
  have O_21 := O_20.next hB_21
  have hbel_21 := hbel_20.next hB_21
  have hsz_21 := hB_21.size
  clear N_20 F_20 O_20 hbel_20 hB_21
  try clear hB
  go_wp2_with fail
  refine (kboolssame false true).mono ?_
  rintro e w22 ⟨rfl, hB⟩
  have hB_22 : Below w21.heap.size w21 w22 := (bl.next hB)
  have N_22 := N_21.next hB_22
  have F_22 := F_21.next hB_22
  have O_22 := O_21.next hB_22
  have hbel_22 := hbel_21.next hB_22
  have hsz_22 := hB_22.size
  clear N_21 F_21 O_21 hbel_21 hB_22
  try clear hB
  go_wp2
  go_ret
  exact ⟨rfl, hbel_22⟩

set_option maxRecDepth 100000 in
set_option maxHeartbeats 8000000 in
theorem ringPlain_nsff {w : World} (a b : Int) (a1 : -9223372036854775808 ≤ a) (a2 : a ≤ 9223372036854775807) (b1 : -9223372036854775808 ≤ b) (b2 : b ≤ 9223372036854775807) (x y : Nat) (ha : floatBits .add .f64 x y = none) {rm : Nat} (hm : floatBits .mul .f64 x y = some rm) :
    Calls Tryz.prog 8 #[.int .i64 a, .int .i64 b, .float .f64 x, .float .f64 y, .bool false, .bool false] w (fun e w' => e = .returned (.bool true) ∧ Below w.heap.size w w') := by
  have h00 : (FloatKind.f64.format.order 0 0 == some Ordering.eq) = true := by decide +kernel
  have h11 : (FloatKind.f64.format.order 4607182418800017408 4607182418800017408 == some Ordering.eq) = true := by decide +kernel
  have Ra := fun w => run_none .add (by simp) 81 ha w
  have Ha := hid ha
  clear ha
  have Lm := hid (bits_lt hm)
  have Rm := fun w => run_float_arith (P := Tryz.prog) w .mul 81 .f64 x y rm hm
  have Hm := hid hm
  clear hm
  have FS := hid (flt_self x)
  obtain ⟨fl, hfl0⟩ : ∃ c, flt x y = c := ⟨_, rfl⟩
  have hfl := hid hfl0
  clear hfl0
  obtain ⟨ab, hab⟩ : ∃ c, (a == b) = c := ⟨_, rfl⟩
  go_enter Tryz.func8, Tryz.ntmps8
  have hbel_0 : Below w.heap.size w w := Below.refl _ _
  go_wp2_with fail
  refine (kawake).mono ?_
  rintro e w1 ⟨rfl, hB⟩
  have hB_1 : Below w.heap.size w w1 := (bl.next hB)
  have hbel_1 := hbel_0.next hB_1
  have hsz_1 := hB_1.size
  clear hbel_0 hB_1
  try clear hB
  have hbx0 : Blk (((w1.alloc (.cells #[] 77)).alloc (.cells #[] 82)).alloc (.cells #[] 75)) (w1.heap.size) #[] := (((blk_new' w1 #[] 77 (g := w1.heap.size) (by simp)).alloc _).alloc _)
  have hbx1 : Blk (((w1.alloc (.cells #[] 77)).alloc (.cells #[] 82)).alloc (.cells #[] 75)) (w1.heap.size + 1) #[] := ((blk_new' (w1.alloc (.cells #[] 77)) #[] 82 (g := w1.heap.size + 1) (by simp)).alloc _)
  have hbx2 : Blk (((w1.alloc (.cells #[] 77)).alloc (.cells #[] 82)).alloc (.cells #[] 75)) (w1.heap.size + 1 + 1) #[] := (blk_new' ((w1.alloc (.cells #[] 77)).alloc (.cells #[] 82)) #[] 75 (g := w1.heap.size + 1 + 1) (by simp))
  have hbB : Below w1.heap.size w1 (((w1.alloc (.cells #[] 77)).alloc (.cells #[] 82)).alloc (.cells #[] 75)) := bl
  have hltN := hbx0.lt
  have hltF := hbx1.lt
  have hltO := hbx2.lt
  have hB_2 : Below w1.heap.size w1 (((w1.alloc (.cells #[] 77)).alloc (.cells #[] 82)).alloc (.cells #[] 75)) := hbB
  have hbel_2 := hbel_1.next hB_2
  have hsz_2 := hB_2.size
  clear hB_2
  have N_2 := hbx0
  clear hbx0
  have F_2 := hbx1
  clear hbx1
  have O_2 := hbx2
  clear hbx2
  clear hbB
  go_wp2_with fail
  clear hbel_1
  generalize (((w1.alloc (.cells #[] 77)).alloc (.cells #[] 82)).alloc (.cells #[] 75)) = v2 at *
  go_wp2_with fail
  refine (kintszero).mono ?_
  rintro e w3 ⟨rfl, hB⟩
  have hB_3 : Below v2.heap.size v2 w3 := (bl.next hB)
  have N_3 := N_2.next hB_3
  have F_3 := F_2.next hB_3
  have O_3 := O_2.next hB_3
  have hbel_3 := hbel_2.next hB_3
  have hsz_3 := hB_3.size
  clear N_2 F_2 O_2 hbel_2 hB_3
  try clear hB
  go_wp2_with fail
  refine (kintsone).mono ?_
  rintro e w4 ⟨rfl, hB⟩
  have hB_4 : Below w3.heap.size w3 w4 := (bl.next hB)
  have N_4 := N_3.next hB_4
  have F_4 := F_3.next hB_4
  have O_4 := O_3.next hB_4
  have hbel_4 := hbel_3.next hB_4
  have hsz_4 := hB_4.size
  clear N_3 F_3 O_3 hbel_3 hB_4
  try clear hB
  go_wp2_with fail
  refine (kintsadd a b a1 a2 b1 b2).mono ?_
  rintro e w5 ⟨rfl, hB⟩
  have hB_5 : Below w4.heap.size w4 w5 := (bl.next hB)
  have N_5 := N_4.next hB_5
  have F_5 := F_4.next hB_5
  have O_5 := O_4.next hB_5
  have hbel_5 := hbel_4.next hB_5
  have hsz_5 := hB_5.size
  clear N_4 F_4 O_4 hbel_4 hB_5
  try clear hB
  go_wp2_with fail
  refine (kintsmul a b a1 a2 b1 b2).mono ?_
  rintro e w6 ⟨rfl, hB⟩
  have hB_6 : Below w5.heap.size w5 w6 := (bl.next hB)
  have N_6 := N_5.next hB_6
  have F_6 := F_5.next hB_6
  have O_6 := O_5.next hB_6
  have hbel_6 := hbel_5.next hB_6
  have hsz_6 := hB_6.size
  clear N_5 F_5 O_5 hbel_5 hB_6
  try clear hB
  go_wp2_with fail
  refine (kintssame a b a1 a2 b1 b2).mono ?_
  rintro e w7 ⟨rfl, hB⟩
  have hB_7 : Below w6.heap.size w6 w7 := (bl.next hB)
  have N_7 := N_6.next hB_7
  have F_7 := F_6.next hB_7
  have O_7 := O_6.next hB_7
  have hbel_7 := hbel_6.next hB_7
  have hsz_7 := hB_7.size
  clear N_6 F_6 O_6 hbel_6 hB_7
  try clear hB
  go_wp2_with fail
  refine (kintssame a a a1 a2 a1 a2).mono ?_
  rintro e w8 ⟨rfl, hB⟩
  have hB_8 : Below w7.heap.size w7 w8 := (bl.next hB)
  have N_8 := N_7.next hB_8
  have F_8 := F_7.next hB_8
  have O_8 := O_7.next hB_8
  have hbel_8 := hbel_7.next hB_8
  have hsz_8 := hB_8.size
  clear N_7 F_7 O_7 hbel_7 hB_8
  try clear hB
  go_wp2_with fail
  refine (kfloatszero).mono ?_
  rintro e w9 ⟨rfl, hB⟩
  have hB_9 : Below w8.heap.size w8 w9 := (bl.next hB)
  have N_9 := N_8.next hB_9
  have F_9 := F_8.next hB_9
  have O_9 := O_8.next hB_9
  have hbel_9 := hbel_8.next hB_9
  have hsz_9 := hB_9.size
  clear N_8 F_8 O_8 hbel_8 hB_9
  try clear hB
  go_wp2_with fail
  refine (kfloatsone).mono ?_
  rintro e w10 ⟨rfl, hB⟩
  have hB_10 : Below w9.heap.size w9 w10 := (bl.next hB)
  have N_10 := N_9.next hB_10
  have F_10 := F_9.next hB_10
  have O_10 := O_9.next hB_10
  have hbel_10 := hbel_9.next hB_10
  have hsz_10 := hB_10.size
  clear N_9 F_9 O_9 hbel_9 hB_10
  try clear hB
  go_wp2_with fail
  refine (kfloatsadd_none Ha.out).mono ?_
  rintro e w11 ⟨na, hn0, rfl, hB⟩
  have hB_11 : Below w10.heap.size w10 w11 := (bl.next hB)
  have N_11 := N_10.next hB_11
  have F_11 := F_10.next hB_11
  have O_11 := O_10.next hB_11
  have hbel_11 := hbel_10.next hB_11
  have hsz_11 := hB_11.size
  clear N_10 F_10 O_10 hbel_10 hB_11
  have hna := hid hn0
  clear hn0
  try clear hB
  go_wp2_with fail
  refine (fexact_nan hna.out (nanw_nan _ _ _)).mono ?_
  rintro e w12 ⟨rfl, hB⟩
  have hB_12 : Below w11.heap.size w11 w12 := (bl.next hB)
  have N_12 := N_11.next hB_12
  have F_12 := F_11.next hB_12
  have O_12 := O_11.next hB_12
  have hbel_12 := hbel_11.next hB_12
  have hsz_12 := hB_12.size
  clear N_11 F_11 O_11 hbel_11 hB_12
  try clear hB
  go_wp2_with fail
  refine (kfloatsmul_some Hm.out).mono ?_
  rintro e w13 ⟨rfl, hB⟩
  have hB_13 : Below w12.heap.size w12 w13 := (bl.next hB)
  have N_13 := N_12.next hB_13
  have F_13 := F_12.next hB_13
  have O_13 := O_12.next hB_13
  have hbel_13 := hbel_12.next hB_13
  have hsz_13 := hB_13.size
  clear N_12 F_12 O_12 hbel_12 hB_13
  try clear hB
  go_wp2_with fail
  refine (fexact_eq Lm.out).mono ?_
  rintro e w14 ⟨rfl, hB⟩
  have hB_14 : Below w13.heap.size w13 w14 := (bl.next hB)
  have N_14 := N_13.next hB_14
  have F_14 := F_13.next hB_14
  have O_14 := O_13.next hB_14
  have hbel_14 := hbel_13.next hB_14
  have hsz_14 := hB_14.size
  clear N_13 F_13 O_13 hbel_13 hB_14
  try clear hB
  go_wp2_with fail
  refine (kfloatssame x y).mono ?_
  rw [hfl.out]
  rintro e w15 ⟨rfl, hB⟩
  have hB_15 : Below w14.heap.size w14 w15 := (bl.next hB)
  have N_15 := N_14.next hB_15
  have F_15 := F_14.next hB_15
  have O_15 := O_14.next hB_15
  have hbel_15 := hbel_14.next hB_15
  have hsz_15 := hB_15.size
  clear N_14 F_14 O_14 hbel_14 hB_15
  try clear hB
  go_wp2_with fail
  refine (ffloat x y).mono ?_
  rw [hfl.out]
  rintro e w16 ⟨rfl, hB⟩
  have hB_16 : Below w15.heap.size w15 w16 := (bl.next hB)
  have N_16 := N_15.next hB_16
  have F_16 := F_15.next hB_16
  have O_16 := O_15.next hB_16
  have hbel_16 := hbel_15.next hB_16
  have hsz_16 := hB_16.size
  clear N_15 F_15 O_15 hbel_15 hB_16
  try clear hB
  go_wp2_with fail
  refine (kfloatssame x x).mono ?_
  rw [FS.out]
  rintro e w17 ⟨rfl, hB⟩
  have hB_17 : Below w16.heap.size w16 w17 := (bl.next hB)
  have N_17 := N_16.next hB_17
  have F_17 := F_16.next hB_17
  have O_17 := O_16.next hB_17
  have hbel_17 := hbel_16.next hB_17
  have hsz_17 := hB_17.size
  clear N_16 F_16 O_16 hbel_16 hB_17
  try clear hB
  go_wp2_with fail
  refine (kboolszero).mono ?_
  rintro e w18 ⟨rfl, hB⟩
  have hB_18 : Below w17.heap.size w17 w18 := (bl.next hB)
  have N_18 := N_17.next hB_18
  have F_18 := F_17.next hB_18
  have O_18 := O_17.next hB_18
  have hbel_18 := hbel_17.next hB_18
  have hsz_18 := hB_18.size
  clear N_17 F_17 O_17 hbel_17 hB_18
  try clear hB
  go_wp2_with fail
  refine (kboolsone).mono ?_
  rintro e w19 ⟨rfl, hB⟩
  have hB_19 : Below w18.heap.size w18 w19 := (bl.next hB)
  have N_19 := N_18.next hB_19
  have F_19 := F_18.next hB_19
  have O_19 := O_18.next hB_19
  have hbel_19 := hbel_18.next hB_19
  have hsz_19 := hB_19.size
  clear N_18 F_18 O_18 hbel_18 hB_19
  try clear hB
  go_wp2_with fail
  refine (kboolsadd false false).mono ?_
  rintro e w20 ⟨rfl, hB⟩
  have hB_20 : Below w19.heap.size w19 w20 := (bl.next hB)
  have N_20 := N_19.next hB_20
  have F_20 := F_19.next hB_20
  have O_20 := O_19.next hB_20
  have hbel_20 := hbel_19.next hB_20
  have hsz_20 := hB_20.size
  clear N_19 F_19 O_19 hbel_19 hB_20
  try clear hB
  go_wp2_with fail
  refine (kboolsmul false false).mono ?_
  rintro e w21 ⟨rfl, hB⟩
  have hB_21 : Below w20.heap.size w20 w21 := (bl.next hB)
  have N_21 := N_20.next hB_21
  have F_21 := F_20.next hB_21
  have O_21 := O_20.next hB_21
  have hbel_21 := hbel_20.next hB_21
  have hsz_21 := hB_21.size
  clear N_20 F_20 O_20 hbel_20 hB_21
  try clear hB
  go_wp2_with fail
  refine (kboolssame false false).mono ?_
  rintro e w22 ⟨rfl, hB⟩
  have hB_22 : Below w21.heap.size w21 w22 := (bl.next hB)
  have N_22 := N_21.next hB_22
  have F_22 := F_21.next hB_22
  have O_22 := O_21.next hB_22
  have hbel_22 := hbel_21.next hB_22
  have hsz_22 := hB_22.size
  clear N_21 F_21 O_21 hbel_21 hB_22
  try clear hB
  go_wp2
  go_ret
  exact ⟨rfl, hbel_22⟩

set_option maxRecDepth 100000 in
set_option maxHeartbeats 8000000 in
theorem ringPlain_nntt {w : World} (a b : Int) (a1 : -9223372036854775808 ≤ a) (a2 : a ≤ 9223372036854775807) (b1 : -9223372036854775808 ≤ b) (b2 : b ≤ 9223372036854775807) (x y : Nat) (ha : floatBits .add .f64 x y = none) (hm : floatBits .mul .f64 x y = none) :
    Calls Tryz.prog 8 #[.int .i64 a, .int .i64 b, .float .f64 x, .float .f64 y, .bool true, .bool true] w (fun e w' => e = .returned (.bool true) ∧ Below w.heap.size w w') := by
  have h00 : (FloatKind.f64.format.order 0 0 == some Ordering.eq) = true := by decide +kernel
  have h11 : (FloatKind.f64.format.order 4607182418800017408 4607182418800017408 == some Ordering.eq) = true := by decide +kernel
  have Ra := fun w => run_none .add (by simp) 81 ha w
  have Ha := hid ha
  clear ha
  have Rm := fun w => run_none .mul (by simp) 81 hm w
  have Hm := hid hm
  clear hm
  have FS := hid (flt_self x)
  obtain ⟨fl, hfl0⟩ : ∃ c, flt x y = c := ⟨_, rfl⟩
  have hfl := hid hfl0
  clear hfl0
  obtain ⟨ab, hab⟩ : ∃ c, (a == b) = c := ⟨_, rfl⟩
  go_enter Tryz.func8, Tryz.ntmps8
  have hbel_0 : Below w.heap.size w w := Below.refl _ _
  go_wp2_with fail
  refine (kawake).mono ?_
  rintro e w1 ⟨rfl, hB⟩
  have hB_1 : Below w.heap.size w w1 := (bl.next hB)
  have hbel_1 := hbel_0.next hB_1
  have hsz_1 := hB_1.size
  clear hbel_0 hB_1
  try clear hB
  have hbx0 : Blk (((w1.alloc (.cells #[] 77)).alloc (.cells #[] 82)).alloc (.cells #[] 75)) (w1.heap.size) #[] := (((blk_new' w1 #[] 77 (g := w1.heap.size) (by simp)).alloc _).alloc _)
  have hbx1 : Blk (((w1.alloc (.cells #[] 77)).alloc (.cells #[] 82)).alloc (.cells #[] 75)) (w1.heap.size + 1) #[] := ((blk_new' (w1.alloc (.cells #[] 77)) #[] 82 (g := w1.heap.size + 1) (by simp)).alloc _)
  have hbx2 : Blk (((w1.alloc (.cells #[] 77)).alloc (.cells #[] 82)).alloc (.cells #[] 75)) (w1.heap.size + 1 + 1) #[] := (blk_new' ((w1.alloc (.cells #[] 77)).alloc (.cells #[] 82)) #[] 75 (g := w1.heap.size + 1 + 1) (by simp))
  have hbB : Below w1.heap.size w1 (((w1.alloc (.cells #[] 77)).alloc (.cells #[] 82)).alloc (.cells #[] 75)) := bl
  have hltN := hbx0.lt
  have hltF := hbx1.lt
  have hltO := hbx2.lt
  have hB_2 : Below w1.heap.size w1 (((w1.alloc (.cells #[] 77)).alloc (.cells #[] 82)).alloc (.cells #[] 75)) := hbB
  have hbel_2 := hbel_1.next hB_2
  have hsz_2 := hB_2.size
  clear hB_2
  have N_2 := hbx0
  clear hbx0
  have F_2 := hbx1
  clear hbx1
  have O_2 := hbx2
  clear hbx2
  clear hbB
  go_wp2_with fail
  clear hbel_1
  generalize (((w1.alloc (.cells #[] 77)).alloc (.cells #[] 82)).alloc (.cells #[] 75)) = v2 at *
  go_wp2_with fail
  refine (kintszero).mono ?_
  rintro e w3 ⟨rfl, hB⟩
  have hB_3 : Below v2.heap.size v2 w3 := (bl.next hB)
  have N_3 := N_2.next hB_3
  have F_3 := F_2.next hB_3
  have O_3 := O_2.next hB_3
  have hbel_3 := hbel_2.next hB_3
  have hsz_3 := hB_3.size
  clear N_2 F_2 O_2 hbel_2 hB_3
  try clear hB
  go_wp2_with fail
  refine (kintsone).mono ?_
  rintro e w4 ⟨rfl, hB⟩
  have hB_4 : Below w3.heap.size w3 w4 := (bl.next hB)
  have N_4 := N_3.next hB_4
  have F_4 := F_3.next hB_4
  have O_4 := O_3.next hB_4
  have hbel_4 := hbel_3.next hB_4
  have hsz_4 := hB_4.size
  clear N_3 F_3 O_3 hbel_3 hB_4
  try clear hB
  go_wp2_with fail
  refine (kintsadd a b a1 a2 b1 b2).mono ?_
  rintro e w5 ⟨rfl, hB⟩
  have hB_5 : Below w4.heap.size w4 w5 := (bl.next hB)
  have N_5 := N_4.next hB_5
  have F_5 := F_4.next hB_5
  have O_5 := O_4.next hB_5
  have hbel_5 := hbel_4.next hB_5
  have hsz_5 := hB_5.size
  clear N_4 F_4 O_4 hbel_4 hB_5
  try clear hB
  go_wp2_with fail
  refine (kintsmul a b a1 a2 b1 b2).mono ?_
  rintro e w6 ⟨rfl, hB⟩
  have hB_6 : Below w5.heap.size w5 w6 := (bl.next hB)
  have N_6 := N_5.next hB_6
  have F_6 := F_5.next hB_6
  have O_6 := O_5.next hB_6
  have hbel_6 := hbel_5.next hB_6
  have hsz_6 := hB_6.size
  clear N_5 F_5 O_5 hbel_5 hB_6
  try clear hB
  go_wp2_with fail
  refine (kintssame a b a1 a2 b1 b2).mono ?_
  rintro e w7 ⟨rfl, hB⟩
  have hB_7 : Below w6.heap.size w6 w7 := (bl.next hB)
  have N_7 := N_6.next hB_7
  have F_7 := F_6.next hB_7
  have O_7 := O_6.next hB_7
  have hbel_7 := hbel_6.next hB_7
  have hsz_7 := hB_7.size
  clear N_6 F_6 O_6 hbel_6 hB_7
  try clear hB
  go_wp2_with fail
  refine (kintssame a a a1 a2 a1 a2).mono ?_
  rintro e w8 ⟨rfl, hB⟩
  have hB_8 : Below w7.heap.size w7 w8 := (bl.next hB)
  have N_8 := N_7.next hB_8
  have F_8 := F_7.next hB_8
  have O_8 := O_7.next hB_8
  have hbel_8 := hbel_7.next hB_8
  have hsz_8 := hB_8.size
  clear N_7 F_7 O_7 hbel_7 hB_8
  try clear hB
  go_wp2_with fail
  refine (kfloatszero).mono ?_
  rintro e w9 ⟨rfl, hB⟩
  have hB_9 : Below w8.heap.size w8 w9 := (bl.next hB)
  have N_9 := N_8.next hB_9
  have F_9 := F_8.next hB_9
  have O_9 := O_8.next hB_9
  have hbel_9 := hbel_8.next hB_9
  have hsz_9 := hB_9.size
  clear N_8 F_8 O_8 hbel_8 hB_9
  try clear hB
  go_wp2_with fail
  refine (kfloatsone).mono ?_
  rintro e w10 ⟨rfl, hB⟩
  have hB_10 : Below w9.heap.size w9 w10 := (bl.next hB)
  have N_10 := N_9.next hB_10
  have F_10 := F_9.next hB_10
  have O_10 := O_9.next hB_10
  have hbel_10 := hbel_9.next hB_10
  have hsz_10 := hB_10.size
  clear N_9 F_9 O_9 hbel_9 hB_10
  try clear hB
  go_wp2_with fail
  refine (kfloatsadd_none Ha.out).mono ?_
  rintro e w11 ⟨na, hn0, rfl, hB⟩
  have hB_11 : Below w10.heap.size w10 w11 := (bl.next hB)
  have N_11 := N_10.next hB_11
  have F_11 := F_10.next hB_11
  have O_11 := O_10.next hB_11
  have hbel_11 := hbel_10.next hB_11
  have hsz_11 := hB_11.size
  clear N_10 F_10 O_10 hbel_10 hB_11
  have hna := hid hn0
  clear hn0
  try clear hB
  go_wp2_with fail
  refine (fexact_nan hna.out (nanw_nan _ _ _)).mono ?_
  rintro e w12 ⟨rfl, hB⟩
  have hB_12 : Below w11.heap.size w11 w12 := (bl.next hB)
  have N_12 := N_11.next hB_12
  have F_12 := F_11.next hB_12
  have O_12 := O_11.next hB_12
  have hbel_12 := hbel_11.next hB_12
  have hsz_12 := hB_12.size
  clear N_11 F_11 O_11 hbel_11 hB_12
  try clear hB
  go_wp2_with fail
  refine (kfloatsmul_none Hm.out).mono ?_
  rintro e w13 ⟨nm, hn0, rfl, hB⟩
  have hB_13 : Below w12.heap.size w12 w13 := (bl.next hB)
  have N_13 := N_12.next hB_13
  have F_13 := F_12.next hB_13
  have O_13 := O_12.next hB_13
  have hbel_13 := hbel_12.next hB_13
  have hsz_13 := hB_13.size
  clear N_12 F_12 O_12 hbel_12 hB_13
  have hnm := hid hn0
  clear hn0
  try clear hB
  go_wp2_with fail
  refine (fexact_nan hnm.out (nanw_nan _ _ _)).mono ?_
  rintro e w14 ⟨rfl, hB⟩
  have hB_14 : Below w13.heap.size w13 w14 := (bl.next hB)
  have N_14 := N_13.next hB_14
  have F_14 := F_13.next hB_14
  have O_14 := O_13.next hB_14
  have hbel_14 := hbel_13.next hB_14
  have hsz_14 := hB_14.size
  clear N_13 F_13 O_13 hbel_13 hB_14
  try clear hB
  go_wp2_with fail
  refine (kfloatssame x y).mono ?_
  rw [hfl.out]
  rintro e w15 ⟨rfl, hB⟩
  have hB_15 : Below w14.heap.size w14 w15 := (bl.next hB)
  have N_15 := N_14.next hB_15
  have F_15 := F_14.next hB_15
  have O_15 := O_14.next hB_15
  have hbel_15 := hbel_14.next hB_15
  have hsz_15 := hB_15.size
  clear N_14 F_14 O_14 hbel_14 hB_15
  try clear hB
  go_wp2_with fail
  refine (ffloat x y).mono ?_
  rw [hfl.out]
  rintro e w16 ⟨rfl, hB⟩
  have hB_16 : Below w15.heap.size w15 w16 := (bl.next hB)
  have N_16 := N_15.next hB_16
  have F_16 := F_15.next hB_16
  have O_16 := O_15.next hB_16
  have hbel_16 := hbel_15.next hB_16
  have hsz_16 := hB_16.size
  clear N_15 F_15 O_15 hbel_15 hB_16
  try clear hB
  go_wp2_with fail
  refine (kfloatssame x x).mono ?_
  rw [FS.out]
  rintro e w17 ⟨rfl, hB⟩
  have hB_17 : Below w16.heap.size w16 w17 := (bl.next hB)
  have N_17 := N_16.next hB_17
  have F_17 := F_16.next hB_17
  have O_17 := O_16.next hB_17
  have hbel_17 := hbel_16.next hB_17
  have hsz_17 := hB_17.size
  clear N_16 F_16 O_16 hbel_16 hB_17
  try clear hB
  go_wp2_with fail
  refine (kboolszero).mono ?_
  rintro e w18 ⟨rfl, hB⟩
  have hB_18 : Below w17.heap.size w17 w18 := (bl.next hB)
  have N_18 := N_17.next hB_18
  have F_18 := F_17.next hB_18
  have O_18 := O_17.next hB_18
  have hbel_18 := hbel_17.next hB_18
  have hsz_18 := hB_18.size
  clear N_17 F_17 O_17 hbel_17 hB_18
  try clear hB
  go_wp2_with fail
  refine (kboolsone).mono ?_
  rintro e w19 ⟨rfl, hB⟩
  have hB_19 : Below w18.heap.size w18 w19 := (bl.next hB)
  have N_19 := N_18.next hB_19
  have F_19 := F_18.next hB_19
  have O_19 := O_18.next hB_19
  have hbel_19 := hbel_18.next hB_19
  have hsz_19 := hB_19.size
  clear N_18 F_18 O_18 hbel_18 hB_19
  try clear hB
  go_wp2_with fail
  refine (kboolsadd true true).mono ?_
  rintro e w20 ⟨rfl, hB⟩
  have hB_20 : Below w19.heap.size w19 w20 := (bl.next hB)
  have N_20 := N_19.next hB_20
  have F_20 := F_19.next hB_20
  have O_20 := O_19.next hB_20
  have hbel_20 := hbel_19.next hB_20
  have hsz_20 := hB_20.size
  clear N_19 F_19 O_19 hbel_19 hB_20
  try clear hB
  go_wp2_with fail
  refine (kboolsmul true true).mono ?_
  rintro e w21 ⟨rfl, hB⟩
  have hB_21 : Below w20.heap.size w20 w21 := (bl.next hB)
  have N_21 := N_20.next hB_21
  have F_21 := F_20.next hB_21
  have O_21 := O_20.next hB_21
  have hbel_21 := hbel_20.next hB_21
  have hsz_21 := hB_21.size
  clear N_20 F_20 O_20 hbel_20 hB_21
  try clear hB
  go_wp2_with fail
  refine (kboolssame true true).mono ?_
  rintro e w22 ⟨rfl, hB⟩
  have hB_22 : Below w21.heap.size w21 w22 := (bl.next hB)
  have N_22 := N_21.next hB_22
  have F_22 := F_21.next hB_22
  have O_22 := O_21.next hB_22
  have hbel_22 := hbel_21.next hB_22
  have hsz_22 := hB_22.size
  clear N_21 F_21 O_21 hbel_21 hB_22
  try clear hB
  go_wp2
  go_ret
  exact ⟨rfl, hbel_22⟩

set_option maxRecDepth 100000 in
set_option maxHeartbeats 8000000 in
theorem ringPlain_nntf {w : World} (a b : Int) (a1 : -9223372036854775808 ≤ a) (a2 : a ≤ 9223372036854775807) (b1 : -9223372036854775808 ≤ b) (b2 : b ≤ 9223372036854775807) (x y : Nat) (ha : floatBits .add .f64 x y = none) (hm : floatBits .mul .f64 x y = none) :
    Calls Tryz.prog 8 #[.int .i64 a, .int .i64 b, .float .f64 x, .float .f64 y, .bool true, .bool false] w (fun e w' => e = .returned (.bool true) ∧ Below w.heap.size w w') := by
  have h00 : (FloatKind.f64.format.order 0 0 == some Ordering.eq) = true := by decide +kernel
  have h11 : (FloatKind.f64.format.order 4607182418800017408 4607182418800017408 == some Ordering.eq) = true := by decide +kernel
  have Ra := fun w => run_none .add (by simp) 81 ha w
  have Ha := hid ha
  clear ha
  have Rm := fun w => run_none .mul (by simp) 81 hm w
  have Hm := hid hm
  clear hm
  have FS := hid (flt_self x)
  obtain ⟨fl, hfl0⟩ : ∃ c, flt x y = c := ⟨_, rfl⟩
  have hfl := hid hfl0
  clear hfl0
  obtain ⟨ab, hab⟩ : ∃ c, (a == b) = c := ⟨_, rfl⟩
  go_enter Tryz.func8, Tryz.ntmps8
  have hbel_0 : Below w.heap.size w w := Below.refl _ _
  go_wp2_with fail
  refine (kawake).mono ?_
  rintro e w1 ⟨rfl, hB⟩
  have hB_1 : Below w.heap.size w w1 := (bl.next hB)
  have hbel_1 := hbel_0.next hB_1
  have hsz_1 := hB_1.size
  clear hbel_0 hB_1
  try clear hB
  have hbx0 : Blk (((w1.alloc (.cells #[] 77)).alloc (.cells #[] 82)).alloc (.cells #[] 75)) (w1.heap.size) #[] := (((blk_new' w1 #[] 77 (g := w1.heap.size) (by simp)).alloc _).alloc _)
  have hbx1 : Blk (((w1.alloc (.cells #[] 77)).alloc (.cells #[] 82)).alloc (.cells #[] 75)) (w1.heap.size + 1) #[] := ((blk_new' (w1.alloc (.cells #[] 77)) #[] 82 (g := w1.heap.size + 1) (by simp)).alloc _)
  have hbx2 : Blk (((w1.alloc (.cells #[] 77)).alloc (.cells #[] 82)).alloc (.cells #[] 75)) (w1.heap.size + 1 + 1) #[] := (blk_new' ((w1.alloc (.cells #[] 77)).alloc (.cells #[] 82)) #[] 75 (g := w1.heap.size + 1 + 1) (by simp))
  have hbB : Below w1.heap.size w1 (((w1.alloc (.cells #[] 77)).alloc (.cells #[] 82)).alloc (.cells #[] 75)) := bl
  have hltN := hbx0.lt
  have hltF := hbx1.lt
  have hltO := hbx2.lt
  have hB_2 : Below w1.heap.size w1 (((w1.alloc (.cells #[] 77)).alloc (.cells #[] 82)).alloc (.cells #[] 75)) := hbB
  have hbel_2 := hbel_1.next hB_2
  have hsz_2 := hB_2.size
  clear hB_2
  have N_2 := hbx0
  clear hbx0
  have F_2 := hbx1
  clear hbx1
  have O_2 := hbx2
  clear hbx2
  clear hbB
  go_wp2_with fail
  clear hbel_1
  generalize (((w1.alloc (.cells #[] 77)).alloc (.cells #[] 82)).alloc (.cells #[] 75)) = v2 at *
  go_wp2_with fail
  refine (kintszero).mono ?_
  rintro e w3 ⟨rfl, hB⟩
  have hB_3 : Below v2.heap.size v2 w3 := (bl.next hB)
  have N_3 := N_2.next hB_3
  have F_3 := F_2.next hB_3
  have O_3 := O_2.next hB_3
  have hbel_3 := hbel_2.next hB_3
  have hsz_3 := hB_3.size
  clear N_2 F_2 O_2 hbel_2 hB_3
  try clear hB
  go_wp2_with fail
  refine (kintsone).mono ?_
  rintro e w4 ⟨rfl, hB⟩
  have hB_4 : Below w3.heap.size w3 w4 := (bl.next hB)
  have N_4 := N_3.next hB_4
  have F_4 := F_3.next hB_4
  have O_4 := O_3.next hB_4
  have hbel_4 := hbel_3.next hB_4
  have hsz_4 := hB_4.size
  clear N_3 F_3 O_3 hbel_3 hB_4
  try clear hB
  go_wp2_with fail
  refine (kintsadd a b a1 a2 b1 b2).mono ?_
  rintro e w5 ⟨rfl, hB⟩
  have hB_5 : Below w4.heap.size w4 w5 := (bl.next hB)
  have N_5 := N_4.next hB_5
  have F_5 := F_4.next hB_5
  have O_5 := O_4.next hB_5
  have hbel_5 := hbel_4.next hB_5
  have hsz_5 := hB_5.size
  clear N_4 F_4 O_4 hbel_4 hB_5
  try clear hB
  go_wp2_with fail
  refine (kintsmul a b a1 a2 b1 b2).mono ?_
  rintro e w6 ⟨rfl, hB⟩
  have hB_6 : Below w5.heap.size w5 w6 := (bl.next hB)
  have N_6 := N_5.next hB_6
  have F_6 := F_5.next hB_6
  have O_6 := O_5.next hB_6
  have hbel_6 := hbel_5.next hB_6
  have hsz_6 := hB_6.size
  clear N_5 F_5 O_5 hbel_5 hB_6
  try clear hB
  go_wp2_with fail
  refine (kintssame a b a1 a2 b1 b2).mono ?_
  rintro e w7 ⟨rfl, hB⟩
  have hB_7 : Below w6.heap.size w6 w7 := (bl.next hB)
  have N_7 := N_6.next hB_7
  have F_7 := F_6.next hB_7
  have O_7 := O_6.next hB_7
  have hbel_7 := hbel_6.next hB_7
  have hsz_7 := hB_7.size
  clear N_6 F_6 O_6 hbel_6 hB_7
  try clear hB
  go_wp2_with fail
  refine (kintssame a a a1 a2 a1 a2).mono ?_
  rintro e w8 ⟨rfl, hB⟩
  have hB_8 : Below w7.heap.size w7 w8 := (bl.next hB)
  have N_8 := N_7.next hB_8
  have F_8 := F_7.next hB_8
  have O_8 := O_7.next hB_8
  have hbel_8 := hbel_7.next hB_8
  have hsz_8 := hB_8.size
  clear N_7 F_7 O_7 hbel_7 hB_8
  try clear hB
  go_wp2_with fail
  refine (kfloatszero).mono ?_
  rintro e w9 ⟨rfl, hB⟩
  have hB_9 : Below w8.heap.size w8 w9 := (bl.next hB)
  have N_9 := N_8.next hB_9
  have F_9 := F_8.next hB_9
  have O_9 := O_8.next hB_9
  have hbel_9 := hbel_8.next hB_9
  have hsz_9 := hB_9.size
  clear N_8 F_8 O_8 hbel_8 hB_9
  try clear hB
  go_wp2_with fail
  refine (kfloatsone).mono ?_
  rintro e w10 ⟨rfl, hB⟩
  have hB_10 : Below w9.heap.size w9 w10 := (bl.next hB)
  have N_10 := N_9.next hB_10
  have F_10 := F_9.next hB_10
  have O_10 := O_9.next hB_10
  have hbel_10 := hbel_9.next hB_10
  have hsz_10 := hB_10.size
  clear N_9 F_9 O_9 hbel_9 hB_10
  try clear hB
  go_wp2_with fail
  refine (kfloatsadd_none Ha.out).mono ?_
  rintro e w11 ⟨na, hn0, rfl, hB⟩
  have hB_11 : Below w10.heap.size w10 w11 := (bl.next hB)
  have N_11 := N_10.next hB_11
  have F_11 := F_10.next hB_11
  have O_11 := O_10.next hB_11
  have hbel_11 := hbel_10.next hB_11
  have hsz_11 := hB_11.size
  clear N_10 F_10 O_10 hbel_10 hB_11
  have hna := hid hn0
  clear hn0
  try clear hB
  go_wp2_with fail
  refine (fexact_nan hna.out (nanw_nan _ _ _)).mono ?_
  rintro e w12 ⟨rfl, hB⟩
  have hB_12 : Below w11.heap.size w11 w12 := (bl.next hB)
  have N_12 := N_11.next hB_12
  have F_12 := F_11.next hB_12
  have O_12 := O_11.next hB_12
  have hbel_12 := hbel_11.next hB_12
  have hsz_12 := hB_12.size
  clear N_11 F_11 O_11 hbel_11 hB_12
  try clear hB
  go_wp2_with fail
  refine (kfloatsmul_none Hm.out).mono ?_
  rintro e w13 ⟨nm, hn0, rfl, hB⟩
  have hB_13 : Below w12.heap.size w12 w13 := (bl.next hB)
  have N_13 := N_12.next hB_13
  have F_13 := F_12.next hB_13
  have O_13 := O_12.next hB_13
  have hbel_13 := hbel_12.next hB_13
  have hsz_13 := hB_13.size
  clear N_12 F_12 O_12 hbel_12 hB_13
  have hnm := hid hn0
  clear hn0
  try clear hB
  go_wp2_with fail
  refine (fexact_nan hnm.out (nanw_nan _ _ _)).mono ?_
  rintro e w14 ⟨rfl, hB⟩
  have hB_14 : Below w13.heap.size w13 w14 := (bl.next hB)
  have N_14 := N_13.next hB_14
  have F_14 := F_13.next hB_14
  have O_14 := O_13.next hB_14
  have hbel_14 := hbel_13.next hB_14
  have hsz_14 := hB_14.size
  clear N_13 F_13 O_13 hbel_13 hB_14
  try clear hB
  go_wp2_with fail
  refine (kfloatssame x y).mono ?_
  rw [hfl.out]
  rintro e w15 ⟨rfl, hB⟩
  have hB_15 : Below w14.heap.size w14 w15 := (bl.next hB)
  have N_15 := N_14.next hB_15
  have F_15 := F_14.next hB_15
  have O_15 := O_14.next hB_15
  have hbel_15 := hbel_14.next hB_15
  have hsz_15 := hB_15.size
  clear N_14 F_14 O_14 hbel_14 hB_15
  try clear hB
  go_wp2_with fail
  refine (ffloat x y).mono ?_
  rw [hfl.out]
  rintro e w16 ⟨rfl, hB⟩
  have hB_16 : Below w15.heap.size w15 w16 := (bl.next hB)
  have N_16 := N_15.next hB_16
  have F_16 := F_15.next hB_16
  have O_16 := O_15.next hB_16
  have hbel_16 := hbel_15.next hB_16
  have hsz_16 := hB_16.size
  clear N_15 F_15 O_15 hbel_15 hB_16
  try clear hB
  go_wp2_with fail
  refine (kfloatssame x x).mono ?_
  rw [FS.out]
  rintro e w17 ⟨rfl, hB⟩
  have hB_17 : Below w16.heap.size w16 w17 := (bl.next hB)
  have N_17 := N_16.next hB_17
  have F_17 := F_16.next hB_17
  have O_17 := O_16.next hB_17
  have hbel_17 := hbel_16.next hB_17
  have hsz_17 := hB_17.size
  clear N_16 F_16 O_16 hbel_16 hB_17
  try clear hB
  go_wp2_with fail
  refine (kboolszero).mono ?_
  rintro e w18 ⟨rfl, hB⟩
  have hB_18 : Below w17.heap.size w17 w18 := (bl.next hB)
  have N_18 := N_17.next hB_18
  have F_18 := F_17.next hB_18
  have O_18 := O_17.next hB_18
  have hbel_18 := hbel_17.next hB_18
  have hsz_18 := hB_18.size
  clear N_17 F_17 O_17 hbel_17 hB_18
  try clear hB
  go_wp2_with fail
  refine (kboolsone).mono ?_
  rintro e w19 ⟨rfl, hB⟩
  have hB_19 : Below w18.heap.size w18 w19 := (bl.next hB)
  have N_19 := N_18.next hB_19
  have F_19 := F_18.next hB_19
  have O_19 := O_18.next hB_19
  have hbel_19 := hbel_18.next hB_19
  have hsz_19 := hB_19.size
  clear N_18 F_18 O_18 hbel_18 hB_19
  try clear hB
  go_wp2_with fail
  refine (kboolsadd true false).mono ?_
  rintro e w20 ⟨rfl, hB⟩
  have hB_20 : Below w19.heap.size w19 w20 := (bl.next hB)
  have N_20 := N_19.next hB_20
  have F_20 := F_19.next hB_20
  have O_20 := O_19.next hB_20
  have hbel_20 := hbel_19.next hB_20
  have hsz_20 := hB_20.size
  clear N_19 F_19 O_19 hbel_19 hB_20
  try clear hB
  go_wp2_with fail
  refine (kboolsmul true false).mono ?_
  rintro e w21 ⟨rfl, hB⟩
  have hB_21 : Below w20.heap.size w20 w21 := (bl.next hB)
  have N_21 := N_20.next hB_21
  have F_21 := F_20.next hB_21
  have O_21 := O_20.next hB_21
  have hbel_21 := hbel_20.next hB_21
  have hsz_21 := hB_21.size
  clear N_20 F_20 O_20 hbel_20 hB_21
  try clear hB
  go_wp2_with fail
  refine (kboolssame true false).mono ?_
  rintro e w22 ⟨rfl, hB⟩
  have hB_22 : Below w21.heap.size w21 w22 := (bl.next hB)
  have N_22 := N_21.next hB_22
  have F_22 := F_21.next hB_22
  have O_22 := O_21.next hB_22
  have hbel_22 := hbel_21.next hB_22
  have hsz_22 := hB_22.size
  clear N_21 F_21 O_21 hbel_21 hB_22
  try clear hB
  go_wp2
  go_ret
  exact ⟨rfl, hbel_22⟩

set_option maxRecDepth 100000 in
set_option maxHeartbeats 8000000 in
theorem ringPlain_nnft {w : World} (a b : Int) (a1 : -9223372036854775808 ≤ a) (a2 : a ≤ 9223372036854775807) (b1 : -9223372036854775808 ≤ b) (b2 : b ≤ 9223372036854775807) (x y : Nat) (ha : floatBits .add .f64 x y = none) (hm : floatBits .mul .f64 x y = none) :
    Calls Tryz.prog 8 #[.int .i64 a, .int .i64 b, .float .f64 x, .float .f64 y, .bool false, .bool true] w (fun e w' => e = .returned (.bool true) ∧ Below w.heap.size w w') := by
  have h00 : (FloatKind.f64.format.order 0 0 == some Ordering.eq) = true := by decide +kernel
  have h11 : (FloatKind.f64.format.order 4607182418800017408 4607182418800017408 == some Ordering.eq) = true := by decide +kernel
  have Ra := fun w => run_none .add (by simp) 81 ha w
  have Ha := hid ha
  clear ha
  have Rm := fun w => run_none .mul (by simp) 81 hm w
  have Hm := hid hm
  clear hm
  have FS := hid (flt_self x)
  obtain ⟨fl, hfl0⟩ : ∃ c, flt x y = c := ⟨_, rfl⟩
  have hfl := hid hfl0
  clear hfl0
  obtain ⟨ab, hab⟩ : ∃ c, (a == b) = c := ⟨_, rfl⟩
  go_enter Tryz.func8, Tryz.ntmps8
  have hbel_0 : Below w.heap.size w w := Below.refl _ _
  go_wp2_with fail
  refine (kawake).mono ?_
  rintro e w1 ⟨rfl, hB⟩
  have hB_1 : Below w.heap.size w w1 := (bl.next hB)
  have hbel_1 := hbel_0.next hB_1
  have hsz_1 := hB_1.size
  clear hbel_0 hB_1
  try clear hB
  have hbx0 : Blk (((w1.alloc (.cells #[] 77)).alloc (.cells #[] 82)).alloc (.cells #[] 75)) (w1.heap.size) #[] := (((blk_new' w1 #[] 77 (g := w1.heap.size) (by simp)).alloc _).alloc _)
  have hbx1 : Blk (((w1.alloc (.cells #[] 77)).alloc (.cells #[] 82)).alloc (.cells #[] 75)) (w1.heap.size + 1) #[] := ((blk_new' (w1.alloc (.cells #[] 77)) #[] 82 (g := w1.heap.size + 1) (by simp)).alloc _)
  have hbx2 : Blk (((w1.alloc (.cells #[] 77)).alloc (.cells #[] 82)).alloc (.cells #[] 75)) (w1.heap.size + 1 + 1) #[] := (blk_new' ((w1.alloc (.cells #[] 77)).alloc (.cells #[] 82)) #[] 75 (g := w1.heap.size + 1 + 1) (by simp))
  have hbB : Below w1.heap.size w1 (((w1.alloc (.cells #[] 77)).alloc (.cells #[] 82)).alloc (.cells #[] 75)) := bl
  have hltN := hbx0.lt
  have hltF := hbx1.lt
  have hltO := hbx2.lt
  have hB_2 : Below w1.heap.size w1 (((w1.alloc (.cells #[] 77)).alloc (.cells #[] 82)).alloc (.cells #[] 75)) := hbB
  have hbel_2 := hbel_1.next hB_2
  have hsz_2 := hB_2.size
  clear hB_2
  have N_2 := hbx0
  clear hbx0
  have F_2 := hbx1
  clear hbx1
  have O_2 := hbx2
  clear hbx2
  clear hbB
  go_wp2_with fail
  clear hbel_1
  generalize (((w1.alloc (.cells #[] 77)).alloc (.cells #[] 82)).alloc (.cells #[] 75)) = v2 at *
  go_wp2_with fail
  refine (kintszero).mono ?_
  rintro e w3 ⟨rfl, hB⟩
  have hB_3 : Below v2.heap.size v2 w3 := (bl.next hB)
  have N_3 := N_2.next hB_3
  have F_3 := F_2.next hB_3
  have O_3 := O_2.next hB_3
  have hbel_3 := hbel_2.next hB_3
  have hsz_3 := hB_3.size
  clear N_2 F_2 O_2 hbel_2 hB_3
  try clear hB
  go_wp2_with fail
  refine (kintsone).mono ?_
  rintro e w4 ⟨rfl, hB⟩
  have hB_4 : Below w3.heap.size w3 w4 := (bl.next hB)
  have N_4 := N_3.next hB_4
  have F_4 := F_3.next hB_4
  have O_4 := O_3.next hB_4
  have hbel_4 := hbel_3.next hB_4
  have hsz_4 := hB_4.size
  clear N_3 F_3 O_3 hbel_3 hB_4
  try clear hB
  go_wp2_with fail
  refine (kintsadd a b a1 a2 b1 b2).mono ?_
  rintro e w5 ⟨rfl, hB⟩
  have hB_5 : Below w4.heap.size w4 w5 := (bl.next hB)
  have N_5 := N_4.next hB_5
  have F_5 := F_4.next hB_5
  have O_5 := O_4.next hB_5
  have hbel_5 := hbel_4.next hB_5
  have hsz_5 := hB_5.size
  clear N_4 F_4 O_4 hbel_4 hB_5
  try clear hB
  go_wp2_with fail
  refine (kintsmul a b a1 a2 b1 b2).mono ?_
  rintro e w6 ⟨rfl, hB⟩
  have hB_6 : Below w5.heap.size w5 w6 := (bl.next hB)
  have N_6 := N_5.next hB_6
  have F_6 := F_5.next hB_6
  have O_6 := O_5.next hB_6
  have hbel_6 := hbel_5.next hB_6
  have hsz_6 := hB_6.size
  clear N_5 F_5 O_5 hbel_5 hB_6
  try clear hB
  go_wp2_with fail
  refine (kintssame a b a1 a2 b1 b2).mono ?_
  rintro e w7 ⟨rfl, hB⟩
  have hB_7 : Below w6.heap.size w6 w7 := (bl.next hB)
  have N_7 := N_6.next hB_7
  have F_7 := F_6.next hB_7
  have O_7 := O_6.next hB_7
  have hbel_7 := hbel_6.next hB_7
  have hsz_7 := hB_7.size
  clear N_6 F_6 O_6 hbel_6 hB_7
  try clear hB
  go_wp2_with fail
  refine (kintssame a a a1 a2 a1 a2).mono ?_
  rintro e w8 ⟨rfl, hB⟩
  have hB_8 : Below w7.heap.size w7 w8 := (bl.next hB)
  have N_8 := N_7.next hB_8
  have F_8 := F_7.next hB_8
  have O_8 := O_7.next hB_8
  have hbel_8 := hbel_7.next hB_8
  have hsz_8 := hB_8.size
  clear N_7 F_7 O_7 hbel_7 hB_8
  try clear hB
  go_wp2_with fail
  refine (kfloatszero).mono ?_
  rintro e w9 ⟨rfl, hB⟩
  have hB_9 : Below w8.heap.size w8 w9 := (bl.next hB)
  have N_9 := N_8.next hB_9
  have F_9 := F_8.next hB_9
  have O_9 := O_8.next hB_9
  have hbel_9 := hbel_8.next hB_9
  have hsz_9 := hB_9.size
  clear N_8 F_8 O_8 hbel_8 hB_9
  try clear hB
  go_wp2_with fail
  refine (kfloatsone).mono ?_
  rintro e w10 ⟨rfl, hB⟩
  have hB_10 : Below w9.heap.size w9 w10 := (bl.next hB)
  have N_10 := N_9.next hB_10
  have F_10 := F_9.next hB_10
  have O_10 := O_9.next hB_10
  have hbel_10 := hbel_9.next hB_10
  have hsz_10 := hB_10.size
  clear N_9 F_9 O_9 hbel_9 hB_10
  try clear hB
  go_wp2_with fail
  refine (kfloatsadd_none Ha.out).mono ?_
  rintro e w11 ⟨na, hn0, rfl, hB⟩
  have hB_11 : Below w10.heap.size w10 w11 := (bl.next hB)
  have N_11 := N_10.next hB_11
  have F_11 := F_10.next hB_11
  have O_11 := O_10.next hB_11
  have hbel_11 := hbel_10.next hB_11
  have hsz_11 := hB_11.size
  clear N_10 F_10 O_10 hbel_10 hB_11
  have hna := hid hn0
  clear hn0
  try clear hB
  go_wp2_with fail
  refine (fexact_nan hna.out (nanw_nan _ _ _)).mono ?_
  rintro e w12 ⟨rfl, hB⟩
  have hB_12 : Below w11.heap.size w11 w12 := (bl.next hB)
  have N_12 := N_11.next hB_12
  have F_12 := F_11.next hB_12
  have O_12 := O_11.next hB_12
  have hbel_12 := hbel_11.next hB_12
  have hsz_12 := hB_12.size
  clear N_11 F_11 O_11 hbel_11 hB_12
  try clear hB
  go_wp2_with fail
  refine (kfloatsmul_none Hm.out).mono ?_
  rintro e w13 ⟨nm, hn0, rfl, hB⟩
  have hB_13 : Below w12.heap.size w12 w13 := (bl.next hB)
  have N_13 := N_12.next hB_13
  have F_13 := F_12.next hB_13
  have O_13 := O_12.next hB_13
  have hbel_13 := hbel_12.next hB_13
  have hsz_13 := hB_13.size
  clear N_12 F_12 O_12 hbel_12 hB_13
  have hnm := hid hn0
  clear hn0
  try clear hB
  go_wp2_with fail
  refine (fexact_nan hnm.out (nanw_nan _ _ _)).mono ?_
  rintro e w14 ⟨rfl, hB⟩
  have hB_14 : Below w13.heap.size w13 w14 := (bl.next hB)
  have N_14 := N_13.next hB_14
  have F_14 := F_13.next hB_14
  have O_14 := O_13.next hB_14
  have hbel_14 := hbel_13.next hB_14
  have hsz_14 := hB_14.size
  clear N_13 F_13 O_13 hbel_13 hB_14
  try clear hB
  go_wp2_with fail
  refine (kfloatssame x y).mono ?_
  rw [hfl.out]
  rintro e w15 ⟨rfl, hB⟩
  have hB_15 : Below w14.heap.size w14 w15 := (bl.next hB)
  have N_15 := N_14.next hB_15
  have F_15 := F_14.next hB_15
  have O_15 := O_14.next hB_15
  have hbel_15 := hbel_14.next hB_15
  have hsz_15 := hB_15.size
  clear N_14 F_14 O_14 hbel_14 hB_15
  try clear hB
  go_wp2_with fail
  refine (ffloat x y).mono ?_
  rw [hfl.out]
  rintro e w16 ⟨rfl, hB⟩
  have hB_16 : Below w15.heap.size w15 w16 := (bl.next hB)
  have N_16 := N_15.next hB_16
  have F_16 := F_15.next hB_16
  have O_16 := O_15.next hB_16
  have hbel_16 := hbel_15.next hB_16
  have hsz_16 := hB_16.size
  clear N_15 F_15 O_15 hbel_15 hB_16
  try clear hB
  go_wp2_with fail
  refine (kfloatssame x x).mono ?_
  rw [FS.out]
  rintro e w17 ⟨rfl, hB⟩
  have hB_17 : Below w16.heap.size w16 w17 := (bl.next hB)
  have N_17 := N_16.next hB_17
  have F_17 := F_16.next hB_17
  have O_17 := O_16.next hB_17
  have hbel_17 := hbel_16.next hB_17
  have hsz_17 := hB_17.size
  clear N_16 F_16 O_16 hbel_16 hB_17
  try clear hB
  go_wp2_with fail
  refine (kboolszero).mono ?_
  rintro e w18 ⟨rfl, hB⟩
  have hB_18 : Below w17.heap.size w17 w18 := (bl.next hB)
  have N_18 := N_17.next hB_18
  have F_18 := F_17.next hB_18
  have O_18 := O_17.next hB_18
  have hbel_18 := hbel_17.next hB_18
  have hsz_18 := hB_18.size
  clear N_17 F_17 O_17 hbel_17 hB_18
  try clear hB
  go_wp2_with fail
  refine (kboolsone).mono ?_
  rintro e w19 ⟨rfl, hB⟩
  have hB_19 : Below w18.heap.size w18 w19 := (bl.next hB)
  have N_19 := N_18.next hB_19
  have F_19 := F_18.next hB_19
  have O_19 := O_18.next hB_19
  have hbel_19 := hbel_18.next hB_19
  have hsz_19 := hB_19.size
  clear N_18 F_18 O_18 hbel_18 hB_19
  try clear hB
  go_wp2_with fail
  refine (kboolsadd false true).mono ?_
  rintro e w20 ⟨rfl, hB⟩
  have hB_20 : Below w19.heap.size w19 w20 := (bl.next hB)
  have N_20 := N_19.next hB_20
  have F_20 := F_19.next hB_20
  have O_20 := O_19.next hB_20
  have hbel_20 := hbel_19.next hB_20
  have hsz_20 := hB_20.size
  clear N_19 F_19 O_19 hbel_19 hB_20
  try clear hB
  go_wp2_with fail
  refine (kboolsmul false true).mono ?_
  rintro e w21 ⟨rfl, hB⟩
  have hB_21 : Below w20.heap.size w20 w21 := (bl.next hB)
  have N_21 := N_20.next hB_21
  have F_21 := F_20.next hB_21
  have O_21 := O_20.next hB_21
  have hbel_21 := hbel_20.next hB_21
  have hsz_21 := hB_21.size
  clear N_20 F_20 O_20 hbel_20 hB_21
  try clear hB
  go_wp2_with fail
  refine (kboolssame false true).mono ?_
  rintro e w22 ⟨rfl, hB⟩
  have hB_22 : Below w21.heap.size w21 w22 := (bl.next hB)
  have N_22 := N_21.next hB_22
  have F_22 := F_21.next hB_22
  have O_22 := O_21.next hB_22
  have hbel_22 := hbel_21.next hB_22
  have hsz_22 := hB_22.size
  clear N_21 F_21 O_21 hbel_21 hB_22
  try clear hB
  go_wp2
  go_ret
  exact ⟨rfl, hbel_22⟩

set_option maxRecDepth 100000 in
set_option maxHeartbeats 8000000 in
theorem ringPlain_nnff {w : World} (a b : Int) (a1 : -9223372036854775808 ≤ a) (a2 : a ≤ 9223372036854775807) (b1 : -9223372036854775808 ≤ b) (b2 : b ≤ 9223372036854775807) (x y : Nat) (ha : floatBits .add .f64 x y = none) (hm : floatBits .mul .f64 x y = none) :
    Calls Tryz.prog 8 #[.int .i64 a, .int .i64 b, .float .f64 x, .float .f64 y, .bool false, .bool false] w (fun e w' => e = .returned (.bool true) ∧ Below w.heap.size w w') := by
  have h00 : (FloatKind.f64.format.order 0 0 == some Ordering.eq) = true := by decide +kernel
  have h11 : (FloatKind.f64.format.order 4607182418800017408 4607182418800017408 == some Ordering.eq) = true := by decide +kernel
  have Ra := fun w => run_none .add (by simp) 81 ha w
  have Ha := hid ha
  clear ha
  have Rm := fun w => run_none .mul (by simp) 81 hm w
  have Hm := hid hm
  clear hm
  have FS := hid (flt_self x)
  obtain ⟨fl, hfl0⟩ : ∃ c, flt x y = c := ⟨_, rfl⟩
  have hfl := hid hfl0
  clear hfl0
  obtain ⟨ab, hab⟩ : ∃ c, (a == b) = c := ⟨_, rfl⟩
  go_enter Tryz.func8, Tryz.ntmps8
  have hbel_0 : Below w.heap.size w w := Below.refl _ _
  go_wp2_with fail
  refine (kawake).mono ?_
  rintro e w1 ⟨rfl, hB⟩
  have hB_1 : Below w.heap.size w w1 := (bl.next hB)
  have hbel_1 := hbel_0.next hB_1
  have hsz_1 := hB_1.size
  clear hbel_0 hB_1
  try clear hB
  have hbx0 : Blk (((w1.alloc (.cells #[] 77)).alloc (.cells #[] 82)).alloc (.cells #[] 75)) (w1.heap.size) #[] := (((blk_new' w1 #[] 77 (g := w1.heap.size) (by simp)).alloc _).alloc _)
  have hbx1 : Blk (((w1.alloc (.cells #[] 77)).alloc (.cells #[] 82)).alloc (.cells #[] 75)) (w1.heap.size + 1) #[] := ((blk_new' (w1.alloc (.cells #[] 77)) #[] 82 (g := w1.heap.size + 1) (by simp)).alloc _)
  have hbx2 : Blk (((w1.alloc (.cells #[] 77)).alloc (.cells #[] 82)).alloc (.cells #[] 75)) (w1.heap.size + 1 + 1) #[] := (blk_new' ((w1.alloc (.cells #[] 77)).alloc (.cells #[] 82)) #[] 75 (g := w1.heap.size + 1 + 1) (by simp))
  have hbB : Below w1.heap.size w1 (((w1.alloc (.cells #[] 77)).alloc (.cells #[] 82)).alloc (.cells #[] 75)) := bl
  have hltN := hbx0.lt
  have hltF := hbx1.lt
  have hltO := hbx2.lt
  have hB_2 : Below w1.heap.size w1 (((w1.alloc (.cells #[] 77)).alloc (.cells #[] 82)).alloc (.cells #[] 75)) := hbB
  have hbel_2 := hbel_1.next hB_2
  have hsz_2 := hB_2.size
  clear hB_2
  have N_2 := hbx0
  clear hbx0
  have F_2 := hbx1
  clear hbx1
  have O_2 := hbx2
  clear hbx2
  clear hbB
  go_wp2_with fail
  clear hbel_1
  generalize (((w1.alloc (.cells #[] 77)).alloc (.cells #[] 82)).alloc (.cells #[] 75)) = v2 at *
  go_wp2_with fail
  refine (kintszero).mono ?_
  rintro e w3 ⟨rfl, hB⟩
  have hB_3 : Below v2.heap.size v2 w3 := (bl.next hB)
  have N_3 := N_2.next hB_3
  have F_3 := F_2.next hB_3
  have O_3 := O_2.next hB_3
  have hbel_3 := hbel_2.next hB_3
  have hsz_3 := hB_3.size
  clear N_2 F_2 O_2 hbel_2 hB_3
  try clear hB
  go_wp2_with fail
  refine (kintsone).mono ?_
  rintro e w4 ⟨rfl, hB⟩
  have hB_4 : Below w3.heap.size w3 w4 := (bl.next hB)
  have N_4 := N_3.next hB_4
  have F_4 := F_3.next hB_4
  have O_4 := O_3.next hB_4
  have hbel_4 := hbel_3.next hB_4
  have hsz_4 := hB_4.size
  clear N_3 F_3 O_3 hbel_3 hB_4
  try clear hB
  go_wp2_with fail
  refine (kintsadd a b a1 a2 b1 b2).mono ?_
  rintro e w5 ⟨rfl, hB⟩
  have hB_5 : Below w4.heap.size w4 w5 := (bl.next hB)
  have N_5 := N_4.next hB_5
  have F_5 := F_4.next hB_5
  have O_5 := O_4.next hB_5
  have hbel_5 := hbel_4.next hB_5
  have hsz_5 := hB_5.size
  clear N_4 F_4 O_4 hbel_4 hB_5
  try clear hB
  go_wp2_with fail
  refine (kintsmul a b a1 a2 b1 b2).mono ?_
  rintro e w6 ⟨rfl, hB⟩
  have hB_6 : Below w5.heap.size w5 w6 := (bl.next hB)
  have N_6 := N_5.next hB_6
  have F_6 := F_5.next hB_6
  have O_6 := O_5.next hB_6
  have hbel_6 := hbel_5.next hB_6
  have hsz_6 := hB_6.size
  clear N_5 F_5 O_5 hbel_5 hB_6
  try clear hB
  go_wp2_with fail
  refine (kintssame a b a1 a2 b1 b2).mono ?_
  rintro e w7 ⟨rfl, hB⟩
  have hB_7 : Below w6.heap.size w6 w7 := (bl.next hB)
  have N_7 := N_6.next hB_7
  have F_7 := F_6.next hB_7
  have O_7 := O_6.next hB_7
  have hbel_7 := hbel_6.next hB_7
  have hsz_7 := hB_7.size
  clear N_6 F_6 O_6 hbel_6 hB_7
  try clear hB
  go_wp2_with fail
  refine (kintssame a a a1 a2 a1 a2).mono ?_
  rintro e w8 ⟨rfl, hB⟩
  have hB_8 : Below w7.heap.size w7 w8 := (bl.next hB)
  have N_8 := N_7.next hB_8
  have F_8 := F_7.next hB_8
  have O_8 := O_7.next hB_8
  have hbel_8 := hbel_7.next hB_8
  have hsz_8 := hB_8.size
  clear N_7 F_7 O_7 hbel_7 hB_8
  try clear hB
  go_wp2_with fail
  refine (kfloatszero).mono ?_
  rintro e w9 ⟨rfl, hB⟩
  have hB_9 : Below w8.heap.size w8 w9 := (bl.next hB)
  have N_9 := N_8.next hB_9
  have F_9 := F_8.next hB_9
  have O_9 := O_8.next hB_9
  have hbel_9 := hbel_8.next hB_9
  have hsz_9 := hB_9.size
  clear N_8 F_8 O_8 hbel_8 hB_9
  try clear hB
  go_wp2_with fail
  refine (kfloatsone).mono ?_
  rintro e w10 ⟨rfl, hB⟩
  have hB_10 : Below w9.heap.size w9 w10 := (bl.next hB)
  have N_10 := N_9.next hB_10
  have F_10 := F_9.next hB_10
  have O_10 := O_9.next hB_10
  have hbel_10 := hbel_9.next hB_10
  have hsz_10 := hB_10.size
  clear N_9 F_9 O_9 hbel_9 hB_10
  try clear hB
  go_wp2_with fail
  refine (kfloatsadd_none Ha.out).mono ?_
  rintro e w11 ⟨na, hn0, rfl, hB⟩
  have hB_11 : Below w10.heap.size w10 w11 := (bl.next hB)
  have N_11 := N_10.next hB_11
  have F_11 := F_10.next hB_11
  have O_11 := O_10.next hB_11
  have hbel_11 := hbel_10.next hB_11
  have hsz_11 := hB_11.size
  clear N_10 F_10 O_10 hbel_10 hB_11
  have hna := hid hn0
  clear hn0
  try clear hB
  go_wp2_with fail
  refine (fexact_nan hna.out (nanw_nan _ _ _)).mono ?_
  rintro e w12 ⟨rfl, hB⟩
  have hB_12 : Below w11.heap.size w11 w12 := (bl.next hB)
  have N_12 := N_11.next hB_12
  have F_12 := F_11.next hB_12
  have O_12 := O_11.next hB_12
  have hbel_12 := hbel_11.next hB_12
  have hsz_12 := hB_12.size
  clear N_11 F_11 O_11 hbel_11 hB_12
  try clear hB
  go_wp2_with fail
  refine (kfloatsmul_none Hm.out).mono ?_
  rintro e w13 ⟨nm, hn0, rfl, hB⟩
  have hB_13 : Below w12.heap.size w12 w13 := (bl.next hB)
  have N_13 := N_12.next hB_13
  have F_13 := F_12.next hB_13
  have O_13 := O_12.next hB_13
  have hbel_13 := hbel_12.next hB_13
  have hsz_13 := hB_13.size
  clear N_12 F_12 O_12 hbel_12 hB_13
  have hnm := hid hn0
  clear hn0
  try clear hB
  go_wp2_with fail
  refine (fexact_nan hnm.out (nanw_nan _ _ _)).mono ?_
  rintro e w14 ⟨rfl, hB⟩
  have hB_14 : Below w13.heap.size w13 w14 := (bl.next hB)
  have N_14 := N_13.next hB_14
  have F_14 := F_13.next hB_14
  have O_14 := O_13.next hB_14
  have hbel_14 := hbel_13.next hB_14
  have hsz_14 := hB_14.size
  clear N_13 F_13 O_13 hbel_13 hB_14
  try clear hB
  go_wp2_with fail
  refine (kfloatssame x y).mono ?_
  rw [hfl.out]
  rintro e w15 ⟨rfl, hB⟩
  have hB_15 : Below w14.heap.size w14 w15 := (bl.next hB)
  have N_15 := N_14.next hB_15
  have F_15 := F_14.next hB_15
  have O_15 := O_14.next hB_15
  have hbel_15 := hbel_14.next hB_15
  have hsz_15 := hB_15.size
  clear N_14 F_14 O_14 hbel_14 hB_15
  try clear hB
  go_wp2_with fail
  refine (ffloat x y).mono ?_
  rw [hfl.out]
  rintro e w16 ⟨rfl, hB⟩
  have hB_16 : Below w15.heap.size w15 w16 := (bl.next hB)
  have N_16 := N_15.next hB_16
  have F_16 := F_15.next hB_16
  have O_16 := O_15.next hB_16
  have hbel_16 := hbel_15.next hB_16
  have hsz_16 := hB_16.size
  clear N_15 F_15 O_15 hbel_15 hB_16
  try clear hB
  go_wp2_with fail
  refine (kfloatssame x x).mono ?_
  rw [FS.out]
  rintro e w17 ⟨rfl, hB⟩
  have hB_17 : Below w16.heap.size w16 w17 := (bl.next hB)
  have N_17 := N_16.next hB_17
  have F_17 := F_16.next hB_17
  have O_17 := O_16.next hB_17
  have hbel_17 := hbel_16.next hB_17
  have hsz_17 := hB_17.size
  clear N_16 F_16 O_16 hbel_16 hB_17
  try clear hB
  go_wp2_with fail
  refine (kboolszero).mono ?_
  rintro e w18 ⟨rfl, hB⟩
  have hB_18 : Below w17.heap.size w17 w18 := (bl.next hB)
  have N_18 := N_17.next hB_18
  have F_18 := F_17.next hB_18
  have O_18 := O_17.next hB_18
  have hbel_18 := hbel_17.next hB_18
  have hsz_18 := hB_18.size
  clear N_17 F_17 O_17 hbel_17 hB_18
  try clear hB
  go_wp2_with fail
  refine (kboolsone).mono ?_
  rintro e w19 ⟨rfl, hB⟩
  have hB_19 : Below w18.heap.size w18 w19 := (bl.next hB)
  have N_19 := N_18.next hB_19
  have F_19 := F_18.next hB_19
  have O_19 := O_18.next hB_19
  have hbel_19 := hbel_18.next hB_19
  have hsz_19 := hB_19.size
  clear N_18 F_18 O_18 hbel_18 hB_19
  try clear hB
  go_wp2_with fail
  refine (kboolsadd false false).mono ?_
  rintro e w20 ⟨rfl, hB⟩
  have hB_20 : Below w19.heap.size w19 w20 := (bl.next hB)
  have N_20 := N_19.next hB_20
  have F_20 := F_19.next hB_20
  have O_20 := O_19.next hB_20
  have hbel_20 := hbel_19.next hB_20
  have hsz_20 := hB_20.size
  clear N_19 F_19 O_19 hbel_19 hB_20
  try clear hB
  go_wp2_with fail
  refine (kboolsmul false false).mono ?_
  rintro e w21 ⟨rfl, hB⟩
  have hB_21 : Below w20.heap.size w20 w21 := (bl.next hB)
  have N_21 := N_20.next hB_21
  have F_21 := F_20.next hB_21
  have O_21 := O_20.next hB_21
  have hbel_21 := hbel_20.next hB_21
  have hsz_21 := hB_21.size
  clear N_20 F_20 O_20 hbel_20 hB_21
  try clear hB
  go_wp2_with fail
  refine (kboolssame false false).mono ?_
  rintro e w22 ⟨rfl, hB⟩
  have hB_22 : Below w21.heap.size w21 w22 := (bl.next hB)
  have N_22 := N_21.next hB_22
  have F_22 := F_21.next hB_22
  have O_22 := O_21.next hB_22
  have hbel_22 := hbel_21.next hB_22
  have hsz_22 := hB_22.size
  clear N_21 F_21 O_21 hbel_21 hB_22
  try clear hB
  go_wp2
  go_ret
  exact ⟨rfl, hbel_22⟩

theorem ringPlain_walk {w : World} (a : Int) (a1 : -9223372036854775808 ≤ a) (a2 : a ≤ 9223372036854775807) (b : Int) (b1 : -9223372036854775808 ≤ b) (b2 : b ≤ 9223372036854775807) (x : Nat) (hx : x < 18446744073709551616) (y : Nat) (hy : y < 18446744073709551616) (p q : Bool) : Calls Tryz.prog 8 #[.int .i64 a, .int .i64 b, .float .f64 x, .float .f64 y, .bool p, .bool q] w (fun e w' => e = .returned (.bool true) ∧ Below w.heap.size w w') := by
  cases ha : floatBits .add .f64 x y <;> cases hm : floatBits .mul .f64 x y <;> cases p <;> cases q
  · exact ringPlain_nnff a b a1 a2 b1 b2 x y ha hm
  · exact ringPlain_nnft a b a1 a2 b1 b2 x y ha hm
  · exact ringPlain_nntf a b a1 a2 b1 b2 x y ha hm
  · exact ringPlain_nntt a b a1 a2 b1 b2 x y ha hm
  · exact ringPlain_nsff a b a1 a2 b1 b2 x y ha hm
  · exact ringPlain_nsft a b a1 a2 b1 b2 x y ha hm
  · exact ringPlain_nstf a b a1 a2 b1 b2 x y ha hm
  · exact ringPlain_nstt a b a1 a2 b1 b2 x y ha hm
  · exact ringPlain_snff a b a1 a2 b1 b2 x y ha hm
  · exact ringPlain_snft a b a1 a2 b1 b2 x y ha hm
  · exact ringPlain_sntf a b a1 a2 b1 b2 x y ha hm
  · exact ringPlain_sntt a b a1 a2 b1 b2 x y ha hm
  · exact ringPlain_ssff a b a1 a2 b1 b2 x y ha hm
  · exact ringPlain_ssft a b a1 a2 b1 b2 x y ha hm
  · exact ringPlain_sstf a b a1 a2 b1 b2 x y ha hm
  · exact ringPlain_sstt a b a1 a2 b1 b2 x y ha hm
end Go.Proofs.YtgddnmmllchndaaGreat
