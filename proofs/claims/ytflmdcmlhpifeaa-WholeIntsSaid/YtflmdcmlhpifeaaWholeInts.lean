/- THE WALK OF credencelaw02.WholeInts: of ints of 32 bits all is Go's. -/
import Derived.Test.YtflmdcmlhpifeaaZo
namespace Go.Proofs.Ytflmdcmlhpifeaa
set_option linter.unusedVariables false
set_option linter.unusedSimpArgs false
open Go.ChangeShapes Go.WideShapes Go.ChangeAt Go.RowKit Go.NatP

theorem wf_bounds_i32 {a : Int} (h : (Lit.int .i32 a).wf = true) : -2147483648 ≤ a ∧ a ≤ 2147483647 := by
  simp [Lit.wf] at h
  have h1 : IntKind.i32.min = -2147483648 := by decide
  have h2 : IntKind.i32.max = 2147483647 := by decide
  omega
theorem tdiv_zv (x y : Int) : zv (!(decide (x < 0) == decide (y < 0))) (x.natAbs / y.natAbs) = x.tdiv y := by
  rcases Int.lt_or_le x 0 with hx | hx <;> rcases Int.lt_or_le y 0 with hy | hy
  · rw [decide_eq_true hx, decide_eq_true hy]
    obtain ⟨a, rfl⟩ : ∃ a : Nat, x = -(a : Int) := ⟨x.natAbs, by omega⟩
    obtain ⟨b, rfl⟩ : ∃ b : Nat, y = -(b : Int) := ⟨y.natAbs, by omega⟩
    rw [Int.neg_tdiv_neg, ← Int.ofNat_tdiv]; simp [zv]
  · rw [decide_eq_true hx, decide_eq_false (show ¬ y < 0 by omega)]
    obtain ⟨a, rfl⟩ : ∃ a : Nat, x = -(a : Int) := ⟨x.natAbs, by omega⟩
    obtain ⟨b, rfl⟩ : ∃ b : Nat, y = (b : Int) := ⟨y.natAbs, by omega⟩
    rw [Int.neg_tdiv, ← Int.ofNat_tdiv]; simp [zv]
  · rw [decide_eq_false (show ¬ x < 0 by omega), decide_eq_true hy]
    obtain ⟨a, rfl⟩ : ∃ a : Nat, x = (a : Int) := ⟨x.natAbs, by omega⟩
    obtain ⟨b, rfl⟩ : ∃ b : Nat, y = -(b : Int) := ⟨y.natAbs, by omega⟩
    rw [Int.tdiv_neg, ← Int.ofNat_tdiv]; simp [zv]
  · rw [decide_eq_false (show ¬ x < 0 by omega), decide_eq_false (show ¬ y < 0 by omega)]
    obtain ⟨a, rfl⟩ : ∃ a : Nat, x = (a : Int) := ⟨x.natAbs, by omega⟩
    obtain ⟨b, rfl⟩ : ∃ b : Nat, y = (b : Int) := ⟨y.natAbs, by omega⟩
    rw [← Int.ofNat_tdiv]; simp [zv]
theorem tmod_zv (x y : Int) : zv (decide (x < 0)) (x.natAbs % y.natAbs) = x.tmod y := by
  have e : x.tmod y = x.tmod y.natAbs := by
    rcases Int.lt_or_le y 0 with hy | hy
    · obtain ⟨b, rfl⟩ : ∃ b : Nat, y = -(b : Int) := ⟨y.natAbs, by omega⟩
      rw [Int.tmod_neg]; simp
    · rw [show ((y.natAbs : Nat) : Int) = y by omega]
  rw [e]
  rcases Int.lt_or_le x 0 with hx | hx
  · rw [decide_eq_true hx]
    obtain ⟨a, rfl⟩ : ∃ a : Nat, x = -(a : Int) := ⟨x.natAbs, by omega⟩
    rw [Int.neg_tmod, ← Int.ofNat_tmod]; simp [zv]
  · rw [decide_eq_false (show ¬ x < 0 by omega)]
    obtain ⟨a, rfl⟩ : ∃ a : Nat, x = (a : Int) := ⟨x.natAbs, by omega⟩
    rw [← Int.ofNat_tmod]; simp [zv]
set_option maxRecDepth 100000 in
set_option maxHeartbeats 8000000 in
theorem wholeInts_walk {w : World} (x : Int) (hx1 : -2147483648 ≤ x) (hx2 : x ≤ 2147483647) (y : Int) (hy1 : -2147483648 ≤ y) (hy2 : y ≤ 2147483647) :
    Calls Try.prog 12 #[.int .i32 x, .int .i32 y] w fun e w' => e = .returned (.bool true) ∧ Below w.heap.size w w' := by
  obtain ⟨q0, hq0⟩ : ∃ z, x.tdiv y = z := ⟨_, rfl⟩
  obtain ⟨r0, hr0⟩ : ∃ z, x.tmod y = z := ⟨_, rfl⟩
  have hQ := hid (show zv (!(decide (x < 0) == decide (y < 0))) (val (lm x.natAbs) / val (lm y.natAbs)) = q0 by rw [val_lm, val_lm, tdiv_zv]; exact hq0)
  have hab : q0.natAbs ≤ 2147483648 := by rw [← hq0, ← tdiv_zv, zv_abs]; exact Nat.le_trans (Nat.div_le_self _ _) (by omega)
  have hab2 : r0.natAbs ≤ 2147483648 := by rw [← hr0, ← tmod_zv, zv_abs]; exact Nat.le_trans (Nat.mod_le _ _) (by omega)
  have hq1 : -2147483648 ≤ q0 ∧ q0 ≤ 2147483648 := by omega
  have hr1 : -2147483648 ≤ r0 ∧ r0 ≤ 2147483648 := by omega
  have HBq0 : Hid (Sz q0.natAbs 2) := by show _ < _; omega
  have HBr0 : Hid (Sz r0.natAbs 2) := by show _ < _; omega
  have HBx : Hid (Sz x.natAbs 1) := by show _ < _; omega
  have HBy : Hid (Sz y.natAbs 1) := by show _ < _; omega
  clear hab hab2
  have HR0 := hid hr0
  have HQ0 := hid hq0
  clear hq0 hr0
  obtain ⟨P, hP⟩ : ∃ P, x * y = P := ⟨_, rfl⟩
  have hPb : -4611686018427387904 ≤ P ∧ P ≤ 4611686018427387904 := by
    have h := Int.natAbs_mul x y
    have h2 : x.natAbs * y.natAbs ≤ 2147483648 * 2147483648 := Nat.mul_le_mul (by omega) (by omega)
    rw [hP] at h; omega
  have HPm := hid hP
  go_enter Try.func12, Try.ntmps12
  go_wp2_with fail
  refine (alive_any).mono ?_
  rintro e w1 ⟨rfl, hB⟩
  have hstep : Below w.heap.size w w1 := (by first | exact hB | exact below_drew hB)
  have hbel1 := (Below.refl w.heap.size w).next hstep
  have hle1 := hbel1.size
  have hls1 := hstep.size
  clear hstep
  go_wp2_with fail
  refine (zofG (q := x) (z := x) (by omega) (by omega) rfl).mono ?_
  rintro e w2 ⟨a, an, ac, rfl, hO, hB⟩
  have hstep : Below w1.heap.size w1 w2 := (by first | exact hB | exact below_drew hB)
  have hbel2 := hbel1.next hstep
  have hle2 := hbel2.size
  have hls2 := hstep.size
  clear hbel1 hstep
  have hla : an ≤ 1 := len_le (l := []) hO.len HBx.out
  have Oa_3 := hO
  clear hO hB
  have hbx := blk_new w2 #[Value.bool (decide (x < 0)), Value.slice a an ac] 25
  have hbB := (Below.refl w2.heap.size w2).alloc (Nat.le_refl _) (.cells #[Value.bool (decide (x < 0)), Value.slice a an ac] 25)
  have hbg := hbx.lt
  have hstep : Below w2.heap.size w2 (w2.alloc (.cells #[Value.bool (decide (x < 0)), Value.slice a an ac] 25)) := (by first | exact hbB | exact below_drew hbB)
  have Oa_4 := Oa_3.below hstep
  have hbel5 := hbel2.next hstep
  have hle5 := hbel5.size
  have hls5 := hstep.size
  clear Oa_3 hbel2 hstep
  have Xa_6 := hbx
  have cXa0_6 : _ = some (Value.bool (decide (x < 0))) := Xa_6.cell 0
  have cXa1_6 : _ = some (Value.slice a an ac) := Xa_6.cell 1
  clear hbx hbB
  go_wp2_with fail
  generalize (w2.alloc (.cells #[Value.bool (decide (x < 0)), Value.slice a an ac] 25)) = v3 at *
  go_wp2_with fail
  refine (zofG (q := y) (z := y) (by omega) (by omega) rfl).mono ?_
  rintro e w4 ⟨b, bn, bc, rfl, hO, hB⟩
  clear cXa0_6 cXa1_6
  have hstep : Below v3.heap.size v3 w4 := (by first | exact hB | exact below_drew hB)
  have Xa_7 := Xa_6.next hstep
  have Oa_8 := Oa_4.below hstep
  have hbel9 := hbel5.next hstep
  have hle9 := hbel9.size
  have hls9 := hstep.size
  clear Xa_6 Oa_4 hbel5 hstep
  have cXa0_9 : _ = some (Value.bool (decide (x < 0))) := Xa_7.cell 0
  have cXa1_9 : _ = some (Value.slice a an ac) := Xa_7.cell 1
  have hlb : bn ≤ 1 := len_le (l := []) hO.len HBy.out
  have Ob_10 := hO
  clear hO hB
  have hbx := blk_new w4 #[Value.bool (decide (y < 0)), Value.slice b bn bc] 25
  have hbB := (Below.refl w4.heap.size w4).alloc (Nat.le_refl _) (.cells #[Value.bool (decide (y < 0)), Value.slice b bn bc] 25)
  have hbg := hbx.lt
  clear cXa0_9 cXa1_9
  have hstep : Below w4.heap.size w4 (w4.alloc (.cells #[Value.bool (decide (y < 0)), Value.slice b bn bc] 25)) := (by first | exact hbB | exact below_drew hbB)
  have Xa_11 := Xa_7.next hstep
  have Oa_12 := Oa_8.below hstep
  have Ob_13 := Ob_10.below hstep
  have hbel14 := hbel9.next hstep
  have hle14 := hbel14.size
  have hls14 := hstep.size
  clear Xa_7 Oa_8 Ob_10 hbel9 hstep
  have cXa0_14 : _ = some (Value.bool (decide (x < 0))) := Xa_11.cell 0
  have cXa1_14 : _ = some (Value.slice a an ac) := Xa_11.cell 1
  have Xb_15 := hbx
  have cXb0_15 : _ = some (Value.bool (decide (y < 0))) := Xb_15.cell 0
  have cXb1_15 : _ = some (Value.slice b bn bc) := Xb_15.cell 1
  clear hbx hbB
  go_wp2_with fail
  generalize (w4.alloc (.cells #[Value.bool (decide (y < 0)), Value.slice b bn bc] 25)) = v5 at *
  obtain ⟨sm, hsm⟩ : ∃ z, x + y = z := ⟨_, rfl⟩
  have hbsm : -9000000000 ≤ sm ∧ sm ≤ 9000000000 := by omega
  have HBsm : Hid (Sz sm.natAbs 2) := by show _ < _; omega
  have Hsm := hid hsm
  clear hsm
  go_wp2_with fail
  refine (zaddG Oa_12.rd (by omega) Ob_13.rd (by omega) (zvlm x) (zvlm y) Hsm.out).mono ?_
  rintro e w6 ⟨csm, csmn, csmc, rfl, hO, hB⟩
  clear cXa0_14 cXa1_14 cXb0_15 cXb1_15
  have hstep : Below v5.heap.size v5 w6 := (by first | exact hB | exact below_drew hB)
  have Xa_16 := Xa_11.next hstep
  have Xb_17 := Xb_15.next hstep
  have Oa_18 := Oa_12.below hstep
  have Ob_19 := Ob_13.below hstep
  have hbel20 := hbel14.next hstep
  have hle20 := hbel20.size
  have hls20 := hstep.size
  clear Xa_11 Xb_15 Oa_12 Ob_13 hbel14 hstep
  have cXa0_20 : _ = some (Value.bool (decide (x < 0))) := Xa_16.cell 0
  have cXa1_20 : _ = some (Value.slice a an ac) := Xa_16.cell 1
  have cXb0_20 : _ = some (Value.bool (decide (y < 0))) := Xb_17.cell 0
  have cXb1_20 : _ = some (Value.slice b bn bc) := Xb_17.cell 1
  have hlsm : csmn ≤ 2 := len_le (l := []) hO.len HBsm.out
  have Ocsm_21 := hO
  clear hO hB
  go_wp2_with fail
  refine (zintG Ocsm_21.rd (by omega) (zvlm sm) (by omega) (by omega)).mono ?_
  rintro e w7 ⟨rfl, hB⟩
  clear cXa0_20 cXa1_20 cXb0_20 cXb1_20
  have hstep : Below w6.heap.size w6 w7 := (by first | exact hB | exact below_drew hB)
  have Xa_22 := Xa_16.next hstep
  have Xb_23 := Xb_17.next hstep
  have Oa_24 := Oa_18.below hstep
  have Ob_25 := Ob_19.below hstep
  have Ocsm_26 := Ocsm_21.below hstep
  have hbel27 := hbel20.next hstep
  have hle27 := hbel27.size
  have hls27 := hstep.size
  clear Xa_16 Xb_17 Oa_18 Ob_19 Ocsm_21 hbel20 hstep
  have cXa0_27 : _ = some (Value.bool (decide (x < 0))) := Xa_22.cell 0
  have cXa1_27 : _ = some (Value.slice a an ac) := Xa_22.cell 1
  have cXb0_27 : _ = some (Value.bool (decide (y < 0))) := Xb_23.cell 0
  have cXb1_27 : _ = some (Value.slice b bn bc) := Xb_23.cell 1
  obtain ⟨df, hdf⟩ : ∃ z, x - y = z := ⟨_, rfl⟩
  have hbdf : -9000000000 ≤ df ∧ df ≤ 9000000000 := by omega
  have HBdf : Hid (Sz df.natAbs 2) := by show _ < _; omega
  have Hdf := hid hdf
  clear hdf
  go_wp2_with fail
  refine (zsubG Oa_24.rd (by omega) Ob_25.rd (by omega) (zvlm x) (zvlm y) Hdf.out).mono ?_
  rintro e w8 ⟨cdf, cdfn, cdfc, rfl, hO, hB⟩
  clear cXa0_27 cXa1_27 cXb0_27 cXb1_27
  have hstep : Below w7.heap.size w7 w8 := (by first | exact hB | exact below_drew hB)
  have Xa_28 := Xa_22.next hstep
  have Xb_29 := Xb_23.next hstep
  have Oa_30 := Oa_24.below hstep
  have Ob_31 := Ob_25.below hstep
  have Ocsm_32 := Ocsm_26.below hstep
  have hbel33 := hbel27.next hstep
  have hle33 := hbel33.size
  have hls33 := hstep.size
  clear Xa_22 Xb_23 Oa_24 Ob_25 Ocsm_26 hbel27 hstep
  have cXa0_33 : _ = some (Value.bool (decide (x < 0))) := Xa_28.cell 0
  have cXa1_33 : _ = some (Value.slice a an ac) := Xa_28.cell 1
  have cXb0_33 : _ = some (Value.bool (decide (y < 0))) := Xb_29.cell 0
  have cXb1_33 : _ = some (Value.slice b bn bc) := Xb_29.cell 1
  have hldf : cdfn ≤ 2 := len_le (l := []) hO.len HBdf.out
  have Ocdf_34 := hO
  clear hO hB
  go_wp2_with fail
  refine (zintG Ocdf_34.rd (by omega) (zvlm df) (by omega) (by omega)).mono ?_
  rintro e w9 ⟨rfl, hB⟩
  clear cXa0_33 cXa1_33 cXb0_33 cXb1_33
  have hstep : Below w8.heap.size w8 w9 := (by first | exact hB | exact below_drew hB)
  have Xa_35 := Xa_28.next hstep
  have Xb_36 := Xb_29.next hstep
  have Oa_37 := Oa_30.below hstep
  have Ob_38 := Ob_31.below hstep
  have Ocsm_39 := Ocsm_32.below hstep
  have Ocdf_40 := Ocdf_34.below hstep
  have hbel41 := hbel33.next hstep
  have hle41 := hbel41.size
  have hls41 := hstep.size
  clear Xa_28 Xb_29 Oa_30 Ob_31 Ocsm_32 Ocdf_34 hbel33 hstep
  have cXa0_41 : _ = some (Value.bool (decide (x < 0))) := Xa_35.cell 0
  have cXa1_41 : _ = some (Value.slice a an ac) := Xa_35.cell 1
  have cXb0_41 : _ = some (Value.bool (decide (y < 0))) := Xb_36.cell 0
  have cXb1_41 : _ = some (Value.slice b bn bc) := Xb_36.cell 1
  have HBP : Hid (Sz P.natAbs 2) := by show _ < _; omega
  go_wp2_with fail
  refine (zmulG Oa_37.rd (by omega) Ob_38.rd (by omega) (zvlm x) (zvlm y) HPm.out).mono ?_
  rintro e w10 ⟨cP, cPn, cPc, rfl, hO, hB⟩
  clear cXa0_41 cXa1_41 cXb0_41 cXb1_41
  have hstep : Below w9.heap.size w9 w10 := (by first | exact hB | exact below_drew hB)
  have Xa_42 := Xa_35.next hstep
  have Xb_43 := Xb_36.next hstep
  have Oa_44 := Oa_37.below hstep
  have Ob_45 := Ob_38.below hstep
  have Ocsm_46 := Ocsm_39.below hstep
  have Ocdf_47 := Ocdf_40.below hstep
  have hbel48 := hbel41.next hstep
  have hle48 := hbel48.size
  have hls48 := hstep.size
  clear Xa_35 Xb_36 Oa_37 Ob_38 Ocsm_39 Ocdf_40 hbel41 hstep
  have cXa0_48 : _ = some (Value.bool (decide (x < 0))) := Xa_42.cell 0
  have cXa1_48 : _ = some (Value.slice a an ac) := Xa_42.cell 1
  have cXb0_48 : _ = some (Value.bool (decide (y < 0))) := Xb_43.cell 0
  have cXb1_48 : _ = some (Value.slice b bn bc) := Xb_43.cell 1
  have hlP : cPn ≤ 2 := len_le (l := []) hO.len HBP.out
  have OcP_49 := hO
  clear hO hB
  go_wp2_with fail
  refine (zintG OcP_49.rd (by omega) (zvlm P) (by omega) (by omega)).mono ?_
  rintro e w11 ⟨rfl, hB⟩
  clear cXa0_48 cXa1_48 cXb0_48 cXb1_48
  have hstep : Below w10.heap.size w10 w11 := (by first | exact hB | exact below_drew hB)
  have Xa_50 := Xa_42.next hstep
  have Xb_51 := Xb_43.next hstep
  have Oa_52 := Oa_44.below hstep
  have Ob_53 := Ob_45.below hstep
  have Ocsm_54 := Ocsm_46.below hstep
  have Ocdf_55 := Ocdf_47.below hstep
  have OcP_56 := OcP_49.below hstep
  have hbel57 := hbel48.next hstep
  have hle57 := hbel57.size
  have hls57 := hstep.size
  clear Xa_42 Xb_43 Oa_44 Ob_45 Ocsm_46 Ocdf_47 OcP_49 hbel48 hstep
  have cXa0_57 : _ = some (Value.bool (decide (x < 0))) := Xa_50.cell 0
  have cXa1_57 : _ = some (Value.slice a an ac) := Xa_50.cell 1
  have cXb0_57 : _ = some (Value.bool (decide (y < 0))) := Xb_51.cell 0
  have cXb1_57 : _ = some (Value.slice b bn bc) := Xb_51.cell 1
  have hsm := Hsm.out
  have hdf := Hdf.out
  have hwP : IntKind.i64.wrap P = P := IntWalk.i64_in _ (by omega)
  by_cases hy0 : y = 0
  · have hye : (y == 0) = true := by simp [hy0]
    clear hy0
    go_wp2
    go_ret
    exact ⟨rfl, hbel57⟩
  · have hye : (y == 0) = false := by simp [hy0]
    have hyd : decide (y = 0) = false := decide_eq_false hy0
    have hR := hid (show zv (decide (x < 0)) (dvR (val (lm x.natAbs)) (val (lm y.natAbs))) = r0 by rw [val_lm, val_lm]; unfold dvR; rw [if_neg (by omega), tmod_zv]; exact HR0.out)
    have hE := hid (show dvE (val (lm y.natAbs)) = 0 by rw [val_lm]; exact dvE_pos (by omega))
    go_wp2_with fail
    clear hsm hdf
    refine (zquoG Oa_52.rd (by omega) Ob_53.rd (by omega) (zvlm x) (zvlm y) hQ.out hR.out hE.out).mono ?_
    rintro e w12 ⟨q, qn, qc, r, rn, rc, rfl, hO, hO2, hD, hB⟩
    clear cXa0_57 cXa1_57 cXb0_57 cXb1_57
    have hstep : Below w11.heap.size w11 w12 := (by first | exact hB | exact below_drew hB)
    have Xa_58 := Xa_50.next hstep
    have Xb_59 := Xb_51.next hstep
    have Oa_60 := Oa_52.below hstep
    have Ob_61 := Ob_53.below hstep
    have Ocsm_62 := Ocsm_54.below hstep
    have Ocdf_63 := Ocdf_55.below hstep
    have OcP_64 := OcP_56.below hstep
    have hbel65 := hbel57.next hstep
    have hle65 := hbel65.size
    have hls65 := hstep.size
    clear Xa_50 Xb_51 Oa_52 Ob_53 Ocsm_54 Ocdf_55 OcP_56 hbel57 hstep
    have cXa0_65 : _ = some (Value.bool (decide (x < 0))) := Xa_58.cell 0
    have cXa1_65 : _ = some (Value.slice a an ac) := Xa_58.cell 1
    have cXb0_65 : _ = some (Value.bool (decide (y < 0))) := Xb_59.cell 0
    have cXb1_65 : _ = some (Value.slice b bn bc) := Xb_59.cell 1
    have hlq : qn ≤ 2 := len_le (l := []) hO.len HBq0.out
    have hlr : rn ≤ 2 := len_le (l := []) hO2.len HBr0.out
    have Oq_66 := hO
    have Or_67 := hO2
    clear hO hO2 hB hD
    have hbx := blk_new' w12 #[Value.bool (decide (q0 < 0)), Value.slice q qn qc] 25 (g := w12.heap.size) (by simp)
    have hbB := (Below.refl w12.heap.size w12).alloc (Nat.le_refl _) (.cells #[Value.bool (decide (q0 < 0)), Value.slice q qn qc] 25)
    have hbg := hbx.lt
    clear cXa0_65 cXa1_65 cXb0_65 cXb1_65
    have hstep : Below w12.heap.size w12 (w12.alloc (.cells #[Value.bool (decide (q0 < 0)), Value.slice q qn qc] 25)) := (by first | exact hbB | exact below_drew hbB)
    have Xa_68 := Xa_58.next hstep
    have Xb_69 := Xb_59.next hstep
    have Oa_70 := Oa_60.below hstep
    have Ob_71 := Ob_61.below hstep
    have Ocsm_72 := Ocsm_62.below hstep
    have Ocdf_73 := Ocdf_63.below hstep
    have OcP_74 := OcP_64.below hstep
    have Oq_75 := Oq_66.below hstep
    have Or_76 := Or_67.below hstep
    have hbel77 := hbel65.next hstep
    have hle77 := hbel77.size
    have hls77 := hstep.size
    clear Xa_58 Xb_59 Oa_60 Ob_61 Ocsm_62 Ocdf_63 OcP_64 Oq_66 Or_67 hbel65 hstep
    have cXa0_77 : _ = some (Value.bool (decide (x < 0))) := Xa_68.cell 0
    have cXa1_77 : _ = some (Value.slice a an ac) := Xa_68.cell 1
    have cXb0_77 : _ = some (Value.bool (decide (y < 0))) := Xb_69.cell 0
    have cXb1_77 : _ = some (Value.slice b bn bc) := Xb_69.cell 1
    have Xq_78 := hbx
    have cXq0_78 : _ = some (Value.bool (decide (q0 < 0))) := Xq_78.cell 0
    have cXq1_78 : _ = some (Value.slice q qn qc) := Xq_78.cell 1
    clear hbx hbB
    have hbx := blk_new' (w12.alloc (.cells #[Value.bool (decide (q0 < 0)), Value.slice q qn qc] 25)) #[Value.bool (decide (r0 < 0)), Value.slice r rn rc] 25 (g := w12.heap.size + 1) (by simp)
    have hbB := (Below.refl (w12.alloc (.cells #[Value.bool (decide (q0 < 0)), Value.slice q qn qc] 25)).heap.size (w12.alloc (.cells #[Value.bool (decide (q0 < 0)), Value.slice q qn qc] 25))).alloc (Nat.le_refl _) (.cells #[Value.bool (decide (r0 < 0)), Value.slice r rn rc] 25)
    have hbg := hbx.lt
    clear cXa0_77 cXa1_77 cXb0_77 cXb1_77 cXq0_78 cXq1_78
    have hstep : Below (w12.alloc (.cells #[Value.bool (decide (q0 < 0)), Value.slice q qn qc] 25)).heap.size (w12.alloc (.cells #[Value.bool (decide (q0 < 0)), Value.slice q qn qc] 25)) ((w12.alloc (.cells #[Value.bool (decide (q0 < 0)), Value.slice q qn qc] 25)).alloc (.cells #[Value.bool (decide (r0 < 0)), Value.slice r rn rc] 25)) := (by first | exact hbB | exact below_drew hbB)
    have Xa_79 := Xa_68.next hstep
    have Xb_80 := Xb_69.next hstep
    have Xq_81 := Xq_78.next hstep
    have Oa_82 := Oa_70.below hstep
    have Ob_83 := Ob_71.below hstep
    have Ocsm_84 := Ocsm_72.below hstep
    have Ocdf_85 := Ocdf_73.below hstep
    have OcP_86 := OcP_74.below hstep
    have Oq_87 := Oq_75.below hstep
    have Or_88 := Or_76.below hstep
    have hbel89 := hbel77.next hstep
    have hle89 := hbel89.size
    have hls89 := hstep.size
    clear Xa_68 Xb_69 Xq_78 Oa_70 Ob_71 Ocsm_72 Ocdf_73 OcP_74 Oq_75 Or_76 hbel77 hstep
    have cXa0_89 : _ = some (Value.bool (decide (x < 0))) := Xa_79.cell 0
    have cXa1_89 : _ = some (Value.slice a an ac) := Xa_79.cell 1
    have cXb0_89 : _ = some (Value.bool (decide (y < 0))) := Xb_80.cell 0
    have cXb1_89 : _ = some (Value.slice b bn bc) := Xb_80.cell 1
    have cXq0_89 : _ = some (Value.bool (decide (q0 < 0))) := Xq_81.cell 0
    have cXq1_89 : _ = some (Value.slice q qn qc) := Xq_81.cell 1
    have Xr_90 := hbx
    have cXr0_90 : _ = some (Value.bool (decide (r0 < 0))) := Xr_90.cell 0
    have cXr1_90 : _ = some (Value.slice r rn rc) := Xr_90.cell 1
    clear hbx hbB
    go_wp2_with fail
    generalize ((w12.alloc (.cells #[Value.bool (decide (q0 < 0)), Value.slice q qn qc] 25)).alloc (.cells #[Value.bool (decide (r0 < 0)), Value.slice r rn rc] 25)) = v13 at *
    go_wp2_with fail
    refine (zintG Oq_87.rd (by omega) (zvlm q0) (by omega) (by omega)).mono ?_
    rintro e w15 ⟨rfl, hB⟩
    clear cXa0_89 cXa1_89 cXb0_89 cXb1_89 cXq0_89 cXq1_89 cXr0_90 cXr1_90
    have hstep : Below v13.heap.size v13 w15 := (by first | exact hB | exact below_drew hB)
    have Xa_91 := Xa_79.next hstep
    have Xb_92 := Xb_80.next hstep
    have Xq_93 := Xq_81.next hstep
    have Xr_94 := Xr_90.next hstep
    have Oa_95 := Oa_82.below hstep
    have Ob_96 := Ob_83.below hstep
    have Ocsm_97 := Ocsm_84.below hstep
    have Ocdf_98 := Ocdf_85.below hstep
    have OcP_99 := OcP_86.below hstep
    have Oq_100 := Oq_87.below hstep
    have Or_101 := Or_88.below hstep
    have hbel102 := hbel89.next hstep
    have hle102 := hbel102.size
    have hls102 := hstep.size
    clear Xa_79 Xb_80 Xq_81 Xr_90 Oa_82 Ob_83 Ocsm_84 Ocdf_85 OcP_86 Oq_87 Or_88 hbel89 hstep
    have cXa0_102 : _ = some (Value.bool (decide (x < 0))) := Xa_91.cell 0
    have cXa1_102 : _ = some (Value.slice a an ac) := Xa_91.cell 1
    have cXb0_102 : _ = some (Value.bool (decide (y < 0))) := Xb_92.cell 0
    have cXb1_102 : _ = some (Value.slice b bn bc) := Xb_92.cell 1
    have cXq0_102 : _ = some (Value.bool (decide (q0 < 0))) := Xq_93.cell 0
    have cXq1_102 : _ = some (Value.slice q qn qc) := Xq_93.cell 1
    have cXr0_102 : _ = some (Value.bool (decide (r0 < 0))) := Xr_94.cell 0
    have cXr1_102 : _ = some (Value.slice r rn rc) := Xr_94.cell 1
    go_wp2_with fail
    refine (zintG Or_101.rd (by omega) (zvlm r0) (by omega) (by omega)).mono ?_
    rintro e w16 ⟨rfl, hB⟩
    clear cXa0_102 cXa1_102 cXb0_102 cXb1_102 cXq0_102 cXq1_102 cXr0_102 cXr1_102
    have hstep : Below w15.heap.size w15 w16 := (by first | exact hB | exact below_drew hB)
    have Xa_103 := Xa_91.next hstep
    have Xb_104 := Xb_92.next hstep
    have Xq_105 := Xq_93.next hstep
    have Xr_106 := Xr_94.next hstep
    have Oa_107 := Oa_95.below hstep
    have Ob_108 := Ob_96.below hstep
    have Ocsm_109 := Ocsm_97.below hstep
    have Ocdf_110 := Ocdf_98.below hstep
    have OcP_111 := OcP_99.below hstep
    have Oq_112 := Oq_100.below hstep
    have Or_113 := Or_101.below hstep
    have hbel114 := hbel102.next hstep
    have hle114 := hbel114.size
    have hls114 := hstep.size
    clear Xa_91 Xb_92 Xq_93 Xr_94 Oa_95 Ob_96 Ocsm_97 Ocdf_98 OcP_99 Oq_100 Or_101 hbel102 hstep
    have cXa0_114 : _ = some (Value.bool (decide (x < 0))) := Xa_103.cell 0
    have cXa1_114 : _ = some (Value.slice a an ac) := Xa_103.cell 1
    have cXb0_114 : _ = some (Value.bool (decide (y < 0))) := Xb_104.cell 0
    have cXb1_114 : _ = some (Value.slice b bn bc) := Xb_104.cell 1
    have cXq0_114 : _ = some (Value.bool (decide (q0 < 0))) := Xq_105.cell 0
    have cXq1_114 : _ = some (Value.slice q qn qc) := Xq_105.cell 1
    have cXr0_114 : _ = some (Value.bool (decide (r0 < 0))) := Xr_106.cell 0
    have cXr1_114 : _ = some (Value.slice r rn rc) := Xr_106.cell 1
    have hq0 := HQ0.out
    have hr0 := HR0.out
    go_wp2
    go_ret
    exact ⟨rfl, hbel114⟩

end Go.Proofs.Ytflmdcmlhpifeaa
