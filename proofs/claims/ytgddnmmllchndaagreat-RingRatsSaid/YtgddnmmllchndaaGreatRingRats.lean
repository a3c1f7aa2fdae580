/- THE WALK OF credencelaw12.RingRats: of any two fractions Rats and Most: what is handed in stays, what is answered is normal and new memory. -/
import Derived.Test.YtgddnmmllchndaaGreatKe
import Derived.Test.YtgddnmmllchndaaGreatKf
namespace Go.Proofs.YtgddnmmllchndaaGreat
set_option linter.unusedVariables false
set_option linter.unusedSimpArgs false
open Go.ChangeShapes Go.WideShapes Go.ChangeAt Go.RowKit Go.NatP

theorem ksame_t {w : World} {a1 b1 : Option Addr} {n1 c1 m1 d1 : Nat} {s : Bool} {x : Rat} {a2 b2 : Option Addr} {n2 c2 m2 d2 : Nat} {t : Bool} {y : Rat} {J K : Nat} (hx : RdQ J w s a1 n1 c1 b1 m1 d1 x) (hJ : J ≤ 1000000) (hy : RdQ K w t a2 n2 c2 b2 m2 d2 y) (hK : K ≤ 1000000) (he : x = y) : Calls Tryz.prog 41 #[.agg #[], .agg #[.bool s, .slice a1 n1 c1, .slice b1 m1 d1], .agg #[.bool t, .slice a2 n2 c2, .slice b2 m2 d2]] w (RetBo w true) := by
  have h := ksame hx hJ hy hK
  rwa [show (cmpQ x y == 0) = true by rw [he, cmpQ_self]; rfl] at h
theorem mxQ_self (x : Rat) : mxQ x x = x := by unfold mxQ; split <;> rfl

set_option maxRecDepth 100000 in
set_option maxHeartbeats 32000000 in
theorem ringRats_walk {w : World} {a b a' b' : Option Addr} {n c m d n' c' m' d' : Nat} {la lb la' lb' : List Nat} (s : Bool) (ha : Rd w a n c la) (hb : Rd w b m d lb) (t : Bool) (ha' : Rd w a' n' c' la') (hb' : Rd w b' m' d' lb') :
    Calls Tryz.prog 5 #[.agg #[.bool s, .slice a n c, .slice b m d], .agg #[.bool t, .slice a' n' c', .slice b' m' d']] w (fun e w' => e = .returned (.bool true) ∧ Below w.heap.size w w') := by
  have HA := hid ha
  have HB := hid hb
  have HC := hid ha'
  have HD := hid hb'
  have hent := ent2 w #[Value.bool s, Value.slice a n c, Value.slice b m d] #[Value.bool t, Value.slice a' n' c', Value.slice b' m' d'] 38 38
  go_enter Tryz.func5, Tryz.ntmps5
  go_wp2_with fail
  generalize ((w.alloc (.cells #[Value.bool s, Value.slice a n c, Value.slice b m d] 38)).alloc (.cells #[Value.bool t, Value.slice a' n' c', Value.slice b' m' d'] 38)) = W0 at hent ⊢
  obtain ⟨X_0, Y_0, hbel_0, hsz_0⟩ := hent
  have cX_0_0 : _ = some (Value.bool s) := X_0.cell 0
  have fX_0_0 := X_0.free 0
  have cX_0_1 : _ = some (Value.slice a n c) := X_0.cell 1
  have fX_0_1 := X_0.free 1
  have cX_0_2 : _ = some (Value.slice b m d) := X_0.cell 2
  have fX_0_2 := X_0.free 2
  have cY_0_0 : _ = some (Value.bool t) := Y_0.cell 0
  have fY_0_0 := Y_0.free 0
  have cY_0_1 : _ = some (Value.slice a' n' c') := Y_0.cell 1
  have fY_0_1 := Y_0.free 1
  have cY_0_2 : _ = some (Value.slice b' m' d') := Y_0.cell 2
  have fY_0_2 := Y_0.free 2
  have ha_0 := ha.below hbel_0
  clear ha
  have hb_0 := hb.below hbel_0
  clear hb
  have ha'_0 := ha'.below hbel_0
  clear ha'
  have hb'_0 := hb'.below hbel_0
  clear hb'
  go_wp2_with fail
  refine (kawake).mono ?_
  rintro e w1 ⟨rfl, hB⟩
  have hB_1 : Below W0.heap.size W0 w1 := (bl.next hB)
  have X_1 := X_0.next hB_1
  have cX_1_0 : _ = some (Value.bool s) := X_1.cell 0
  have fX_1_0 := X_1.free 0
  have cX_1_1 : _ = some (Value.slice a n c) := X_1.cell 1
  have fX_1_1 := X_1.free 1
  have cX_1_2 : _ = some (Value.slice b m d) := X_1.cell 2
  have fX_1_2 := X_1.free 2
  have Y_1 := Y_0.next hB_1
  have cY_1_0 : _ = some (Value.bool t) := Y_1.cell 0
  have fY_1_0 := Y_1.free 0
  have cY_1_1 : _ = some (Value.slice a' n' c') := Y_1.cell 1
  have fY_1_1 := Y_1.free 1
  have cY_1_2 : _ = some (Value.slice b' m' d') := Y_1.cell 2
  have fY_1_2 := Y_1.free 2
  have ha_1 := ha_0.below hB_1
  have hb_1 := hb_0.below hB_1
  have ha'_1 := ha'_0.below hB_1
  have hb'_1 := hb'_0.below hB_1
  have hbel_1 := hbel_0.next hB_1
  have hsz_1 := hB_1.size
  clear X_0 cX_0_0 fX_0_0 cX_0_1 fX_0_1 cX_0_2 fX_0_2 Y_0 cY_0_0 fY_0_0 cY_0_1 fY_0_1 cY_0_2 fY_0_2 ha_0 hb_0 ha'_0 hb'_0 hbel_0 hB_1
  try clear hB
  go_wp2_with fail
  refine (fcut 20 (by omega) ha_1 hb_1).mono ?_
  rintro e w2 ⟨n1, l1, m1, k1, rfl, hn1, hm1, hln1, hlm1, hR, hR', hB⟩
  have hB_2 : Below w1.heap.size w1 w2 := (bl.next hB)
  have X_2 := X_1.next hB_2
  have cX_2_0 : _ = some (Value.bool s) := X_2.cell 0
  have fX_2_0 := X_2.free 0
  have cX_2_1 : _ = some (Value.slice a n c) := X_2.cell 1
  have fX_2_1 := X_2.free 1
  have cX_2_2 : _ = some (Value.slice b m d) := X_2.cell 2
  have fX_2_2 := X_2.free 2
  have Y_2 := Y_1.next hB_2
  have cY_2_0 : _ = some (Value.bool t) := Y_2.cell 0
  have fY_2_0 := Y_2.free 0
  have cY_2_1 : _ = some (Value.slice a' n' c') := Y_2.cell 1
  have fY_2_1 := Y_2.free 1
  have cY_2_2 : _ = some (Value.slice b' m' d') := Y_2.cell 2
  have fY_2_2 := Y_2.free 2
  have ha_2 := ha_1.below hB_2
  have hb_2 := hb_1.below hB_2
  have ha'_2 := ha'_1.below hB_2
  have hb'_2 := hb'_1.below hB_2
  have hbel_2 := hbel_1.next hB_2
  have hsz_2 := hB_2.size
  clear X_1 cX_1_0 fX_1_0 cX_1_1 fX_1_1 cX_1_2 fX_1_2 Y_1 cY_1_0 fY_1_0 cY_1_1 fY_1_1 cY_1_2 fY_1_2 ha_1 hb_1 ha'_1 hb'_1 hbel_1 hB_2
  have A_2 := hR
  have B_2 := hR'
  clear hR hR'
  try clear hB
  have hkp := kp_set3 w2 (w.heap.size) (Value.bool s) (Value.slice a n1 c) (Value.slice b m1 d)
  have X_3 := (show Blk _ _ #[Value.bool s, Value.slice a n1 c, Value.slice b m1 d] from (((X_2).setCell (i := 0) (v := Value.bool s) (by simp)).setCell (i := 1) (v := Value.slice a n1 c) (by simp)).setCell (i := 2) (v := Value.slice b m1 d) (by simp))
  have Y_3 := Y_2.set3 (show w.heap.size + 1 ≠ w.heap.size by omega) (Value.bool s) (Value.slice a n1 c) (Value.slice b m1 d)
  have A_3 := HA.out.kp_old hln1 A_2 hkp (fun b hb => by show ¬ (b = _); omega)
  have B_3 := HB.out.kp_old hlm1 B_2 hkp (fun b hb => by show ¬ (b = _); omega)
  have ha'_3 := HC.out.kp_old (Nat.le_refl _) ha'_2 hkp (fun b hb => by show ¬ (b = _); omega)
  have hb'_3 := HD.out.kp_old (Nat.le_refl _) hb'_2 hkp (fun b hb => by show ¬ (b = _); omega)
  have hbel_3 := Below.set3 hbel_2 (show w.heap.size ≤ w.heap.size by omega) (Value.bool s) (Value.slice a n1 c) (Value.slice b m1 d)
  have hsz_3 := hkp.size
  have cX_3_0 : _ = some (Value.bool s) := X_3.cell 0
  have fX_3_0 := X_3.free 0
  have cX_3_1 : _ = some (Value.slice a n1 c) := X_3.cell 1
  have fX_3_1 := X_3.free 1
  have cX_3_2 : _ = some (Value.slice b m1 d) := X_3.cell 2
  have fX_3_2 := X_3.free 2
  have cY_3_0 : _ = some (Value.bool t) := Y_3.cell 0
  have fY_3_0 := Y_3.free 0
  have cY_3_1 : _ = some (Value.slice a' n' c') := Y_3.cell 1
  have fY_3_1 := Y_3.free 1
  have cY_3_2 : _ = some (Value.slice b' m' d') := Y_3.cell 2
  have fY_3_2 := Y_3.free 2
  go_wp2_with fail
  clear X_2 Y_2 cX_2_0 fX_2_0 cX_2_1 fX_2_1 cX_2_2 fX_2_2 cY_2_0 fY_2_0 cY_2_1 fY_2_1 cY_2_2 fY_2_2 ha_2 hb_2 ha'_2 hb'_2 A_2 B_2 hbel_2 hkp
  generalize (((w2.setCell ⟨w.heap.size, 0, none⟩ (Value.bool s)).setCell ⟨w.heap.size, 1, none⟩ (Value.slice a n1 c)).setCell ⟨w.heap.size, 2, none⟩ (Value.slice b m1 d)) = v3 at *
  go_wp2_with fail
  refine (fcut 20 (by omega) ha'_3 hb'_3).mono ?_
  rintro e w4 ⟨n2, l2, m2, k2, rfl, hn2, hm2, hln2, hlm2, hR, hR', hB⟩
  have hB_4 : Below v3.heap.size v3 w4 := (bl.next hB)
  have X_4 := X_3.next hB_4
  have cX_4_0 : _ = some (Value.bool s) := X_4.cell 0
  have fX_4_0 := X_4.free 0
  have cX_4_1 : _ = some (Value.slice a n1 c) := X_4.cell 1
  have fX_4_1 := X_4.free 1
  have cX_4_2 : _ = some (Value.slice b m1 d) := X_4.cell 2
  have fX_4_2 := X_4.free 2
  have Y_4 := Y_3.next hB_4
  have cY_4_0 : _ = some (Value.bool t) := Y_4.cell 0
  have fY_4_0 := Y_4.free 0
  have cY_4_1 : _ = some (Value.slice a' n' c') := Y_4.cell 1
  have fY_4_1 := Y_4.free 1
  have cY_4_2 : _ = some (Value.slice b' m' d') := Y_4.cell 2
  have fY_4_2 := Y_4.free 2
  have A_4 := A_3.below hB_4
  have B_4 := B_3.below hB_4
  have ha'_4 := ha'_3.below hB_4
  have hb'_4 := hb'_3.below hB_4
  have hbel_4 := hbel_3.next hB_4
  have hsz_4 := hB_4.size
  clear X_3 cX_3_0 fX_3_0 cX_3_1 fX_3_1 cX_3_2 fX_3_2 Y_3 cY_3_0 fY_3_0 cY_3_1 fY_3_1 cY_3_2 fY_3_2 A_3 B_3 ha'_3 hb'_3 hbel_3 hB_4
  have C_4 := hR
  have D_4 := hR'
  clear hR hR'
  try clear hB
  have hkp := kp_set3 w4 (w.heap.size + 1) (Value.bool t) (Value.slice a' n2 c') (Value.slice b' m2 d')
  have Y_5 := (show Blk _ _ #[Value.bool t, Value.slice a' n2 c', Value.slice b' m2 d'] from (((Y_4).setCell (i := 0) (v := Value.bool t) (by simp)).setCell (i := 1) (v := Value.slice a' n2 c') (by simp)).setCell (i := 2) (v := Value.slice b' m2 d') (by simp))
  have X_5 := X_4.set3 (show w.heap.size ≠ w.heap.size + 1 by omega) (Value.bool t) (Value.slice a' n2 c') (Value.slice b' m2 d')
  have A_5 := HA.out.kp_old hln1 A_4 hkp (fun b hb => by show ¬ (b = _); omega)
  have B_5 := HB.out.kp_old hlm1 B_4 hkp (fun b hb => by show ¬ (b = _); omega)
  have C_5 := HC.out.kp_old hln2 C_4 hkp (fun b hb => by show ¬ (b = _); omega)
  have D_5 := HD.out.kp_old hlm2 D_4 hkp (fun b hb => by show ¬ (b = _); omega)
  have hbel_5 := Below.set3 hbel_4 (show w.heap.size ≤ w.heap.size + 1 by omega) (Value.bool t) (Value.slice a' n2 c') (Value.slice b' m2 d')
  have hsz_5 := hkp.size
  have cX_5_0 : _ = some (Value.bool s) := X_5.cell 0
  have fX_5_0 := X_5.free 0
  have cX_5_1 : _ = some (Value.slice a n1 c) := X_5.cell 1
  have fX_5_1 := X_5.free 1
  have cX_5_2 : _ = some (Value.slice b m1 d) := X_5.cell 2
  have fX_5_2 := X_5.free 2
  have cY_5_0 : _ = some (Value.bool t) := Y_5.cell 0
  have fY_5_0 := Y_5.free 0
  have cY_5_1 : _ = some (Value.slice a' n2 c') := Y_5.cell 1
  have fY_5_1 := Y_5.free 1
  have cY_5_2 : _ = some (Value.slice b' m2 d') := Y_5.cell 2
  have fY_5_2 := Y_5.free 2
  go_wp2_with fail
  clear X_4 Y_4 cX_4_0 fX_4_0 cX_4_1 fX_4_1 cX_4_2 fX_4_2 cY_4_0 fY_4_0 cY_4_1 fY_4_1 cY_4_2 fY_4_2 A_4 B_4 ha'_4 hb'_4 C_4 D_4 hbel_4 hkp
  generalize (((w4.setCell ⟨w.heap.size + 1, 0, none⟩ (Value.bool t)).setCell ⟨w.heap.size + 1, 1, none⟩ (Value.slice a' n2 c')).setCell ⟨w.heap.size + 1, 2, none⟩ (Value.slice b' m2 d')) = v5 at *
  clear HA HB HC HD
  go_wp2_with fail
  refine (flend A_5 B_5 (by omega) (by omega)).mono ?_
  rintro e w6 ⟨pa, pc, pb, pd, rfl, hL, hL', hB⟩
  have hB_6 : Below v5.heap.size v5 w6 := (bl.next hB)
  have X_6 := X_5.next hB_6
  have cX_6_0 : _ = some (Value.bool s) := X_6.cell 0
  have fX_6_0 := X_6.free 0
  have cX_6_1 : _ = some (Value.slice a n1 c) := X_6.cell 1
  have fX_6_1 := X_6.free 1
  have cX_6_2 : _ = some (Value.slice b m1 d) := X_6.cell 2
  have fX_6_2 := X_6.free 2
  have Y_6 := Y_5.next hB_6
  have cY_6_0 : _ = some (Value.bool t) := Y_6.cell 0
  have fY_6_0 := Y_6.free 0
  have cY_6_1 : _ = some (Value.slice a' n2 c') := Y_6.cell 1
  have fY_6_1 := Y_6.free 1
  have cY_6_2 : _ = some (Value.slice b' m2 d') := Y_6.cell 2
  have fY_6_2 := Y_6.free 2
  have A_6 := A_5.below hB_6
  have B_6 := B_5.below hB_6
  have C_6 := C_5.below hB_6
  have D_6 := D_5.below hB_6
  have hbel_6 := hbel_5.next hB_6
  have hsz_6 := hB_6.size
  clear X_5 cX_5_0 fX_5_0 cX_5_1 fX_5_1 cX_5_2 fX_5_2 Y_5 cY_5_0 fY_5_0 cY_5_1 fY_5_1 cY_5_2 fY_5_2 A_5 B_5 C_5 D_5 hbel_5 hB_6
  have L_6 := hL
  have M_6 := hL'
  clear hL hL'
  try clear hB
  have hbx := blk_new w6 #[Value.bool s, Value.slice pa n1 pc, Value.slice pb m1 pd] 38
  have hbB := (Below.refl w6.heap.size w6).alloc (Nat.le_refl _) (.cells #[Value.bool s, Value.slice pa n1 pc, Value.slice pb m1 pd] 38)
  have hltP := hbx.lt
  have hB_7 : Below w6.heap.size w6 (w6.alloc (.cells #[Value.bool s, Value.slice pa n1 pc, Value.slice pb m1 pd] 38)) := hbB
  have X_7 := X_6.next hB_7
  have cX_7_0 : _ = some (Value.bool s) := X_7.cell 0
  have fX_7_0 := X_7.free 0
  have cX_7_1 : _ = some (Value.slice a n1 c) := X_7.cell 1
  have fX_7_1 := X_7.free 1
  have cX_7_2 : _ = some (Value.slice b m1 d) := X_7.cell 2
  have fX_7_2 := X_7.free 2
  have Y_7 := Y_6.next hB_7
  have cY_7_0 : _ = some (Value.bool t) := Y_7.cell 0
  have fY_7_0 := Y_7.free 0
  have cY_7_1 : _ = some (Value.slice a' n2 c') := Y_7.cell 1
  have fY_7_1 := Y_7.free 1
  have cY_7_2 : _ = some (Value.slice b' m2 d') := Y_7.cell 2
  have fY_7_2 := Y_7.free 2
  have A_7 := A_6.below hB_7
  have B_7 := B_6.below hB_7
  have C_7 := C_6.below hB_7
  have D_7 := D_6.below hB_7
  have L_7 := L_6.below hB_7
  have M_7 := M_6.below hB_7
  have hbel_7 := hbel_6.next hB_7
  have hsz_7 := hB_7.size
  clear hB_7
  have P_7 := hbx
  clear hbx hbB
  have cP_7_0 : _ = some (Value.bool s) := P_7.cell 0
  have cP_7_1 : _ = some (Value.slice pa n1 pc) := P_7.cell 1
  have cP_7_2 : _ = some (Value.slice pb m1 pd) := P_7.cell 2
  go_wp2_with fail
  clear X_6 cX_6_0 fX_6_0 cX_6_1 fX_6_1 cX_6_2 fX_6_2 Y_6 cY_6_0 fY_6_0 cY_6_1 fY_6_1 cY_6_2 fY_6_2 A_6 B_6 C_6 D_6 L_6 M_6 hbel_6
  generalize (w6.alloc (.cells #[Value.bool s, Value.slice pa n1 pc, Value.slice pb m1 pd] 38)) = v7 at *
  go_wp2_with fail
  refine (flend C_7 D_7 (by omega) (by omega)).mono ?_
  rintro e w8 ⟨ra, rc, rb, rd, rfl, hL, hL', hB⟩
  have hB_8 : Below v7.heap.size v7 w8 := (bl.next hB)
  have X_8 := X_7.next hB_8
  have cX_8_0 : _ = some (Value.bool s) := X_8.cell 0
  have fX_8_0 := X_8.free 0
  have cX_8_1 : _ = some (Value.slice a n1 c) := X_8.cell 1
  have fX_8_1 := X_8.free 1
  have cX_8_2 : _ = some (Value.slice b m1 d) := X_8.cell 2
  have fX_8_2 := X_8.free 2
  have Y_8 := Y_7.next hB_8
  have cY_8_0 : _ = some (Value.bool t) := Y_8.cell 0
  have fY_8_0 := Y_8.free 0
  have cY_8_1 : _ = some (Value.slice a' n2 c') := Y_8.cell 1
  have fY_8_1 := Y_8.free 1
  have cY_8_2 : _ = some (Value.slice b' m2 d') := Y_8.cell 2
  have fY_8_2 := Y_8.free 2
  have P_8 := P_7.next hB_8
  have cP_8_0 : _ = some (Value.bool s) := P_8.cell 0
  have cP_8_1 : _ = some (Value.slice pa n1 pc) := P_8.cell 1
  have cP_8_2 : _ = some (Value.slice pb m1 pd) := P_8.cell 2
  have A_8 := A_7.below hB_8
  have B_8 := B_7.below hB_8
  have C_8 := C_7.below hB_8
  have D_8 := D_7.below hB_8
  have L_8 := L_7.below hB_8
  have M_8 := M_7.below hB_8
  have hbel_8 := hbel_7.next hB_8
  have hsz_8 := hB_8.size
  clear X_7 cX_7_0 fX_7_0 cX_7_1 fX_7_1 cX_7_2 fX_7_2 Y_7 cY_7_0 fY_7_0 cY_7_1 fY_7_1 cY_7_2 fY_7_2 P_7 cP_7_0 cP_7_1 cP_7_2 A_7 B_7 C_7 D_7 L_7 M_7 hbel_7 hB_8
  have N_8 := hL
  have O_8 := hL'
  clear hL hL'
  try clear hB
  have hbx := blk_new w8 #[Value.bool t, Value.slice ra n2 rc, Value.slice rb m2 rd] 38
  have hbB := (Below.refl w8.heap.size w8).alloc (Nat.le_refl _) (.cells #[Value.bool t, Value.slice ra n2 rc, Value.slice rb m2 rd] 38)
  have hltR := hbx.lt
  have hB_9 : Below w8.heap.size w8 (w8.alloc (.cells #[Value.bool t, Value.slice ra n2 rc, Value.slice rb m2 rd] 38)) := hbB
  have X_9 := X_8.next hB_9
  have cX_9_0 : _ = some (Value.bool s) := X_9.cell 0
  have fX_9_0 := X_9.free 0
  have cX_9_1 : _ = some (Value.slice a n1 c) := X_9.cell 1
  have fX_9_1 := X_9.free 1
  have cX_9_2 : _ = some (Value.slice b m1 d) := X_9.cell 2
  have fX_9_2 := X_9.free 2
  have Y_9 := Y_8.next hB_9
  have cY_9_0 : _ = some (Value.bool t) := Y_9.cell 0
  have fY_9_0 := Y_9.free 0
  have cY_9_1 : _ = some (Value.slice a' n2 c') := Y_9.cell 1
  have fY_9_1 := Y_9.free 1
  have cY_9_2 : _ = some (Value.slice b' m2 d') := Y_9.cell 2
  have fY_9_2 := Y_9.free 2
  have P_9 := P_8.next hB_9
  have cP_9_0 : _ = some (Value.bool s) := P_9.cell 0
  have cP_9_1 : _ = some (Value.slice pa n1 pc) := P_9.cell 1
  have cP_9_2 : _ = some (Value.slice pb m1 pd) := P_9.cell 2
  have A_9 := A_8.below hB_9
  have B_9 := B_8.below hB_9
  have C_9 := C_8.below hB_9
  have D_9 := D_8.below hB_9
  have L_9 := L_8.below hB_9
  have M_9 := M_8.below hB_9
  have N_9 := N_8.below hB_9
  have O_9 := O_8.below hB_9
  have hbel_9 := hbel_8.next hB_9
  have hsz_9 := hB_9.size
  clear hB_9
  have R_9 := hbx
  clear hbx hbB
  have cR_9_0 : _ = some (Value.bool t) := R_9.cell 0
  have cR_9_1 : _ = some (Value.slice ra n2 rc) := R_9.cell 1
  have cR_9_2 : _ = some (Value.slice rb m2 rd) := R_9.cell 2
  have hz9 := hid (show (w8.alloc (.cells #[Value.bool t, Value.slice ra n2 rc, Value.slice rb m2 rd] 38)).heap.size = w8.heap.size + 1 from by simp)
  go_wp2_with fail
  clear X_8 cX_8_0 fX_8_0 cX_8_1 fX_8_1 cX_8_2 fX_8_2 Y_8 cY_8_0 fY_8_0 cY_8_1 fY_8_1 cY_8_2 fY_8_2 P_8 cP_8_0 cP_8_1 cP_8_2 A_8 B_8 C_8 D_8 L_8 M_8 N_8 O_8 hbel_8
  generalize (w8.alloc (.cells #[Value.bool t, Value.slice ra n2 rc, Value.slice rb m2 rd] 38)) = v9 at *
  have hbx := blk_new v9 #[] 45
  have hbB := (Below.refl v9.heap.size v9).alloc (Nat.le_refl _) (.cells #[] 45)
  have hltE := hbx.lt
  have hB_10 : Below v9.heap.size v9 (v9.alloc (.cells #[] 45)) := hbB
  have X_10 := X_9.next hB_10
  have cX_10_0 : _ = some (Value.bool s) := X_10.cell 0
  have fX_10_0 := X_10.free 0
  have cX_10_1 : _ = some (Value.slice a n1 c) := X_10.cell 1
  have fX_10_1 := X_10.free 1
  have cX_10_2 : _ = some (Value.slice b m1 d) := X_10.cell 2
  have fX_10_2 := X_10.free 2
  have Y_10 := Y_9.next hB_10
  have cY_10_0 : _ = some (Value.bool t) := Y_10.cell 0
  have fY_10_0 := Y_10.free 0
  have cY_10_1 : _ = some (Value.slice a' n2 c') := Y_10.cell 1
  have fY_10_1 := Y_10.free 1
  have cY_10_2 : _ = some (Value.slice b' m2 d') := Y_10.cell 2
  have fY_10_2 := Y_10.free 2
  have P_10 := P_9.next hB_10
  have cP_10_0 : _ = some (Value.bool s) := P_10.cell 0
  have cP_10_1 : _ = some (Value.slice pa n1 pc) := P_10.cell 1
  have cP_10_2 : _ = some (Value.slice pb m1 pd) := P_10.cell 2
  have R_10 := R_9.next hB_10
  have cR_10_0 : _ = some (Value.bool t) := R_10.cell 0
  have cR_10_1 : _ = some (Value.slice ra n2 rc) := R_10.cell 1
  have cR_10_2 : _ = some (Value.slice rb m2 rd) := R_10.cell 2
  have A_10 := A_9.below hB_10
  have B_10 := B_9.below hB_10
  have C_10 := C_9.below hB_10
  have D_10 := D_9.below hB_10
  have L_10 := L_9.below hB_10
  have M_10 := M_9.below hB_10
  have N_10 := N_9.below hB_10
  have O_10 := O_9.below hB_10
  have hbel_10 := hbel_9.next hB_10
  have hsz_10 := hB_10.size
  clear hB_10
  have E_10 := hbx
  clear hbx hbB
  have hz10 := hid (show (v9.alloc (.cells #[] 45)).heap.size = v9.heap.size + 1 from by simp)
  go_wp2_with fail
  clear X_9 cX_9_0 fX_9_0 cX_9_1 fX_9_1 cX_9_2 fX_9_2 Y_9 cY_9_0 fY_9_0 cY_9_1 fY_9_1 cY_9_2 fY_9_2 P_9 cP_9_0 cP_9_1 cP_9_2 R_9 cR_9_0 cR_9_1 cR_9_2 A_9 B_9 C_9 D_9 L_9 M_9 N_9 O_9 hbel_9
  generalize (v9.alloc (.cells #[] 45)) = v10 at *
  have hbx := blk_new v10 #[] 55
  have hbB := (Below.refl v10.heap.size v10).alloc (Nat.le_refl _) (.cells #[] 55)
  have hltG := hbx.lt
  have hB_11 : Below v10.heap.size v10 (v10.alloc (.cells #[] 55)) := hbB
  have X_11 := X_10.next hB_11
  have cX_11_0 : _ = some (Value.bool s) := X_11.cell 0
  have fX_11_0 := X_11.free 0
  have cX_11_1 : _ = some (Value.slice a n1 c) := X_11.cell 1
  have fX_11_1 := X_11.free 1
  have cX_11_2 : _ = some (Value.slice b m1 d) := X_11.cell 2
  have fX_11_2 := X_11.free 2
  have Y_11 := Y_10.next hB_11
  have cY_11_0 : _ = some (Value.bool t) := Y_11.cell 0
  have fY_11_0 := Y_11.free 0
  have cY_11_1 : _ = some (Value.slice a' n2 c') := Y_11.cell 1
  have fY_11_1 := Y_11.free 1
  have cY_11_2 : _ = some (Value.slice b' m2 d') := Y_11.cell 2
  have fY_11_2 := Y_11.free 2
  have P_11 := P_10.next hB_11
  have cP_11_0 : _ = some (Value.bool s) := P_11.cell 0
  have cP_11_1 : _ = some (Value.slice pa n1 pc) := P_11.cell 1
  have cP_11_2 : _ = some (Value.slice pb m1 pd) := P_11.cell 2
  have R_11 := R_10.next hB_11
  have cR_11_0 : _ = some (Value.bool t) := R_11.cell 0
  have cR_11_1 : _ = some (Value.slice ra n2 rc) := R_11.cell 1
  have cR_11_2 : _ = some (Value.slice rb m2 rd) := R_11.cell 2
  have E_11 := E_10.next hB_11
  have A_11 := A_10.below hB_11
  have B_11 := B_10.below hB_11
  have C_11 := C_10.below hB_11
  have D_11 := D_10.below hB_11
  have L_11 := L_10.below hB_11
  have M_11 := M_10.below hB_11
  have N_11 := N_10.below hB_11
  have O_11 := O_10.below hB_11
  have hbel_11 := hbel_10.next hB_11
  have hsz_11 := hB_11.size
  clear hB_11
  have G_11 := hbx
  clear hbx hbB
  have EM_11 := emp_new v10
  go_wp2_with fail
  clear X_10 cX_10_0 fX_10_0 cX_10_1 fX_10_1 cX_10_2 fX_10_2 Y_10 cY_10_0 fY_10_0 cY_10_1 fY_10_1 cY_10_2 fY_10_2 P_10 cP_10_0 cP_10_1 cP_10_2 R_10 cR_10_0 cR_10_1 cR_10_2 E_10 A_10 B_10 C_10 D_10 L_10 M_10 N_10 O_10 hbel_10
  generalize (v10.alloc (.cells #[] 55)) = v11 at *
  have EM_11 : Emp v11 (w8.heap.size + 1 + 1) := by rw [← hz9.out, ← hz10.out]; exact EM_11
  have mX := hid X_11
  have mY := hid Y_11
  have mP := hid P_11
  have mR := hid R_11
  have mE := hid E_11
  have mG := hid G_11
  have mA := hid A_11
  have mB := hid B_11
  have mC := hid C_11
  have mD := hid D_11
  have mL := hid L_11
  have mM := hid M_11
  have mN := hid N_11
  have mO := hid O_11
  have mEM := hid EM_11
  have mhbel := hid hbel_11
  have hbM_11 : Below v11.heap.size v11 v11 := Below.refl _ _
  obtain ⟨vM, hvM⟩ : ∃ y : World, y = v11 := ⟨_, rfl⟩
  subst hvM
  have T_11 := hid (told2_nil vM.heap.size vM)
  have hbT_11 : Below vM.heap.size vM vM := Below.refl _ _
  have QX_11 := rdq_of (K := 20) s A_11 hn1 B_11 hm1
  have QP_11 := rdq_of (K := 20) s L_11.2 hn1 M_11.2 hm1
  have QY_11 := rdq_of (K := 20) t C_11 hn2 D_11 hm2
  have QR_11 := rdq_of (K := 20) t N_11.2 hn2 O_11.2 hm2
  clear A_11
  clear B_11
  clear C_11
  clear D_11
  clear L_11
  clear M_11
  clear N_11
  clear O_11
  have hqx := hid (show QS (qv s (val l1) (val k1)) 20 from QX_11.qs (by omega))
  have hqy := hid (show QS (qv t (val l2) (val k2)) 20 from QY_11.qs (by omega))
  generalize qv s (val l1) (val k1) = qx at *
  generalize qv t (val l2) (val k2) = qy at *
  obtain ⟨o0, ho00⟩ : ∃ q : Rat, 0 = q := ⟨_, rfl⟩
  have ho0 := hid ho00
  have qo0 := hid (show QS o0 60 from ho00 ▸ qs_zero.mono (by omega))
  clear ho00
  obtain ⟨o1, ho10⟩ : ∃ q : Rat, 1 = q := ⟨_, rfl⟩
  have ho1 := hid ho10
  have qo1 := hid (show QS o1 60 from ho10 ▸ (qs_lit (by decide) (by decide) (Nat.le_refl _) : QS 1 1).mono (by omega))
  clear ho10
  obtain ⟨o2, ho20⟩ : ∃ q : Rat, qx + qy = q := ⟨_, rfl⟩
  have ho2 := hid ho20
  have qo2 := hid (show QS o2 60 from ho20 ▸ (hqx.out.add hqy.out).mono (by omega))
  clear ho20
  obtain ⟨o3, ho30⟩ : ∃ q : Rat, qx * qy = q := ⟨_, rfl⟩
  have ho3 := hid ho30
  have qo3 := hid (show QS o3 60 from ho30 ▸ (hqx.out.mul hqy.out).mono (by omega))
  clear ho30
  obtain ⟨o6, ho60⟩ : ∃ q : Rat, mxQ qx qy = q := ⟨_, rfl⟩
  have ho6 := hid ho60
  have qo6 := hid (show QS o6 60 from ho60 ▸ (mxQ_qs hqx.out hqy.out).mono (by omega))
  clear ho60
  obtain ⟨o8, ho80⟩ : ∃ q : Rat, mxQ qy qx = q := ⟨_, rfl⟩
  have ho8 := hid ho80
  have qo8 := hid (show QS o8 60 from ho80 ▸ (mxQ_qs hqy.out hqx.out).mono (by omega))
  clear ho80
  obtain ⟨o9, ho90⟩ : ∃ q : Rat, mxQ qx qx = q := ⟨_, rfl⟩
  have ho9 := hid ho90
  have qo9 := hid (show QS o9 60 from ho90 ▸ (mxQ_qs hqx.out hqx.out).mono (by omega))
  clear ho90
  have h9 := hid (show qx = o9 from (mxQ_self qx).symm.trans ho9.out)
  have HZ := hid (fun w => (show Calls Tryz.prog 32 #[.agg #[]] w (RetQ w o0) from ho0.out ▸ kzero))
  have H1 := hid (fun w => (show Calls Tryz.prog 33 #[.agg #[]] w (RetQ w o1) from ho1.out ▸ kone))
  have G0 := hid (fun w => (show Calls Tryz.prog 20 #[.int .i64 0, .int .i64 1] w (RetQ w o0) from by have h := fhalf (w := w) 0 1 (by omega) (by omega) (by omega) (by omega) (by omega); rwa [show Rat.divInt 0 1 = o0 from (by decide : Rat.divInt 0 1 = 0).trans ho0.out] at h))
  have G1 := hid (fun w => (show Calls Tryz.prog 20 #[.int .i64 1, .int .i64 1] w (RetQ w o1) from by have h := fhalf (w := w) 1 1 (by omega) (by omega) (by omega) (by omega) (by omega); rwa [show Rat.divInt 1 1 = o1 from (by decide : Rat.divInt 1 1 = 1).trans ho1.out] at h))
  obtain ⟨sm, hsm0⟩ : ∃ b : Bool, (cmpQ qx qy == 0) = b := ⟨_, rfl⟩
  have hsm := hid hsm0
  clear hsm0
  have bsm : (sm == sm) = true := beq_self_eq_true _
  go_wp2_with fail
  go_region_held3 (fun w' => w'.cell? ⟨w6.heap.size, 0, none⟩ = some (Value.bool s) ∧ w'.cell? ⟨w6.heap.size, 1, none⟩ = some (Value.slice pa n1 pc) ∧ w'.cell? ⟨w6.heap.size, 2, none⟩ = some (Value.slice pb m1 pd) ∧ w'.cell? ⟨w8.heap.size, 0, none⟩ = some (Value.bool t) ∧ w'.cell? ⟨w8.heap.size, 1, none⟩ = some (Value.slice ra n2 rc) ∧ w'.cell? ⟨w8.heap.size, 2, none⟩ = some (Value.slice rb m2 rd) ∧ (Go.partAt ⟨w8.heap.size + 1 + 1, 0, none⟩ 0 0).run Tryz.prog w' = .ok ⟨w8.heap.size + 1 + 1, 0, none⟩ w')
    (first | with_reducible exact ⟨cP_11_0, cP_11_1, cP_11_2, cR_11_0, cR_11_1, cR_11_2, EM_11.pt0⟩ | (and_intros <;> first | go_keep | with_reducible exact EM_11.pt0 | exact EM_11.drew.pt0 | exact (EM_11.alloc _).pt0) | with_reducible exact ⟨cP_12_0, cP_12_1, cP_12_2, cR_12_0, cR_12_1, cR_12_2, EM_12.pt0⟩ | (and_intros <;> first | go_keep | with_reducible exact EM_12.pt0 | exact EM_12.drew.pt0 | exact (EM_12.alloc _).pt0) | with_reducible exact ⟨cP_13_0, cP_13_1, cP_13_2, cR_13_0, cR_13_1, cR_13_2, EM_13.pt0⟩ | (and_intros <;> first | go_keep | with_reducible exact EM_13.pt0 | exact EM_13.drew.pt0 | exact (EM_13.alloc _).pt0) | with_reducible exact ⟨cP_14_0, cP_14_1, cP_14_2, cR_14_0, cR_14_1, cR_14_2, EM_14.pt0⟩ | (and_intros <;> first | go_keep | with_reducible exact EM_14.pt0 | exact EM_14.drew.pt0 | exact (EM_14.alloc _).pt0) | with_reducible exact ⟨cP_15_0, cP_15_1, cP_15_2, cR_15_0, cR_15_1, cR_15_2, EM_15.pt0⟩ | (and_intros <;> first | go_keep | with_reducible exact EM_15.pt0 | exact EM_15.drew.pt0 | exact (EM_15.alloc _).pt0) | with_reducible exact ⟨cP_16_0, cP_16_1, cP_16_2, cR_16_0, cR_16_1, cR_16_2, EM_16.pt0⟩ | (and_intros <;> first | go_keep | with_reducible exact EM_16.pt0 | exact EM_16.drew.pt0 | exact (EM_16.alloc _).pt0) | with_reducible exact ⟨cP_17_0, cP_17_1, cP_17_2, cR_17_0, cR_17_1, cR_17_2, EM_17.pt0⟩ | (and_intros <;> first | go_keep | with_reducible exact EM_17.pt0 | exact EM_17.drew.pt0 | exact (EM_17.alloc _).pt0) | with_reducible exact ⟨cP_18_0, cP_18_1, cP_18_2, cR_18_0, cR_18_1, cR_18_2, EM_18.pt0⟩ | (and_intros <;> first | go_keep | with_reducible exact EM_18.pt0 | exact EM_18.drew.pt0 | exact (EM_18.alloc _).pt0) | with_reducible exact ⟨cP_19_0, cP_19_1, cP_19_2, cR_19_0, cR_19_1, cR_19_2, EM_19.pt0⟩ | (and_intros <;> first | go_keep | with_reducible exact EM_19.pt0 | exact EM_19.drew.pt0 | exact (EM_19.alloc _).pt0) | with_reducible exact ⟨cP_20_0, cP_20_1, cP_20_2, cR_20_0, cR_20_1, cR_20_2, EM_20.pt0⟩ | (and_intros <;> first | go_keep | with_reducible exact EM_20.pt0 | exact EM_20.drew.pt0 | exact (EM_20.alloc _).pt0) | with_reducible exact ⟨cP_21_0, cP_21_1, cP_21_2, cR_21_0, cR_21_1, cR_21_2, EM_21.pt0⟩ | (and_intros <;> first | go_keep | with_reducible exact EM_21.pt0 | exact EM_21.drew.pt0 | exact (EM_21.alloc _).pt0) | go_keep)
    (first
      | (go_at_call 32; ((with_reducible refine ((beside hbel_11 (HZ.out _))).mono ?_); (rintro e w12 ⟨g0a, g0n, g0c, g0b, g0m, g0d, rfl, hO, hO', hD, hB⟩; have hBT : Below vM.heap.size vM w12 := (bl.next hB); have T_12 := hid (T_11.out.cons2 (by have := hbT_11.size; omega) (show Own vM.heap.size w12 _ _ _ _ from by first | exact hO | exact hO.mono (by simp)) (show Own vM.heap.size w12 _ _ _ _ from by first | exact hO' | exact hO'.mono (by simp)) hD hBT (Nat.le_trans qo0.out.len1 (by omega)) (Nat.le_trans qo0.out.len2 (by omega))); have hbT_12 := hbT_11.next hBT; clear T_11 hbT_11 hBT; have hB_12 : Below vM.heap.size vM w12 := (bl.next hB); have X_12 := X_11.next hB_12; have cX_12_0 : _ = some (Value.bool s) := X_12.cell 0; have fX_12_0 := X_12.free 0; have cX_12_1 : _ = some (Value.slice a n1 c) := X_12.cell 1; have fX_12_1 := X_12.free 1; have cX_12_2 : _ = some (Value.slice b m1 d) := X_12.cell 2; have fX_12_2 := X_12.free 2; have Y_12 := Y_11.next hB_12; have cY_12_0 : _ = some (Value.bool t) := Y_12.cell 0; have fY_12_0 := Y_12.free 0; have cY_12_1 : _ = some (Value.slice a' n2 c') := Y_12.cell 1; have fY_12_1 := Y_12.free 1; have cY_12_2 : _ = some (Value.slice b' m2 d') := Y_12.cell 2; have fY_12_2 := Y_12.free 2; have P_12 := P_11.next hB_12; have cP_12_0 : _ = some (Value.bool s) := P_12.cell 0; have cP_12_1 : _ = some (Value.slice pa n1 pc) := P_12.cell 1; have cP_12_2 : _ = some (Value.slice pb m1 pd) := P_12.cell 2; have R_12 := R_11.next hB_12; have cR_12_0 : _ = some (Value.bool t) := R_12.cell 0; have cR_12_1 : _ = some (Value.slice ra n2 rc) := R_12.cell 1; have cR_12_2 : _ = some (Value.slice rb m2 rd) := R_12.cell 2; have E_12 := E_11.next hB_12; have G_12 := G_11.next hB_12; have EM_12 := EM_11.below hB_12; have hbM_12 := hbM_11.next hB_12; have QX_12 := QX_11.below hB_12; have QP_12 := QP_11.below hB_12; have QY_12 := QY_11.below hB_12; have QR_12 := QR_11.below hB_12; have hbel_12 := hbel_11.next hB_12; have hsz_12 := hB_12.size; clear X_11 cX_11_0 fX_11_0 cX_11_1 fX_11_1 cX_11_2 fX_11_2 Y_11 cY_11_0 fY_11_0 cY_11_1 fY_11_1 cY_11_2 fY_11_2 P_11 cP_11_0 cP_11_1 cP_11_2 R_11 cR_11_0 cR_11_1 cR_11_2 E_11 G_11 EM_11 hbM_11 QX_11 QP_11 QY_11 QR_11 hbel_11 hB_12; have pEM_12 := EM_12.pt0; (try clear pEM_11); have Og0_12 := hO; have ltOg0 := hO.ltB; have Pg0_12 := hO'; have ltPg0 := hO'.ltB; clear hO hO' hD; try clear hB)))
      | (go_at_call 33; ((with_reducible refine ((beside hbel_12 (H1.out _))).mono ?_); (rintro e w13 ⟨g1a, g1n, g1c, g1b, g1m, g1d, rfl, hO, hO', hD, hB⟩; have hBT : Below w12.heap.size w12 w13 := (bl.next hB); have T_13 := hid (T_12.out.cons2 (by have := hbT_12.size; omega) (show Own w12.heap.size w13 _ _ _ _ from by first | exact hO | exact hO.mono (by simp)) (show Own w12.heap.size w13 _ _ _ _ from by first | exact hO' | exact hO'.mono (by simp)) hD hBT (Nat.le_trans qo1.out.len1 (by omega)) (Nat.le_trans qo1.out.len2 (by omega))); have hbT_13 := hbT_12.next hBT; clear T_12 hbT_12 hBT; have hB_13 : Below w12.heap.size w12 w13 := (bl.next hB); have X_13 := X_12.next hB_13; have cX_13_0 : _ = some (Value.bool s) := X_13.cell 0; have fX_13_0 := X_13.free 0; have cX_13_1 : _ = some (Value.slice a n1 c) := X_13.cell 1; have fX_13_1 := X_13.free 1; have cX_13_2 : _ = some (Value.slice b m1 d) := X_13.cell 2; have fX_13_2 := X_13.free 2; have Y_13 := Y_12.next hB_13; have cY_13_0 : _ = some (Value.bool t) := Y_13.cell 0; have fY_13_0 := Y_13.free 0; have cY_13_1 : _ = some (Value.slice a' n2 c') := Y_13.cell 1; have fY_13_1 := Y_13.free 1; have cY_13_2 : _ = some (Value.slice b' m2 d') := Y_13.cell 2; have fY_13_2 := Y_13.free 2; have P_13 := P_12.next hB_13; have cP_13_0 : _ = some (Value.bool s) := P_13.cell 0; have cP_13_1 : _ = some (Value.slice pa n1 pc) := P_13.cell 1; have cP_13_2 : _ = some (Value.slice pb m1 pd) := P_13.cell 2; have R_13 := R_12.next hB_13; have cR_13_0 : _ = some (Value.bool t) := R_13.cell 0; have cR_13_1 : _ = some (Value.slice ra n2 rc) := R_13.cell 1; have cR_13_2 : _ = some (Value.slice rb m2 rd) := R_13.cell 2; have E_13 := E_12.next hB_13; have G_13 := G_12.next hB_13; have EM_13 := EM_12.below hB_13; have hbM_13 := hbM_12.next hB_13; have QX_13 := QX_12.below hB_13; have QP_13 := QP_12.below hB_13; have QY_13 := QY_12.below hB_13; have QR_13 := QR_12.below hB_13; have Og0_13 := Og0_12.below hB_13; have Pg0_13 := Pg0_12.below hB_13; have hbel_13 := hbel_12.next hB_13; have hsz_13 := hB_13.size; clear X_12 cX_12_0 fX_12_0 cX_12_1 fX_12_1 cX_12_2 fX_12_2 Y_12 cY_12_0 fY_12_0 cY_12_1 fY_12_1 cY_12_2 fY_12_2 P_12 cP_12_0 cP_12_1 cP_12_2 R_12 cR_12_0 cR_12_1 cR_12_2 E_12 G_12 EM_12 hbM_12 QX_12 QP_12 QY_12 QR_12 Og0_12 Pg0_12 hbel_12 hB_13; have pEM_13 := EM_13.pt0; (try clear pEM_12); have Og1_13 := hO; have ltOg1 := hO.ltB; have Pg1_13 := hO'; have ltPg1 := hO'.ltB; clear hO hO' hD; try clear hB)))
      | (go_at_call 34; ((with_reducible refine (kadd (QP_13.below bl) (by omega) (QR_13.below bl) (by omega)).mono ?_); (rw [ho2.out]; rintro e w14 ⟨g2a, g2n, g2c, g2b, g2m, g2d, rfl, hO, hO', hD, hB⟩; have hBT : Below w13.heap.size w13 w14 := (bl.next hB); have T_14 := hid (T_13.out.cons2 (by have := hbT_13.size; omega) (show Own w13.heap.size w14 _ _ _ _ from by first | exact hO | exact hO.mono (by simp)) (show Own w13.heap.size w14 _ _ _ _ from by first | exact hO' | exact hO'.mono (by simp)) hD hBT (Nat.le_trans qo2.out.len1 (by omega)) (Nat.le_trans qo2.out.len2 (by omega))); have hbT_14 := hbT_13.next hBT; clear T_13 hbT_13 hBT; have hB_14 : Below w13.heap.size w13 w14 := (bl.next hB); have X_14 := X_13.next hB_14; have cX_14_0 : _ = some (Value.bool s) := X_14.cell 0; have fX_14_0 := X_14.free 0; have cX_14_1 : _ = some (Value.slice a n1 c) := X_14.cell 1; have fX_14_1 := X_14.free 1; have cX_14_2 : _ = some (Value.slice b m1 d) := X_14.cell 2; have fX_14_2 := X_14.free 2; have Y_14 := Y_13.next hB_14; have cY_14_0 : _ = some (Value.bool t) := Y_14.cell 0; have fY_14_0 := Y_14.free 0; have cY_14_1 : _ = some (Value.slice a' n2 c') := Y_14.cell 1; have fY_14_1 := Y_14.free 1; have cY_14_2 : _ = some (Value.slice b' m2 d') := Y_14.cell 2; have fY_14_2 := Y_14.free 2; have P_14 := P_13.next hB_14; have cP_14_0 : _ = some (Value.bool s) := P_14.cell 0; have cP_14_1 : _ = some (Value.slice pa n1 pc) := P_14.cell 1; have cP_14_2 : _ = some (Value.slice pb m1 pd) := P_14.cell 2; have R_14 := R_13.next hB_14; have cR_14_0 : _ = some (Value.bool t) := R_14.cell 0; have cR_14_1 : _ = some (Value.slice ra n2 rc) := R_14.cell 1; have cR_14_2 : _ = some (Value.slice rb m2 rd) := R_14.cell 2; have E_14 := E_13.next hB_14; have G_14 := G_13.next hB_14; have EM_14 := EM_13.below hB_14; have hbM_14 := hbM_13.next hB_14; have QX_14 := QX_13.below hB_14; have QP_14 := QP_13.below hB_14; have QY_14 := QY_13.below hB_14; have QR_14 := QR_13.below hB_14; have Og0_14 := Og0_13.below hB_14; have Pg0_14 := Pg0_13.below hB_14; have Og1_14 := Og1_13.below hB_14; have Pg1_14 := Pg1_13.below hB_14; have hbel_14 := hbel_13.next hB_14; have hsz_14 := hB_14.size; clear X_13 cX_13_0 fX_13_0 cX_13_1 fX_13_1 cX_13_2 fX_13_2 Y_13 cY_13_0 fY_13_0 cY_13_1 fY_13_1 cY_13_2 fY_13_2 P_13 cP_13_0 cP_13_1 cP_13_2 R_13 cR_13_0 cR_13_1 cR_13_2 E_13 G_13 EM_13 hbM_13 QX_13 QP_13 QY_13 QR_13 Og0_13 Pg0_13 Og1_13 Pg1_13 hbel_13 hB_14; have pEM_14 := EM_14.pt0; (try clear pEM_13); have Og2_14 := hO; have ltOg2 := hO.ltB; have Pg2_14 := hO'; have ltPg2 := hO'.ltB; clear hO hO' hD; try clear hB)))
      | (go_at_call 35; ((with_reducible refine (kmul (QP_14.below bl) (by omega) (QR_14.below bl) (by omega)).mono ?_); (rw [ho3.out]; rintro e w15 ⟨g3a, g3n, g3c, g3b, g3m, g3d, rfl, hO, hO', hD, hB⟩; have hBT : Below w14.heap.size w14 w15 := (bl.next hB); have T_15 := hid (T_14.out.cons2 (by have := hbT_14.size; omega) (show Own w14.heap.size w15 _ _ _ _ from by first | exact hO | exact hO.mono (by simp)) (show Own w14.heap.size w15 _ _ _ _ from by first | exact hO' | exact hO'.mono (by simp)) hD hBT (Nat.le_trans qo3.out.len1 (by omega)) (Nat.le_trans qo3.out.len2 (by omega))); have hbT_15 := hbT_14.next hBT; clear T_14 hbT_14 hBT; have hB_15 : Below w14.heap.size w14 w15 := (bl.next hB); have X_15 := X_14.next hB_15; have cX_15_0 : _ = some (Value.bool s) := X_15.cell 0; have fX_15_0 := X_15.free 0; have cX_15_1 : _ = some (Value.slice a n1 c) := X_15.cell 1; have fX_15_1 := X_15.free 1; have cX_15_2 : _ = some (Value.slice b m1 d) := X_15.cell 2; have fX_15_2 := X_15.free 2; have Y_15 := Y_14.next hB_15; have cY_15_0 : _ = some (Value.bool t) := Y_15.cell 0; have fY_15_0 := Y_15.free 0; have cY_15_1 : _ = some (Value.slice a' n2 c') := Y_15.cell 1; have fY_15_1 := Y_15.free 1; have cY_15_2 : _ = some (Value.slice b' m2 d') := Y_15.cell 2; have fY_15_2 := Y_15.free 2; have P_15 := P_14.next hB_15; have cP_15_0 : _ = some (Value.bool s) := P_15.cell 0; have cP_15_1 : _ = some (Value.slice pa n1 pc) := P_15.cell 1; have cP_15_2 : _ = some (Value.slice pb m1 pd) := P_15.cell 2; have R_15 := R_14.next hB_15; have cR_15_0 : _ = some (Value.bool t) := R_15.cell 0; have cR_15_1 : _ = some (Value.slice ra n2 rc) := R_15.cell 1; have cR_15_2 : _ = some (Value.slice rb m2 rd) := R_15.cell 2; have E_15 := E_14.next hB_15; have G_15 := G_14.next hB_15; have EM_15 := EM_14.below hB_15; have hbM_15 := hbM_14.next hB_15; have QX_15 := QX_14.below hB_15; have QP_15 := QP_14.below hB_15; have QY_15 := QY_14.below hB_15; have QR_15 := QR_14.below hB_15; have Og0_15 := Og0_14.below hB_15; have Pg0_15 := Pg0_14.below hB_15; have Og1_15 := Og1_14.below hB_15; have Pg1_15 := Pg1_14.below hB_15; have Og2_15 := Og2_14.below hB_15; have Pg2_15 := Pg2_14.below hB_15; have hbel_15 := hbel_14.next hB_15; have hsz_15 := hB_15.size; clear X_14 cX_14_0 fX_14_0 cX_14_1 fX_14_1 cX_14_2 fX_14_2 Y_14 cY_14_0 fY_14_0 cY_14_1 fY_14_1 cY_14_2 fY_14_2 P_14 cP_14_0 cP_14_1 cP_14_2 R_14 cR_14_0 cR_14_1 cR_14_2 E_14 G_14 EM_14 hbM_14 QX_14 QP_14 QY_14 QR_14 Og0_14 Pg0_14 Og1_14 Pg1_14 Og2_14 Pg2_14 hbel_14 hB_15; have pEM_15 := EM_15.pt0; (try clear pEM_14); have Og3_15 := hO; have ltOg3 := hO.ltB; have Pg3_15 := hO'; have ltPg3 := hO'.ltB; clear hO hO' hD; try clear hB)))
      | (go_at_call 32; ((with_reducible refine ((beside hbel_15 (HZ.out _))).mono ?_); (rintro e w16 ⟨g4a, g4n, g4c, g4b, g4m, g4d, rfl, hO, hO', hD, hB⟩; have hBT : Below w15.heap.size w15 w16 := (bl.next hB); have T_16 := hid (T_15.out.cons2 (by have := hbT_15.size; omega) (show Own w15.heap.size w16 _ _ _ _ from by first | exact hO | exact hO.mono (by simp)) (show Own w15.heap.size w16 _ _ _ _ from by first | exact hO' | exact hO'.mono (by simp)) hD hBT (Nat.le_trans qo0.out.len1 (by omega)) (Nat.le_trans qo0.out.len2 (by omega))); have hbT_16 := hbT_15.next hBT; clear T_15 hbT_15 hBT; have hB_16 : Below w15.heap.size w15 w16 := (bl.next hB); have X_16 := X_15.next hB_16; have cX_16_0 : _ = some (Value.bool s) := X_16.cell 0; have fX_16_0 := X_16.free 0; have cX_16_1 : _ = some (Value.slice a n1 c) := X_16.cell 1; have fX_16_1 := X_16.free 1; have cX_16_2 : _ = some (Value.slice b m1 d) := X_16.cell 2; have fX_16_2 := X_16.free 2; have Y_16 := Y_15.next hB_16; have cY_16_0 : _ = some (Value.bool t) := Y_16.cell 0; have fY_16_0 := Y_16.free 0; have cY_16_1 : _ = some (Value.slice a' n2 c') := Y_16.cell 1; have fY_16_1 := Y_16.free 1; have cY_16_2 : _ = some (Value.slice b' m2 d') := Y_16.cell 2; have fY_16_2 := Y_16.free 2; have P_16 := P_15.next hB_16; have cP_16_0 : _ = some (Value.bool s) := P_16.cell 0; have cP_16_1 : _ = some (Value.slice pa n1 pc) := P_16.cell 1; have cP_16_2 : _ = some (Value.slice pb m1 pd) := P_16.cell 2; have R_16 := R_15.next hB_16; have cR_16_0 : _ = some (Value.bool t) := R_16.cell 0; have cR_16_1 : _ = some (Value.slice ra n2 rc) := R_16.cell 1; have cR_16_2 : _ = some (Value.slice rb m2 rd) := R_16.cell 2; have E_16 := E_15.next hB_16; have G_16 := G_15.next hB_16; have EM_16 := EM_15.below hB_16; have hbM_16 := hbM_15.next hB_16; have QX_16 := QX_15.below hB_16; have QP_16 := QP_15.below hB_16; have QY_16 := QY_15.below hB_16; have QR_16 := QR_15.below hB_16; have Og0_16 := Og0_15.below hB_16; have Pg0_16 := Pg0_15.below hB_16; have Og1_16 := Og1_15.below hB_16; have Pg1_16 := Pg1_15.below hB_16; have Og2_16 := Og2_15.below hB_16; have Pg2_16 := Pg2_15.below hB_16; have Og3_16 := Og3_15.below hB_16; have Pg3_16 := Pg3_15.below hB_16; have hbel_16 := hbel_15.next hB_16; have hsz_16 := hB_16.size; clear X_15 cX_15_0 fX_15_0 cX_15_1 fX_15_1 cX_15_2 fX_15_2 Y_15 cY_15_0 fY_15_0 cY_15_1 fY_15_1 cY_15_2 fY_15_2 P_15 cP_15_0 cP_15_1 cP_15_2 R_15 cR_15_0 cR_15_1 cR_15_2 E_15 G_15 EM_15 hbM_15 QX_15 QP_15 QY_15 QR_15 Og0_15 Pg0_15 Og1_15 Pg1_15 Og2_15 Pg2_15 Og3_15 Pg3_15 hbel_15 hB_16; have pEM_16 := EM_16.pt0; (try clear pEM_15); have Og4_16 := hO; have ltOg4 := hO.ltB; have Pg4_16 := hO'; have ltPg4 := hO'.ltB; clear hO hO' hD; try clear hB)))
      | (go_at_call 33; ((with_reducible refine ((beside hbel_16 (H1.out _))).mono ?_); (rintro e w17 ⟨g5a, g5n, g5c, g5b, g5m, g5d, rfl, hO, hO', hD, hB⟩; have hBT : Below w16.heap.size w16 w17 := (bl.next hB); have T_17 := hid (T_16.out.cons2 (by have := hbT_16.size; omega) (show Own w16.heap.size w17 _ _ _ _ from by first | exact hO | exact hO.mono (by simp)) (show Own w16.heap.size w17 _ _ _ _ from by first | exact hO' | exact hO'.mono (by simp)) hD hBT (Nat.le_trans qo1.out.len1 (by omega)) (Nat.le_trans qo1.out.len2 (by omega))); have hbT_17 := hbT_16.next hBT; clear T_16 hbT_16 hBT; have hB_17 : Below w16.heap.size w16 w17 := (bl.next hB); have X_17 := X_16.next hB_17; have cX_17_0 : _ = some (Value.bool s) := X_17.cell 0; have fX_17_0 := X_17.free 0; have cX_17_1 : _ = some (Value.slice a n1 c) := X_17.cell 1; have fX_17_1 := X_17.free 1; have cX_17_2 : _ = some (Value.slice b m1 d) := X_17.cell 2; have fX_17_2 := X_17.free 2; have Y_17 := Y_16.next hB_17; have cY_17_0 : _ = some (Value.bool t) := Y_17.cell 0; have fY_17_0 := Y_17.free 0; have cY_17_1 : _ = some (Value.slice a' n2 c') := Y_17.cell 1; have fY_17_1 := Y_17.free 1; have cY_17_2 : _ = some (Value.slice b' m2 d') := Y_17.cell 2; have fY_17_2 := Y_17.free 2; have P_17 := P_16.next hB_17; have cP_17_0 : _ = some (Value.bool s) := P_17.cell 0; have cP_17_1 : _ = some (Value.slice pa n1 pc) := P_17.cell 1; have cP_17_2 : _ = some (Value.slice pb m1 pd) := P_17.cell 2; have R_17 := R_16.next hB_17; have cR_17_0 : _ = some (Value.bool t) := R_17.cell 0; have cR_17_1 : _ = some (Value.slice ra n2 rc) := R_17.cell 1; have cR_17_2 : _ = some (Value.slice rb m2 rd) := R_17.cell 2; have E_17 := E_16.next hB_17; have G_17 := G_16.next hB_17; have EM_17 := EM_16.below hB_17; have hbM_17 := hbM_16.next hB_17; have QX_17 := QX_16.below hB_17; have QP_17 := QP_16.below hB_17; have QY_17 := QY_16.below hB_17; have QR_17 := QR_16.below hB_17; have Og0_17 := Og0_16.below hB_17; have Pg0_17 := Pg0_16.below hB_17; have Og1_17 := Og1_16.below hB_17; have Pg1_17 := Pg1_16.below hB_17; have Og2_17 := Og2_16.below hB_17; have Pg2_17 := Pg2_16.below hB_17; have Og3_17 := Og3_16.below hB_17; have Pg3_17 := Pg3_16.below hB_17; have Og4_17 := Og4_16.below hB_17; have Pg4_17 := Pg4_16.below hB_17; have hbel_17 := hbel_16.next hB_17; have hsz_17 := hB_17.size; clear X_16 cX_16_0 fX_16_0 cX_16_1 fX_16_1 cX_16_2 fX_16_2 Y_16 cY_16_0 fY_16_0 cY_16_1 fY_16_1 cY_16_2 fY_16_2 P_16 cP_16_0 cP_16_1 cP_16_2 R_16 cR_16_0 cR_16_1 cR_16_2 E_16 G_16 EM_16 hbM_16 QX_16 QP_16 QY_16 QR_16 Og0_16 Pg0_16 Og1_16 Pg1_16 Og2_16 Pg2_16 Og3_16 Pg3_16 Og4_16 Pg4_16 hbel_16 hB_17; have pEM_17 := EM_17.pt0; (try clear pEM_16); have Og5_17 := hO; have ltOg5 := hO.ltB; have Pg5_17 := hO'; have ltPg5 := hO'.ltB; clear hO hO' hD; try clear hB)))
      | (go_at_call 36; ((with_reducible refine (kmost (QP_17.below bl) (by omega) (QR_17.below bl) (by omega) (by omega) (by omega)).mono ?_); (rw [ho6.out]; rintro e w18 ⟨g6a, g6n, g6c, g6b, g6m, g6d, rfl, hO, hO', hD, hB⟩; have hBT : Below w17.heap.size w17 w18 := (bl.next hB); have T_18 := hid (T_17.out.cons2 (by have := hbT_17.size; omega) (show Own w17.heap.size w18 _ _ _ _ from by first | exact hO | exact hO.mono (by simp)) (show Own w17.heap.size w18 _ _ _ _ from by first | exact hO' | exact hO'.mono (by simp)) hD hBT (Nat.le_trans qo6.out.len1 (by omega)) (Nat.le_trans qo6.out.len2 (by omega))); have hbT_18 := hbT_17.next hBT; clear T_17 hbT_17 hBT; have hB_18 : Below w17.heap.size w17 w18 := (bl.next hB); have X_18 := X_17.next hB_18; have cX_18_0 : _ = some (Value.bool s) := X_18.cell 0; have fX_18_0 := X_18.free 0; have cX_18_1 : _ = some (Value.slice a n1 c) := X_18.cell 1; have fX_18_1 := X_18.free 1; have cX_18_2 : _ = some (Value.slice b m1 d) := X_18.cell 2; have fX_18_2 := X_18.free 2; have Y_18 := Y_17.next hB_18; have cY_18_0 : _ = some (Value.bool t) := Y_18.cell 0; have fY_18_0 := Y_18.free 0; have cY_18_1 : _ = some (Value.slice a' n2 c') := Y_18.cell 1; have fY_18_1 := Y_18.free 1; have cY_18_2 : _ = some (Value.slice b' m2 d') := Y_18.cell 2; have fY_18_2 := Y_18.free 2; have P_18 := P_17.next hB_18; have cP_18_0 : _ = some (Value.bool s) := P_18.cell 0; have cP_18_1 : _ = some (Value.slice pa n1 pc) := P_18.cell 1; have cP_18_2 : _ = some (Value.slice pb m1 pd) := P_18.cell 2; have R_18 := R_17.next hB_18; have cR_18_0 : _ = some (Value.bool t) := R_18.cell 0; have cR_18_1 : _ = some (Value.slice ra n2 rc) := R_18.cell 1; have cR_18_2 : _ = some (Value.slice rb m2 rd) := R_18.cell 2; have E_18 := E_17.next hB_18; have G_18 := G_17.next hB_18; have EM_18 := EM_17.below hB_18; have hbM_18 := hbM_17.next hB_18; have QX_18 := QX_17.below hB_18; have QP_18 := QP_17.below hB_18; have QY_18 := QY_17.below hB_18; have QR_18 := QR_17.below hB_18; have Og0_18 := Og0_17.below hB_18; have Pg0_18 := Pg0_17.below hB_18; have Og1_18 := Og1_17.below hB_18; have Pg1_18 := Pg1_17.below hB_18; have Og2_18 := Og2_17.below hB_18; have Pg2_18 := Pg2_17.below hB_18; have Og3_18 := Og3_17.below hB_18; have Pg3_18 := Pg3_17.below hB_18; have Og4_18 := Og4_17.below hB_18; have Pg4_18 := Pg4_17.below hB_18; have Og5_18 := Og5_17.below hB_18; have Pg5_18 := Pg5_17.below hB_18; have hbel_18 := hbel_17.next hB_18; have hsz_18 := hB_18.size; clear X_17 cX_17_0 fX_17_0 cX_17_1 fX_17_1 cX_17_2 fX_17_2 Y_17 cY_17_0 fY_17_0 cY_17_1 fY_17_1 cY_17_2 fY_17_2 P_17 cP_17_0 cP_17_1 cP_17_2 R_17 cR_17_0 cR_17_1 cR_17_2 E_17 G_17 EM_17 hbM_17 QX_17 QP_17 QY_17 QR_17 Og0_17 Pg0_17 Og1_17 Pg1_17 Og2_17 Pg2_17 Og3_17 Pg3_17 Og4_17 Pg4_17 Og5_17 Pg5_17 hbel_17 hB_18; have pEM_18 := EM_18.pt0; (try clear pEM_17); have Og6_18 := hO; have ltOg6 := hO.ltB; have Pg6_18 := hO'; have ltPg6 := hO'.ltB; clear hO hO' hD; try clear hB)))
      | (go_at_call 35; ((with_reducible refine (kmul (QP_18.below bl) (by omega) (QR_18.below bl) (by omega)).mono ?_); (rw [ho3.out]; rintro e w19 ⟨g7a, g7n, g7c, g7b, g7m, g7d, rfl, hO, hO', hD, hB⟩; have hBT : Below w18.heap.size w18 w19 := (bl.next hB); have T_19 := hid (T_18.out.cons2 (by have := hbT_18.size; omega) (show Own w18.heap.size w19 _ _ _ _ from by first | exact hO | exact hO.mono (by simp)) (show Own w18.heap.size w19 _ _ _ _ from by first | exact hO' | exact hO'.mono (by simp)) hD hBT (Nat.le_trans qo3.out.len1 (by omega)) (Nat.le_trans qo3.out.len2 (by omega))); have hbT_19 := hbT_18.next hBT; clear T_18 hbT_18 hBT; have hB_19 : Below w18.heap.size w18 w19 := (bl.next hB); have X_19 := X_18.next hB_19; have cX_19_0 : _ = some (Value.bool s) := X_19.cell 0; have fX_19_0 := X_19.free 0; have cX_19_1 : _ = some (Value.slice a n1 c) := X_19.cell 1; have fX_19_1 := X_19.free 1; have cX_19_2 : _ = some (Value.slice b m1 d) := X_19.cell 2; have fX_19_2 := X_19.free 2; have Y_19 := Y_18.next hB_19; have cY_19_0 : _ = some (Value.bool t) := Y_19.cell 0; have fY_19_0 := Y_19.free 0; have cY_19_1 : _ = some (Value.slice a' n2 c') := Y_19.cell 1; have fY_19_1 := Y_19.free 1; have cY_19_2 : _ = some (Value.slice b' m2 d') := Y_19.cell 2; have fY_19_2 := Y_19.free 2; have P_19 := P_18.next hB_19; have cP_19_0 : _ = some (Value.bool s) := P_19.cell 0; have cP_19_1 : _ = some (Value.slice pa n1 pc) := P_19.cell 1; have cP_19_2 : _ = some (Value.slice pb m1 pd) := P_19.cell 2; have R_19 := R_18.next hB_19; have cR_19_0 : _ = some (Value.bool t) := R_19.cell 0; have cR_19_1 : _ = some (Value.slice ra n2 rc) := R_19.cell 1; have cR_19_2 : _ = some (Value.slice rb m2 rd) := R_19.cell 2; have E_19 := E_18.next hB_19; have G_19 := G_18.next hB_19; have EM_19 := EM_18.below hB_19; have hbM_19 := hbM_18.next hB_19; have QX_19 := QX_18.below hB_19; have QP_19 := QP_18.below hB_19; have QY_19 := QY_18.below hB_19; have QR_19 := QR_18.below hB_19; have Og0_19 := Og0_18.below hB_19; have Pg0_19 := Pg0_18.below hB_19; have Og1_19 := Og1_18.below hB_19; have Pg1_19 := Pg1_18.below hB_19; have Og2_19 := Og2_18.below hB_19; have Pg2_19 := Pg2_18.below hB_19; have Og3_19 := Og3_18.below hB_19; have Pg3_19 := Pg3_18.below hB_19; have Og4_19 := Og4_18.below hB_19; have Pg4_19 := Pg4_18.below hB_19; have Og5_19 := Og5_18.below hB_19; have Pg5_19 := Pg5_18.below hB_19; have Og6_19 := Og6_18.below hB_19; have Pg6_19 := Pg6_18.below hB_19; have hbel_19 := hbel_18.next hB_19; have hsz_19 := hB_19.size; clear X_18 cX_18_0 fX_18_0 cX_18_1 fX_18_1 cX_18_2 fX_18_2 Y_18 cY_18_0 fY_18_0 cY_18_1 fY_18_1 cY_18_2 fY_18_2 P_18 cP_18_0 cP_18_1 cP_18_2 R_18 cR_18_0 cR_18_1 cR_18_2 E_18 G_18 EM_18 hbM_18 QX_18 QP_18 QY_18 QR_18 Og0_18 Pg0_18 Og1_18 Pg1_18 Og2_18 Pg2_18 Og3_18 Pg3_18 Og4_18 Pg4_18 Og5_18 Pg5_18 Og6_18 Pg6_18 hbel_18 hB_19; have pEM_19 := EM_19.pt0; (try clear pEM_18); have Og7_19 := hO; have ltOg7 := hO.ltB; have Pg7_19 := hO'; have ltPg7 := hO'.ltB; clear hO hO' hD; try clear hB)))
      | (go_at_call 36; ((with_reducible refine (kmost (QR_19.below bl) (by omega) (QP_19.below bl) (by omega) (by omega) (by omega)).mono ?_); (rw [ho8.out]; rintro e w20 ⟨g8a, g8n, g8c, g8b, g8m, g8d, rfl, hO, hO', hD, hB⟩; have hBT : Below w19.heap.size w19 w20 := (bl.next hB); have T_20 := hid (T_19.out.cons2 (by have := hbT_19.size; omega) (show Own w19.heap.size w20 _ _ _ _ from by first | exact hO | exact hO.mono (by simp)) (show Own w19.heap.size w20 _ _ _ _ from by first | exact hO' | exact hO'.mono (by simp)) hD hBT (Nat.le_trans qo8.out.len1 (by omega)) (Nat.le_trans qo8.out.len2 (by omega))); have hbT_20 := hbT_19.next hBT; clear T_19 hbT_19 hBT; have hB_20 : Below w19.heap.size w19 w20 := (bl.next hB); have X_20 := X_19.next hB_20; have cX_20_0 : _ = some (Value.bool s) := X_20.cell 0; have fX_20_0 := X_20.free 0; have cX_20_1 : _ = some (Value.slice a n1 c) := X_20.cell 1; have fX_20_1 := X_20.free 1; have cX_20_2 : _ = some (Value.slice b m1 d) := X_20.cell 2; have fX_20_2 := X_20.free 2; have Y_20 := Y_19.next hB_20; have cY_20_0 : _ = some (Value.bool t) := Y_20.cell 0; have fY_20_0 := Y_20.free 0; have cY_20_1 : _ = some (Value.slice a' n2 c') := Y_20.cell 1; have fY_20_1 := Y_20.free 1; have cY_20_2 : _ = some (Value.slice b' m2 d') := Y_20.cell 2; have fY_20_2 := Y_20.free 2; have P_20 := P_19.next hB_20; have cP_20_0 : _ = some (Value.bool s) := P_20.cell 0; have cP_20_1 : _ = some (Value.slice pa n1 pc) := P_20.cell 1; have cP_20_2 : _ = some (Value.slice pb m1 pd) := P_20.cell 2; have R_20 := R_19.next hB_20; have cR_20_0 : _ = some (Value.bool t) := R_20.cell 0; have cR_20_1 : _ = some (Value.slice ra n2 rc) := R_20.cell 1; have cR_20_2 : _ = some (Value.slice rb m2 rd) := R_20.cell 2; have E_20 := E_19.next hB_20; have G_20 := G_19.next hB_20; have EM_20 := EM_19.below hB_20; have hbM_20 := hbM_19.next hB_20; have QX_20 := QX_19.below hB_20; have QP_20 := QP_19.below hB_20; have QY_20 := QY_19.below hB_20; have QR_20 := QR_19.below hB_20; have Og0_20 := Og0_19.below hB_20; have Pg0_20 := Pg0_19.below hB_20; have Og1_20 := Og1_19.below hB_20; have Pg1_20 := Pg1_19.below hB_20; have Og2_20 := Og2_19.below hB_20; have Pg2_20 := Pg2_19.below hB_20; have Og3_20 := Og3_19.below hB_20; have Pg3_20 := Pg3_19.below hB_20; have Og4_20 := Og4_19.below hB_20; have Pg4_20 := Pg4_19.below hB_20; have Og5_20 := Og5_19.below hB_20; have Pg5_20 := Pg5_19.below hB_20; have Og6_20 := Og6_19.below hB_20; have Pg6_20 := Pg6_19.below hB_20; have Og7_20 := Og7_19.below hB_20; have Pg7_20 := Pg7_19.below hB_20; have hbel_20 := hbel_19.next hB_20; have hsz_20 := hB_20.size; clear X_19 cX_19_0 fX_19_0 cX_19_1 fX_19_1 cX_19_2 fX_19_2 Y_19 cY_19_0 fY_19_0 cY_19_1 fY_19_1 cY_19_2 fY_19_2 P_19 cP_19_0 cP_19_1 cP_19_2 R_19 cR_19_0 cR_19_1 cR_19_2 E_19 G_19 EM_19 hbM_19 QX_19 QP_19 QY_19 QR_19 Og0_19 Pg0_19 Og1_19 Pg1_19 Og2_19 Pg2_19 Og3_19 Pg3_19 Og4_19 Pg4_19 Og5_19 Pg5_19 Og6_19 Pg6_19 Og7_19 Pg7_19 hbel_19 hB_20; have pEM_20 := EM_20.pt0; (try clear pEM_19); have Og8_20 := hO; have ltOg8 := hO.ltB; have Pg8_20 := hO'; have ltPg8 := hO'.ltB; clear hO hO' hD; try clear hB)))
      | (go_at_call 36; ((with_reducible refine (kmost (QP_20.below bl) (by omega) (QP_20.below bl) (by omega) (by omega) (by omega)).mono ?_); (rw [ho9.out]; rintro e w21 ⟨g9a, g9n, g9c, g9b, g9m, g9d, rfl, hO, hO', hD, hB⟩; have hBT : Below w20.heap.size w20 w21 := (bl.next hB); have T_21 := hid (T_20.out.cons2 (by have := hbT_20.size; omega) (show Own w20.heap.size w21 _ _ _ _ from by first | exact hO | exact hO.mono (by simp)) (show Own w20.heap.size w21 _ _ _ _ from by first | exact hO' | exact hO'.mono (by simp)) hD hBT (Nat.le_trans qo9.out.len1 (by omega)) (Nat.le_trans qo9.out.len2 (by omega))); have hbT_21 := hbT_20.next hBT; clear T_20 hbT_20 hBT; have hB_21 : Below w20.heap.size w20 w21 := (bl.next hB); have X_21 := X_20.next hB_21; have cX_21_0 : _ = some (Value.bool s) := X_21.cell 0; have fX_21_0 := X_21.free 0; have cX_21_1 : _ = some (Value.slice a n1 c) := X_21.cell 1; have fX_21_1 := X_21.free 1; have cX_21_2 : _ = some (Value.slice b m1 d) := X_21.cell 2; have fX_21_2 := X_21.free 2; have Y_21 := Y_20.next hB_21; have cY_21_0 : _ = some (Value.bool t) := Y_21.cell 0; have fY_21_0 := Y_21.free 0; have cY_21_1 : _ = some (Value.slice a' n2 c') := Y_21.cell 1; have fY_21_1 := Y_21.free 1; have cY_21_2 : _ = some (Value.slice b' m2 d') := Y_21.cell 2; have fY_21_2 := Y_21.free 2; have P_21 := P_20.next hB_21; have cP_21_0 : _ = some (Value.bool s) := P_21.cell 0; have cP_21_1 : _ = some (Value.slice pa n1 pc) := P_21.cell 1; have cP_21_2 : _ = some (Value.slice pb m1 pd) := P_21.cell 2; have R_21 := R_20.next hB_21; have cR_21_0 : _ = some (Value.bool t) := R_21.cell 0; have cR_21_1 : _ = some (Value.slice ra n2 rc) := R_21.cell 1; have cR_21_2 : _ = some (Value.slice rb m2 rd) := R_21.cell 2; have E_21 := E_20.next hB_21; have G_21 := G_20.next hB_21; have EM_21 := EM_20.below hB_21; have hbM_21 := hbM_20.next hB_21; have QX_21 := QX_20.below hB_21; have QP_21 := QP_20.below hB_21; have QY_21 := QY_20.below hB_21; have QR_21 := QR_20.below hB_21; have Og0_21 := Og0_20.below hB_21; have Pg0_21 := Pg0_20.below hB_21; have Og1_21 := Og1_20.below hB_21; have Pg1_21 := Pg1_20.below hB_21; have Og2_21 := Og2_20.below hB_21; have Pg2_21 := Pg2_20.below hB_21; have Og3_21 := Og3_20.below hB_21; have Pg3_21 := Pg3_20.below hB_21; have Og4_21 := Og4_20.below hB_21; have Pg4_21 := Pg4_20.below hB_21; have Og5_21 := Og5_20.below hB_21; have Pg5_21 := Pg5_20.below hB_21; have Og6_21 := Og6_20.below hB_21; have Pg6_21 := Pg6_20.below hB_21; have Og7_21 := Og7_20.below hB_21; have Pg7_21 := Pg7_20.below hB_21; have Og8_21 := Og8_20.below hB_21; have Pg8_21 := Pg8_20.below hB_21; have hbel_21 := hbel_20.next hB_21; have hsz_21 := hB_21.size; clear X_20 cX_20_0 fX_20_0 cX_20_1 fX_20_1 cX_20_2 fX_20_2 Y_20 cY_20_0 fY_20_0 cY_20_1 fY_20_1 cY_20_2 fY_20_2 P_20 cP_20_0 cP_20_1 cP_20_2 R_20 cR_20_0 cR_20_1 cR_20_2 E_20 G_20 EM_20 hbM_20 QX_20 QP_20 QY_20 QR_20 Og0_20 Pg0_20 Og1_20 Pg1_20 Og2_20 Pg2_20 Og3_20 Pg3_20 Og4_20 Pg4_20 Og5_20 Pg5_20 Og6_20 Pg6_20 Og7_20 Pg7_20 Og8_20 Pg8_20 hbel_20 hB_21; have pEM_21 := EM_21.pt0; (try clear pEM_20); have Og9_21 := hO; have ltOg9 := hO.ltB; have Pg9_21 := hO'; have ltPg9 := hO'.ltB; clear hO hO' hD; try clear hB))))
  have hbx := blk_new w21 #[Value.bool (decide ((o0).num < 0)), Value.slice g0a g0n g0c, Value.slice g0b g0m g0d, Value.bool (decide ((o1).num < 0)), Value.slice g1a g1n g1c, Value.slice g1b g1m g1d, Value.bool (decide ((o2).num < 0)), Value.slice g2a g2n g2c, Value.slice g2b g2m g2d, Value.bool (decide ((o3).num < 0)), Value.slice g3a g3n g3c, Value.slice g3b g3m g3d, Value.bool (decide ((o0).num < 0)), Value.slice g4a g4n g4c, Value.slice g4b g4m g4d, Value.bool (decide ((o1).num < 0)), Value.slice g5a g5n g5c, Value.slice g5b g5m g5d, Value.bool (decide ((o6).num < 0)), Value.slice g6a g6n g6c, Value.slice g6b g6m g6d, Value.bool (decide ((o3).num < 0)), Value.slice g7a g7n g7c, Value.slice g7b g7m g7d, Value.bool (decide ((o8).num < 0)), Value.slice g8a g8n g8c, Value.slice g8b g8m g8d, Value.bool (decide ((o9).num < 0)), Value.slice g9a g9n g9c, Value.slice g9b g9m g9d] 38
  have hbB := (Below.refl w21.heap.size w21).alloc (Nat.le_refl _) (.cells #[Value.bool (decide ((o0).num < 0)), Value.slice g0a g0n g0c, Value.slice g0b g0m g0d, Value.bool (decide ((o1).num < 0)), Value.slice g1a g1n g1c, Value.slice g1b g1m g1d, Value.bool (decide ((o2).num < 0)), Value.slice g2a g2n g2c, Value.slice g2b g2m g2d, Value.bool (decide ((o3).num < 0)), Value.slice g3a g3n g3c, Value.slice g3b g3m g3d, Value.bool (decide ((o0).num < 0)), Value.slice g4a g4n g4c, Value.slice g4b g4m g4d, Value.bool (decide ((o1).num < 0)), Value.slice g5a g5n g5c, Value.slice g5b g5m g5d, Value.bool (decide ((o6).num < 0)), Value.slice g6a g6n g6c, Value.slice g6b g6m g6d, Value.bool (decide ((o3).num < 0)), Value.slice g7a g7n g7c, Value.slice g7b g7m g7d, Value.bool (decide ((o8).num < 0)), Value.slice g8a g8n g8c, Value.slice g8b g8m g8d, Value.bool (decide ((o9).num < 0)), Value.slice g9a g9n g9c, Value.slice g9b g9m g9d] 38)
  have hltGOT := hbx.lt
  have hBT : Below w21.heap.size w21 (w21.alloc (.cells #[Value.bool (decide ((o0).num < 0)), Value.slice g0a g0n g0c, Value.slice g0b g0m g0d, Value.bool (decide ((o1).num < 0)), Value.slice g1a g1n g1c, Value.slice g1b g1m g1d, Value.bool (decide ((o2).num < 0)), Value.slice g2a g2n g2c, Value.slice g2b g2m g2d, Value.bool (decide ((o3).num < 0)), Value.slice g3a g3n g3c, Value.slice g3b g3m g3d, Value.bool (decide ((o0).num < 0)), Value.slice g4a g4n g4c, Value.slice g4b g4m g4d, Value.bool (decide ((o1).num < 0)), Value.slice g5a g5n g5c, Value.slice g5b g5m g5d, Value.bool (decide ((o6).num < 0)), Value.slice g6a g6n g6c, Value.slice g6b g6m g6d, Value.bool (decide ((o3).num < 0)), Value.slice g7a g7n g7c, Value.slice g7b g7m g7d, Value.bool (decide ((o8).num < 0)), Value.slice g8a g8n g8c, Value.slice g8b g8m g8d, Value.bool (decide ((o9).num < 0)), Value.slice g9a g9n g9c, Value.slice g9b g9m g9d] 38)) := hbB
  have T_22 := hid (T_21.out.below hBT)
  have hbT_22 := hbT_21.next hBT
  clear T_21 hbT_21 hBT
  have hB_22 : Below w21.heap.size w21 (w21.alloc (.cells #[Value.bool (decide ((o0).num < 0)), Value.slice g0a g0n g0c, Value.slice g0b g0m g0d, Value.bool (decide ((o1).num < 0)), Value.slice g1a g1n g1c, Value.slice g1b g1m g1d, Value.bool (decide ((o2).num < 0)), Value.slice g2a g2n g2c, Value.slice g2b g2m g2d, Value.bool (decide ((o3).num < 0)), Value.slice g3a g3n g3c, Value.slice g3b g3m g3d, Value.bool (decide ((o0).num < 0)), Value.slice g4a g4n g4c, Value.slice g4b g4m g4d, Value.bool (decide ((o1).num < 0)), Value.slice g5a g5n g5c, Value.slice g5b g5m g5d, Value.bool (decide ((o6).num < 0)), Value.slice g6a g6n g6c, Value.slice g6b g6m g6d, Value.bool (decide ((o3).num < 0)), Value.slice g7a g7n g7c, Value.slice g7b g7m g7d, Value.bool (decide ((o8).num < 0)), Value.slice g8a g8n g8c, Value.slice g8b g8m g8d, Value.bool (decide ((o9).num < 0)), Value.slice g9a g9n g9c, Value.slice g9b g9m g9d] 38)) := hbB
  have X_22 := X_21.next hB_22
  have cX_22_0 : _ = some (Value.bool s) := X_22.cell 0
  have fX_22_0 := X_22.free 0
  have cX_22_1 : _ = some (Value.slice a n1 c) := X_22.cell 1
  have fX_22_1 := X_22.free 1
  have cX_22_2 : _ = some (Value.slice b m1 d) := X_22.cell 2
  have fX_22_2 := X_22.free 2
  have Y_22 := Y_21.next hB_22
  have cY_22_0 : _ = some (Value.bool t) := Y_22.cell 0
  have fY_22_0 := Y_22.free 0
  have cY_22_1 : _ = some (Value.slice a' n2 c') := Y_22.cell 1
  have fY_22_1 := Y_22.free 1
  have cY_22_2 : _ = some (Value.slice b' m2 d') := Y_22.cell 2
  have fY_22_2 := Y_22.free 2
  have P_22 := P_21.next hB_22
  have cP_22_0 : _ = some (Value.bool s) := P_22.cell 0
  have cP_22_1 : _ = some (Value.slice pa n1 pc) := P_22.cell 1
  have cP_22_2 : _ = some (Value.slice pb m1 pd) := P_22.cell 2
  have R_22 := R_21.next hB_22
  have cR_22_0 : _ = some (Value.bool t) := R_22.cell 0
  have cR_22_1 : _ = some (Value.slice ra n2 rc) := R_22.cell 1
  have cR_22_2 : _ = some (Value.slice rb m2 rd) := R_22.cell 2
  have E_22 := E_21.next hB_22
  have G_22 := G_21.next hB_22
  have EM_22 := EM_21.below hB_22
  have hbM_22 := hbM_21.next hB_22
  have QX_22 := QX_21.below hB_22
  have QP_22 := QP_21.below hB_22
  have QY_22 := QY_21.below hB_22
  have QR_22 := QR_21.below hB_22
  have Og0_22 := Og0_21.below hB_22
  have Pg0_22 := Pg0_21.below hB_22
  have Og1_22 := Og1_21.below hB_22
  have Pg1_22 := Pg1_21.below hB_22
  have Og2_22 := Og2_21.below hB_22
  have Pg2_22 := Pg2_21.below hB_22
  have Og3_22 := Og3_21.below hB_22
  have Pg3_22 := Pg3_21.below hB_22
  have Og4_22 := Og4_21.below hB_22
  have Pg4_22 := Pg4_21.below hB_22
  have Og5_22 := Og5_21.below hB_22
  have Pg5_22 := Pg5_21.below hB_22
  have Og6_22 := Og6_21.below hB_22
  have Pg6_22 := Pg6_21.below hB_22
  have Og7_22 := Og7_21.below hB_22
  have Pg7_22 := Pg7_21.below hB_22
  have Og8_22 := Og8_21.below hB_22
  have Pg8_22 := Pg8_21.below hB_22
  have Og9_22 := Og9_21.below hB_22
  have Pg9_22 := Pg9_21.below hB_22
  have hbel_22 := hbel_21.next hB_22
  have hsz_22 := hB_22.size
  clear hB_22
  have pEM_22 := EM_22.pt0
  (try clear pEM_21)
  have GOT_22 := hbx
  clear hbx hbB
  have cGOT_22_0 : _ = some (Value.bool (decide ((o0).num < 0))) := GOT_22.cell 0
  have cGOT_22_1 : _ = some (Value.slice g0a g0n g0c) := GOT_22.cell 1
  have cGOT_22_2 : _ = some (Value.slice g0b g0m g0d) := GOT_22.cell 2
  have cGOT_22_3 : _ = some (Value.bool (decide ((o1).num < 0))) := GOT_22.cell 3
  have cGOT_22_4 : _ = some (Value.slice g1a g1n g1c) := GOT_22.cell 4
  have cGOT_22_5 : _ = some (Value.slice g1b g1m g1d) := GOT_22.cell 5
  have cGOT_22_6 : _ = some (Value.bool (decide ((o2).num < 0))) := GOT_22.cell 6
  have cGOT_22_7 : _ = some (Value.slice g2a g2n g2c) := GOT_22.cell 7
  have cGOT_22_8 : _ = some (Value.slice g2b g2m g2d) := GOT_22.cell 8
  have cGOT_22_9 : _ = some (Value.bool (decide ((o3).num < 0))) := GOT_22.cell 9
  have cGOT_22_10 : _ = some (Value.slice g3a g3n g3c) := GOT_22.cell 10
  have cGOT_22_11 : _ = some (Value.slice g3b g3m g3d) := GOT_22.cell 11
  have cGOT_22_12 : _ = some (Value.bool (decide ((o0).num < 0))) := GOT_22.cell 12
  have cGOT_22_13 : _ = some (Value.slice g4a g4n g4c) := GOT_22.cell 13
  have cGOT_22_14 : _ = some (Value.slice g4b g4m g4d) := GOT_22.cell 14
  have cGOT_22_15 : _ = some (Value.bool (decide ((o1).num < 0))) := GOT_22.cell 15
  have cGOT_22_16 : _ = some (Value.slice g5a g5n g5c) := GOT_22.cell 16
  have cGOT_22_17 : _ = some (Value.slice g5b g5m g5d) := GOT_22.cell 17
  have cGOT_22_18 : _ = some (Value.bool (decide ((o6).num < 0))) := GOT_22.cell 18
  have cGOT_22_19 : _ = some (Value.slice g6a g6n g6c) := GOT_22.cell 19
  have cGOT_22_20 : _ = some (Value.slice g6b g6m g6d) := GOT_22.cell 20
  have cGOT_22_21 : _ = some (Value.bool (decide ((o3).num < 0))) := GOT_22.cell 21
  have cGOT_22_22 : _ = some (Value.slice g7a g7n g7c) := GOT_22.cell 22
  have cGOT_22_23 : _ = some (Value.slice g7b g7m g7d) := GOT_22.cell 23
  have cGOT_22_24 : _ = some (Value.bool (decide ((o8).num < 0))) := GOT_22.cell 24
  have cGOT_22_25 : _ = some (Value.slice g8a g8n g8c) := GOT_22.cell 25
  have cGOT_22_26 : _ = some (Value.slice g8b g8m g8d) := GOT_22.cell 26
  have cGOT_22_27 : _ = some (Value.bool (decide ((o9).num < 0))) := GOT_22.cell 27
  have cGOT_22_28 : _ = some (Value.slice g9a g9n g9c) := GOT_22.cell 28
  have cGOT_22_29 : _ = some (Value.slice g9b g9m g9d) := GOT_22.cell 29
  go_wp2_with fail
  clear X_21 cX_21_0 fX_21_0 cX_21_1 fX_21_1 cX_21_2 fX_21_2 Y_21 cY_21_0 fY_21_0 cY_21_1 fY_21_1 cY_21_2 fY_21_2 P_21 cP_21_0 cP_21_1 cP_21_2 R_21 cR_21_0 cR_21_1 cR_21_2 E_21 G_21 EM_21 hbM_21 QX_21 QP_21 QY_21 QR_21 Og0_21 Pg0_21 Og1_21 Pg1_21 Og2_21 Pg2_21 Og3_21 Pg3_21 Og4_21 Pg4_21 Og5_21 Pg5_21 Og6_21 Pg6_21 Og7_21 Pg7_21 Og8_21 Pg8_21 Og9_21 Pg9_21 hbel_21
  generalize (w21.alloc (.cells #[Value.bool (decide ((o0).num < 0)), Value.slice g0a g0n g0c, Value.slice g0b g0m g0d, Value.bool (decide ((o1).num < 0)), Value.slice g1a g1n g1c, Value.slice g1b g1m g1d, Value.bool (decide ((o2).num < 0)), Value.slice g2a g2n g2c, Value.slice g2b g2m g2d, Value.bool (decide ((o3).num < 0)), Value.slice g3a g3n g3c, Value.slice g3b g3m g3d, Value.bool (decide ((o0).num < 0)), Value.slice g4a g4n g4c, Value.slice g4b g4m g4d, Value.bool (decide ((o1).num < 0)), Value.slice g5a g5n g5c, Value.slice g5b g5m g5d, Value.bool (decide ((o6).num < 0)), Value.slice g6a g6n g6c, Value.slice g6b g6m g6d, Value.bool (decide ((o3).num < 0)), Value.slice g7a g7n g7c, Value.slice g7b g7m g7d, Value.bool (decide ((o8).num < 0)), Value.slice g8a g8n g8c, Value.slice g8b g8m g8d, Value.bool (decide ((o9).num < 0)), Value.slice g9a g9n g9c, Value.slice g9b g9m g9d] 38)) = v22 at *
  go_wp2_with fail
  go_region_held3 (fun w' => w'.cell? ⟨w.heap.size, 0, none⟩ = some (Value.bool s) ∧ w'.cell? ⟨w.heap.size, 1, none⟩ = some (Value.slice a n1 c) ∧ w'.cell? ⟨w.heap.size, 2, none⟩ = some (Value.slice b m1 d) ∧ w'.cell? ⟨w.heap.size + 1, 0, none⟩ = some (Value.bool t) ∧ w'.cell? ⟨w.heap.size + 1, 1, none⟩ = some (Value.slice a' n2 c') ∧ w'.cell? ⟨w.heap.size + 1, 2, none⟩ = some (Value.slice b' m2 d') ∧ (Go.partAt ⟨w8.heap.size + 1 + 1, 0, none⟩ 0 0).run Tryz.prog w' = .ok ⟨w8.heap.size + 1 + 1, 0, none⟩ w')
    (first | with_reducible exact ⟨cX_22_0, cX_22_1, cX_22_2, cY_22_0, cY_22_1, cY_22_2, EM_22.pt0⟩ | (and_intros <;> first | go_keep | with_reducible exact EM_22.pt0 | exact EM_22.drew.pt0 | exact (EM_22.alloc _).pt0) | with_reducible exact ⟨cX_23_0, cX_23_1, cX_23_2, cY_23_0, cY_23_1, cY_23_2, EM_23.pt0⟩ | (and_intros <;> first | go_keep | with_reducible exact EM_23.pt0 | exact EM_23.drew.pt0 | exact (EM_23.alloc _).pt0) | with_reducible exact ⟨cX_24_0, cX_24_1, cX_24_2, cY_24_0, cY_24_1, cY_24_2, EM_24.pt0⟩ | (and_intros <;> first | go_keep | with_reducible exact EM_24.pt0 | exact EM_24.drew.pt0 | exact (EM_24.alloc _).pt0) | with_reducible exact ⟨cX_25_0, cX_25_1, cX_25_2, cY_25_0, cY_25_1, cY_25_2, EM_25.pt0⟩ | (and_intros <;> first | go_keep | with_reducible exact EM_25.pt0 | exact EM_25.drew.pt0 | exact (EM_25.alloc _).pt0) | with_reducible exact ⟨cX_26_0, cX_26_1, cX_26_2, cY_26_0, cY_26_1, cY_26_2, EM_26.pt0⟩ | (and_intros <;> first | go_keep | with_reducible exact EM_26.pt0 | exact EM_26.drew.pt0 | exact (EM_26.alloc _).pt0) | with_reducible exact ⟨cX_27_0, cX_27_1, cX_27_2, cY_27_0, cY_27_1, cY_27_2, EM_27.pt0⟩ | (and_intros <;> first | go_keep | with_reducible exact EM_27.pt0 | exact EM_27.drew.pt0 | exact (EM_27.alloc _).pt0) | with_reducible exact ⟨cX_28_0, cX_28_1, cX_28_2, cY_28_0, cY_28_1, cY_28_2, EM_28.pt0⟩ | (and_intros <;> first | go_keep | with_reducible exact EM_28.pt0 | exact EM_28.drew.pt0 | exact (EM_28.alloc _).pt0) | with_reducible exact ⟨cX_29_0, cX_29_1, cX_29_2, cY_29_0, cY_29_1, cY_29_2, EM_29.pt0⟩ | (and_intros <;> first | go_keep | with_reducible exact EM_29.pt0 | exact EM_29.drew.pt0 | exact (EM_29.alloc _).pt0) | with_reducible exact ⟨cX_30_0, cX_30_1, cX_30_2, cY_30_0, cY_30_1, cY_30_2, EM_30.pt0⟩ | (and_intros <;> first | go_keep | with_reducible exact EM_30.pt0 | exact EM_30.drew.pt0 | exact (EM_30.alloc _).pt0) | with_reducible exact ⟨cX_31_0, cX_31_1, cX_31_2, cY_31_0, cY_31_1, cY_31_2, EM_31.pt0⟩ | (and_intros <;> first | go_keep | with_reducible exact EM_31.pt0 | exact EM_31.drew.pt0 | exact (EM_31.alloc _).pt0) | with_reducible exact ⟨cX_32_0, cX_32_1, cX_32_2, cY_32_0, cY_32_1, cY_32_2, EM_32.pt0⟩ | (and_intros <;> first | go_keep | with_reducible exact EM_32.pt0 | exact EM_32.drew.pt0 | exact (EM_32.alloc _).pt0) | go_keep)
    (first
      | (go_at_call 20; ((with_reducible refine ((beside hbel_22 (G0.out _))).mono ?_); (rintro e w23 ⟨h0a, h0n, h0c, h0b, h0m, h0d, rfl, hO, hO', hD, hB⟩; have hBT : Below v22.heap.size v22 w23 := (bl.next hB); have T_23 := hid (T_22.out.below hBT); have hbT_23 := hbT_22.next hBT; clear T_22 hbT_22 hBT; have hB_23 : Below v22.heap.size v22 w23 := (bl.next hB); have X_23 := X_22.next hB_23; have cX_23_0 : _ = some (Value.bool s) := X_23.cell 0; have fX_23_0 := X_23.free 0; have cX_23_1 : _ = some (Value.slice a n1 c) := X_23.cell 1; have fX_23_1 := X_23.free 1; have cX_23_2 : _ = some (Value.slice b m1 d) := X_23.cell 2; have fX_23_2 := X_23.free 2; have Y_23 := Y_22.next hB_23; have cY_23_0 : _ = some (Value.bool t) := Y_23.cell 0; have fY_23_0 := Y_23.free 0; have cY_23_1 : _ = some (Value.slice a' n2 c') := Y_23.cell 1; have fY_23_1 := Y_23.free 1; have cY_23_2 : _ = some (Value.slice b' m2 d') := Y_23.cell 2; have fY_23_2 := Y_23.free 2; have P_23 := P_22.next hB_23; have cP_23_0 : _ = some (Value.bool s) := P_23.cell 0; have cP_23_1 : _ = some (Value.slice pa n1 pc) := P_23.cell 1; have cP_23_2 : _ = some (Value.slice pb m1 pd) := P_23.cell 2; have R_23 := R_22.next hB_23; have cR_23_0 : _ = some (Value.bool t) := R_23.cell 0; have cR_23_1 : _ = some (Value.slice ra n2 rc) := R_23.cell 1; have cR_23_2 : _ = some (Value.slice rb m2 rd) := R_23.cell 2; have E_23 := E_22.next hB_23; have G_23 := G_22.next hB_23; have GOT_23 := GOT_22.next hB_23; have cGOT_23_0 : _ = some (Value.bool (decide ((o0).num < 0))) := GOT_23.cell 0; have cGOT_23_1 : _ = some (Value.slice g0a g0n g0c) := GOT_23.cell 1; have cGOT_23_2 : _ = some (Value.slice g0b g0m g0d) := GOT_23.cell 2; have cGOT_23_3 : _ = some (Value.bool (decide ((o1).num < 0))) := GOT_23.cell 3; have cGOT_23_4 : _ = some (Value.slice g1a g1n g1c) := GOT_23.cell 4; have cGOT_23_5 : _ = some (Value.slice g1b g1m g1d) := GOT_23.cell 5; have cGOT_23_6 : _ = some (Value.bool (decide ((o2).num < 0))) := GOT_23.cell 6; have cGOT_23_7 : _ = some (Value.slice g2a g2n g2c) := GOT_23.cell 7; have cGOT_23_8 : _ = some (Value.slice g2b g2m g2d) := GOT_23.cell 8; have cGOT_23_9 : _ = some (Value.bool (decide ((o3).num < 0))) := GOT_23.cell 9; have cGOT_23_10 : _ = some (Value.slice g3a g3n g3c) := GOT_23.cell 10; have cGOT_23_11 : _ = some (Value.slice g3b g3m g3d) := GOT_23.cell 11; have cGOT_23_12 : _ = some (Value.bool (decide ((o0).num < 0))) := GOT_23.cell 12; have cGOT_23_13 : _ = some (Value.slice g4a g4n g4c) := GOT_23.cell 13; have cGOT_23_14 : _ = some (Value.slice g4b g4m g4d) := GOT_23.cell 14; have cGOT_23_15 : _ = some (Value.bool (decide ((o1).num < 0))) := GOT_23.cell 15; have cGOT_23_16 : _ = some (Value.slice g5a g5n g5c) := GOT_23.cell 16; have cGOT_23_17 : _ = some (Value.slice g5b g5m g5d) := GOT_23.cell 17; have cGOT_23_18 : _ = some (Value.bool (decide ((o6).num < 0))) := GOT_23.cell 18; have cGOT_23_19 : _ = some (Value.slice g6a g6n g6c) := GOT_23.cell 19; have cGOT_23_20 : _ = some (Value.slice g6b g6m g6d) := GOT_23.cell 20; have cGOT_23_21 : _ = some (Value.bool (decide ((o3).num < 0))) := GOT_23.cell 21; have cGOT_23_22 : _ = some (Value.slice g7a g7n g7c) := GOT_23.cell 22; have cGOT_23_23 : _ = some (Value.slice g7b g7m g7d) := GOT_23.cell 23; have cGOT_23_24 : _ = some (Value.bool (decide ((o8).num < 0))) := GOT_23.cell 24; have cGOT_23_25 : _ = some (Value.slice g8a g8n g8c) := GOT_23.cell 25; have cGOT_23_26 : _ = some (Value.slice g8b g8m g8d) := GOT_23.cell 26; have cGOT_23_27 : _ = some (Value.bool (decide ((o9).num < 0))) := GOT_23.cell 27; have cGOT_23_28 : _ = some (Value.slice g9a g9n g9c) := GOT_23.cell 28; have cGOT_23_29 : _ = some (Value.slice g9b g9m g9d) := GOT_23.cell 29; have EM_23 := EM_22.below hB_23; have hbM_23 := hbM_22.next hB_23; have QX_23 := QX_22.below hB_23; have QP_23 := QP_22.below hB_23; have QY_23 := QY_22.below hB_23; have QR_23 := QR_22.below hB_23; have Og0_23 := Og0_22.below hB_23; have Pg0_23 := Pg0_22.below hB_23; have Og1_23 := Og1_22.below hB_23; have Pg1_23 := Pg1_22.below hB_23; have Og2_23 := Og2_22.below hB_23; have Pg2_23 := Pg2_22.below hB_23; have Og3_23 := Og3_22.below hB_23; have Pg3_23 := Pg3_22.below hB_23; have Og4_23 := Og4_22.below hB_23; have Pg4_23 := Pg4_22.below hB_23; have Og5_23 := Og5_22.below hB_23; have Pg5_23 := Pg5_22.below hB_23; have Og6_23 := Og6_22.below hB_23; have Pg6_23 := Pg6_22.below hB_23; have Og7_23 := Og7_22.below hB_23; have Pg7_23 := Pg7_22.below hB_23; have Og8_23 := Og8_22.below hB_23; have Pg8_23 := Pg8_22.below hB_23; have Og9_23 := Og9_22.below hB_23; have Pg9_23 := Pg9_22.below hB_23; have hbel_23 := hbel_22.next hB_23; have hsz_23 := hB_23.size; clear X_22 cX_22_0 fX_22_0 cX_22_1 fX_22_1 cX_22_2 fX_22_2 Y_22 cY_22_0 fY_22_0 cY_22_1 fY_22_1 cY_22_2 fY_22_2 P_22 cP_22_0 cP_22_1 cP_22_2 R_22 cR_22_0 cR_22_1 cR_22_2 E_22 G_22 GOT_22 cGOT_22_0 cGOT_22_1 cGOT_22_2 cGOT_22_3 cGOT_22_4 cGOT_22_5 cGOT_22_6 cGOT_22_7 cGOT_22_8 cGOT_22_9 cGOT_22_10 cGOT_22_11 cGOT_22_12 cGOT_22_13 cGOT_22_14 cGOT_22_15 cGOT_22_16 cGOT_22_17 cGOT_22_18 cGOT_22_19 cGOT_22_20 cGOT_22_21 cGOT_22_22 cGOT_22_23 cGOT_22_24 cGOT_22_25 cGOT_22_26 cGOT_22_27 cGOT_22_28 cGOT_22_29 EM_22 hbM_22 QX_22 QP_22 QY_22 QR_22 Og0_22 Pg0_22 Og1_22 Pg1_22 Og2_22 Pg2_22 Og3_22 Pg3_22 Og4_22 Pg4_22 Og5_22 Pg5_22 Og6_22 Pg6_22 Og7_22 Pg7_22 Og8_22 Pg8_22 Og9_22 Pg9_22 hbel_22 hB_23; have pEM_23 := EM_23.pt0; (try clear pEM_22); have Oh0_23 := hO; have ltOh0 := hO.ltB; have Ph0_23 := hO'; have ltPh0 := hO'.ltB; clear hO hO' hD; try clear hB)))
      | (go_at_call 20; ((with_reducible refine ((beside hbel_23 (G1.out _))).mono ?_); (rintro e w24 ⟨h1a, h1n, h1c, h1b, h1m, h1d, rfl, hO, hO', hD, hB⟩; have hBT : Below w23.heap.size w23 w24 := (bl.next hB); have T_24 := hid (T_23.out.below hBT); have hbT_24 := hbT_23.next hBT; clear T_23 hbT_23 hBT; have hB_24 : Below w23.heap.size w23 w24 := (bl.next hB); have X_24 := X_23.next hB_24; have cX_24_0 : _ = some (Value.bool s) := X_24.cell 0; have fX_24_0 := X_24.free 0; have cX_24_1 : _ = some (Value.slice a n1 c) := X_24.cell 1; have fX_24_1 := X_24.free 1; have cX_24_2 : _ = some (Value.slice b m1 d) := X_24.cell 2; have fX_24_2 := X_24.free 2; have Y_24 := Y_23.next hB_24; have cY_24_0 : _ = some (Value.bool t) := Y_24.cell 0; have fY_24_0 := Y_24.free 0; have cY_24_1 : _ = some (Value.slice a' n2 c') := Y_24.cell 1; have fY_24_1 := Y_24.free 1; have cY_24_2 : _ = some (Value.slice b' m2 d') := Y_24.cell 2; have fY_24_2 := Y_24.free 2; have P_24 := P_23.next hB_24; have cP_24_0 : _ = some (Value.bool s) := P_24.cell 0; have cP_24_1 : _ = some (Value.slice pa n1 pc) := P_24.cell 1; have cP_24_2 : _ = some (Value.slice pb m1 pd) := P_24.cell 2; have R_24 := R_23.next hB_24; have cR_24_0 : _ = some (Value.bool t) := R_24.cell 0; have cR_24_1 : _ = some (Value.slice ra n2 rc) := R_24.cell 1; have cR_24_2 : _ = some (Value.slice rb m2 rd) := R_24.cell 2; have E_24 := E_23.next hB_24; have G_24 := G_23.next hB_24; have GOT_24 := GOT_23.next hB_24; have cGOT_24_0 : _ = some (Value.bool (decide ((o0).num < 0))) := GOT_24.cell 0; have cGOT_24_1 : _ = some (Value.slice g0a g0n g0c) := GOT_24.cell 1; have cGOT_24_2 : _ = some (Value.slice g0b g0m g0d) := GOT_24.cell 2; have cGOT_24_3 : _ = some (Value.bool (decide ((o1).num < 0))) := GOT_24.cell 3; have cGOT_24_4 : _ = some (Value.slice g1a g1n g1c) := GOT_24.cell 4; have cGOT_24_5 : _ = some (Value.slice g1b g1m g1d) := GOT_24.cell 5; have cGOT_24_6 : _ = some (Value.bool (decide ((o2).num < 0))) := GOT_24.cell 6; have cGOT_24_7 : _ = some (Value.slice g2a g2n g2c) := GOT_24.cell 7; have cGOT_24_8 : _ = some (Value.slice g2b g2m g2d) := GOT_24.cell 8; have cGOT_24_9 : _ = some (Value.bool (decide ((o3).num < 0))) := GOT_24.cell 9; have cGOT_24_10 : _ = some (Value.slice g3a g3n g3c) := GOT_24.cell 10; have cGOT_24_11 : _ = some (Value.slice g3b g3m g3d) := GOT_24.cell 11; have cGOT_24_12 : _ = some (Value.bool (decide ((o0).num < 0))) := GOT_24.cell 12; have cGOT_24_13 : _ = some (Value.slice g4a g4n g4c) := GOT_24.cell 13; have cGOT_24_14 : _ = some (Value.slice g4b g4m g4d) := GOT_24.cell 14; have cGOT_24_15 : _ = some (Value.bool (decide ((o1).num < 0))) := GOT_24.cell 15; have cGOT_24_16 : _ = some (Value.slice g5a g5n g5c) := GOT_24.cell 16; have cGOT_24_17 : _ = some (Value.slice g5b g5m g5d) := GOT_24.cell 17; have cGOT_24_18 : _ = some (Value.bool (decide ((o6).num < 0))) := GOT_24.cell 18; have cGOT_24_19 : _ = some (Value.slice g6a g6n g6c) := GOT_24.cell 19; have cGOT_24_20 : _ = some (Value.slice g6b g6m g6d) := GOT_24.cell 20; have cGOT_24_21 : _ = some (Value.bool (decide ((o3).num < 0))) := GOT_24.cell 21; have cGOT_24_22 : _ = some (Value.slice g7a g7n g7c) := GOT_24.cell 22; have cGOT_24_23 : _ = some (Value.slice g7b g7m g7d) := GOT_24.cell 23; have cGOT_24_24 : _ = some (Value.bool (decide ((o8).num < 0))) := GOT_24.cell 24; have cGOT_24_25 : _ = some (Value.slice g8a g8n g8c) := GOT_24.cell 25; have cGOT_24_26 : _ = some (Value.slice g8b g8m g8d) := GOT_24.cell 26; have cGOT_24_27 : _ = some (Value.bool (decide ((o9).num < 0))) := GOT_24.cell 27; have cGOT_24_28 : _ = some (Value.slice g9a g9n g9c) := GOT_24.cell 28; have cGOT_24_29 : _ = some (Value.slice g9b g9m g9d) := GOT_24.cell 29; have EM_24 := EM_23.below hB_24; have hbM_24 := hbM_23.next hB_24; have QX_24 := QX_23.below hB_24; have QP_24 := QP_23.below hB_24; have QY_24 := QY_23.below hB_24; have QR_24 := QR_23.below hB_24; have Og0_24 := Og0_23.below hB_24; have Pg0_24 := Pg0_23.below hB_24; have Og1_24 := Og1_23.below hB_24; have Pg1_24 := Pg1_23.below hB_24; have Og2_24 := Og2_23.below hB_24; have Pg2_24 := Pg2_23.below hB_24; have Og3_24 := Og3_23.below hB_24; have Pg3_24 := Pg3_23.below hB_24; have Og4_24 := Og4_23.below hB_24; have Pg4_24 := Pg4_23.below hB_24; have Og5_24 := Og5_23.below hB_24; have Pg5_24 := Pg5_23.below hB_24; have Og6_24 := Og6_23.below hB_24; have Pg6_24 := Pg6_23.below hB_24; have Og7_24 := Og7_23.below hB_24; have Pg7_24 := Pg7_23.below hB_24; have Og8_24 := Og8_23.below hB_24; have Pg8_24 := Pg8_23.below hB_24; have Og9_24 := Og9_23.below hB_24; have Pg9_24 := Pg9_23.below hB_24; have Oh0_24 := Oh0_23.below hB_24; have Ph0_24 := Ph0_23.below hB_24; have hbel_24 := hbel_23.next hB_24; have hsz_24 := hB_24.size; clear X_23 cX_23_0 fX_23_0 cX_23_1 fX_23_1 cX_23_2 fX_23_2 Y_23 cY_23_0 fY_23_0 cY_23_1 fY_23_1 cY_23_2 fY_23_2 P_23 cP_23_0 cP_23_1 cP_23_2 R_23 cR_23_0 cR_23_1 cR_23_2 E_23 G_23 GOT_23 cGOT_23_0 cGOT_23_1 cGOT_23_2 cGOT_23_3 cGOT_23_4 cGOT_23_5 cGOT_23_6 cGOT_23_7 cGOT_23_8 cGOT_23_9 cGOT_23_10 cGOT_23_11 cGOT_23_12 cGOT_23_13 cGOT_23_14 cGOT_23_15 cGOT_23_16 cGOT_23_17 cGOT_23_18 cGOT_23_19 cGOT_23_20 cGOT_23_21 cGOT_23_22 cGOT_23_23 cGOT_23_24 cGOT_23_25 cGOT_23_26 cGOT_23_27 cGOT_23_28 cGOT_23_29 EM_23 hbM_23 QX_23 QP_23 QY_23 QR_23 Og0_23 Pg0_23 Og1_23 Pg1_23 Og2_23 Pg2_23 Og3_23 Pg3_23 Og4_23 Pg4_23 Og5_23 Pg5_23 Og6_23 Pg6_23 Og7_23 Pg7_23 Og8_23 Pg8_23 Og9_23 Pg9_23 Oh0_23 Ph0_23 hbel_23 hB_24; have pEM_24 := EM_24.pt0; (try clear pEM_23); have Oh1_24 := hO; have ltOh1 := hO.ltB; have Ph1_24 := hO'; have ltPh1 := hO'.ltB; clear hO hO' hD; try clear hB)))
      | (go_at_call 37; ((with_reducible refine (rqadd (QX_24.below bl) (by omega) (QY_24.below bl) (by omega)).mono ?_); (rw [ho2.out]; rintro e w25 ⟨h2a, h2n, h2c, h2b, h2m, h2d, rfl, hO, hO', hD, hB⟩; have hBT : Below w24.heap.size w24 w25 := (bl.next hB); have T_25 := hid (T_24.out.below hBT); have hbT_25 := hbT_24.next hBT; clear T_24 hbT_24 hBT; have hB_25 : Below w24.heap.size w24 w25 := (bl.next hB); have X_25 := X_24.next hB_25; have cX_25_0 : _ = some (Value.bool s) := X_25.cell 0; have fX_25_0 := X_25.free 0; have cX_25_1 : _ = some (Value.slice a n1 c) := X_25.cell 1; have fX_25_1 := X_25.free 1; have cX_25_2 : _ = some (Value.slice b m1 d) := X_25.cell 2; have fX_25_2 := X_25.free 2; have Y_25 := Y_24.next hB_25; have cY_25_0 : _ = some (Value.bool t) := Y_25.cell 0; have fY_25_0 := Y_25.free 0; have cY_25_1 : _ = some (Value.slice a' n2 c') := Y_25.cell 1; have fY_25_1 := Y_25.free 1; have cY_25_2 : _ = some (Value.slice b' m2 d') := Y_25.cell 2; have fY_25_2 := Y_25.free 2; have P_25 := P_24.next hB_25; have cP_25_0 : _ = some (Value.bool s) := P_25.cell 0; have cP_25_1 : _ = some (Value.slice pa n1 pc) := P_25.cell 1; have cP_25_2 : _ = some (Value.slice pb m1 pd) := P_25.cell 2; have R_25 := R_24.next hB_25; have cR_25_0 : _ = some (Value.bool t) := R_25.cell 0; have cR_25_1 : _ = some (Value.slice ra n2 rc) := R_25.cell 1; have cR_25_2 : _ = some (Value.slice rb m2 rd) := R_25.cell 2; have E_25 := E_24.next hB_25; have G_25 := G_24.next hB_25; have GOT_25 := GOT_24.next hB_25; have cGOT_25_0 : _ = some (Value.bool (decide ((o0).num < 0))) := GOT_25.cell 0; have cGOT_25_1 : _ = some (Value.slice g0a g0n g0c) := GOT_25.cell 1; have cGOT_25_2 : _ = some (Value.slice g0b g0m g0d) := GOT_25.cell 2; have cGOT_25_3 : _ = some (Value.bool (decide ((o1).num < 0))) := GOT_25.cell 3; have cGOT_25_4 : _ = some (Value.slice g1a g1n g1c) := GOT_25.cell 4; have cGOT_25_5 : _ = some (Value.slice g1b g1m g1d) := GOT_25.cell 5; have cGOT_25_6 : _ = some (Value.bool (decide ((o2).num < 0))) := GOT_25.cell 6; have cGOT_25_7 : _ = some (Value.slice g2a g2n g2c) := GOT_25.cell 7; have cGOT_25_8 : _ = some (Value.slice g2b g2m g2d) := GOT_25.cell 8; have cGOT_25_9 : _ = some (Value.bool (decide ((o3).num < 0))) := GOT_25.cell 9; have cGOT_25_10 : _ = some (Value.slice g3a g3n g3c) := GOT_25.cell 10; have cGOT_25_11 : _ = some (Value.slice g3b g3m g3d) := GOT_25.cell 11; have cGOT_25_12 : _ = some (Value.bool (decide ((o0).num < 0))) := GOT_25.cell 12; have cGOT_25_13 : _ = some (Value.slice g4a g4n g4c) := GOT_25.cell 13; have cGOT_25_14 : _ = some (Value.slice g4b g4m g4d) := GOT_25.cell 14; have cGOT_25_15 : _ = some (Value.bool (decide ((o1).num < 0))) := GOT_25.cell 15; have cGOT_25_16 : _ = some (Value.slice g5a g5n g5c) := GOT_25.cell 16; have cGOT_25_17 : _ = some (Value.slice g5b g5m g5d) := GOT_25.cell 17; have cGOT_25_18 : _ = some (Value.bool (decide ((o6).num < 0))) := GOT_25.cell 18; have cGOT_25_19 : _ = some (Value.slice g6a g6n g6c) := GOT_25.cell 19; have cGOT_25_20 : _ = some (Value.slice g6b g6m g6d) := GOT_25.cell 20; have cGOT_25_21 : _ = some (Value.bool (decide ((o3).num < 0))) := GOT_25.cell 21; have cGOT_25_22 : _ = some (Value.slice g7a g7n g7c) := GOT_25.cell 22; have cGOT_25_23 : _ = some (Value.slice g7b g7m g7d) := GOT_25.cell 23; have cGOT_25_24 : _ = some (Value.bool (decide ((o8).num < 0))) := GOT_25.cell 24; have cGOT_25_25 : _ = some (Value.slice g8a g8n g8c) := GOT_25.cell 25; have cGOT_25_26 : _ = some (Value.slice g8b g8m g8d) := GOT_25.cell 26; have cGOT_25_27 : _ = some (Value.bool (decide ((o9).num < 0))) := GOT_25.cell 27; have cGOT_25_28 : _ = some (Value.slice g9a g9n g9c) := GOT_25.cell 28; have cGOT_25_29 : _ = some (Value.slice g9b g9m g9d) := GOT_25.cell 29; have EM_25 := EM_24.below hB_25; have hbM_25 := hbM_24.next hB_25; have QX_25 := QX_24.below hB_25; have QP_25 := QP_24.below hB_25; have QY_25 := QY_24.below hB_25; have QR_25 := QR_24.below hB_25; have Og0_25 := Og0_24.below hB_25; have Pg0_25 := Pg0_24.below hB_25; have Og1_25 := Og1_24.below hB_25; have Pg1_25 := Pg1_24.below hB_25; have Og2_25 := Og2_24.below hB_25; have Pg2_25 := Pg2_24.below hB_25; have Og3_25 := Og3_24.below hB_25; have Pg3_25 := Pg3_24.below hB_25; have Og4_25 := Og4_24.below hB_25; have Pg4_25 := Pg4_24.below hB_25; have Og5_25 := Og5_24.below hB_25; have Pg5_25 := Pg5_24.below hB_25; have Og6_25 := Og6_24.below hB_25; have Pg6_25 := Pg6_24.below hB_25; have Og7_25 := Og7_24.below hB_25; have Pg7_25 := Pg7_24.below hB_25; have Og8_25 := Og8_24.below hB_25; have Pg8_25 := Pg8_24.below hB_25; have Og9_25 := Og9_24.below hB_25; have Pg9_25 := Pg9_24.below hB_25; have Oh0_25 := Oh0_24.below hB_25; have Ph0_25 := Ph0_24.below hB_25; have Oh1_25 := Oh1_24.below hB_25; have Ph1_25 := Ph1_24.below hB_25; have hbel_25 := hbel_24.next hB_25; have hsz_25 := hB_25.size; clear X_24 cX_24_0 fX_24_0 cX_24_1 fX_24_1 cX_24_2 fX_24_2 Y_24 cY_24_0 fY_24_0 cY_24_1 fY_24_1 cY_24_2 fY_24_2 P_24 cP_24_0 cP_24_1 cP_24_2 R_24 cR_24_0 cR_24_1 cR_24_2 E_24 G_24 GOT_24 cGOT_24_0 cGOT_24_1 cGOT_24_2 cGOT_24_3 cGOT_24_4 cGOT_24_5 cGOT_24_6 cGOT_24_7 cGOT_24_8 cGOT_24_9 cGOT_24_10 cGOT_24_11 cGOT_24_12 cGOT_24_13 cGOT_24_14 cGOT_24_15 cGOT_24_16 cGOT_24_17 cGOT_24_18 cGOT_24_19 cGOT_24_20 cGOT_24_21 cGOT_24_22 cGOT_24_23 cGOT_24_24 cGOT_24_25 cGOT_24_26 cGOT_24_27 cGOT_24_28 cGOT_24_29 EM_24 hbM_24 QX_24 QP_24 QY_24 QR_24 Og0_24 Pg0_24 Og1_24 Pg1_24 Og2_24 Pg2_24 Og3_24 Pg3_24 Og4_24 Pg4_24 Og5_24 Pg5_24 Og6_24 Pg6_24 Og7_24 Pg7_24 Og8_24 Pg8_24 Og9_24 Pg9_24 Oh0_24 Ph0_24 Oh1_24 Ph1_24 hbel_24 hB_25; have pEM_25 := EM_25.pt0; (try clear pEM_24); have Oh2_25 := hO; have ltOh2 := hO.ltB; have Ph2_25 := hO'; have ltPh2 := hO'.ltB; clear hO hO' hD; try clear hB)))
      | (go_at_call 21; ((with_reducible refine (rqmul (QX_25.below bl) (by omega) (QY_25.below bl) (by omega)).mono ?_); (rw [ho3.out]; rintro e w26 ⟨h3a, h3n, h3c, h3b, h3m, h3d, rfl, hO, hO', hD, hB⟩; have hBT : Below w25.heap.size w25 w26 := (bl.next hB); have T_26 := hid (T_25.out.below hBT); have hbT_26 := hbT_25.next hBT; clear T_25 hbT_25 hBT; have hB_26 : Below w25.heap.size w25 w26 := (bl.next hB); have X_26 := X_25.next hB_26; have cX_26_0 : _ = some (Value.bool s) := X_26.cell 0; have fX_26_0 := X_26.free 0; have cX_26_1 : _ = some (Value.slice a n1 c) := X_26.cell 1; have fX_26_1 := X_26.free 1; have cX_26_2 : _ = some (Value.slice b m1 d) := X_26.cell 2; have fX_26_2 := X_26.free 2; have Y_26 := Y_25.next hB_26; have cY_26_0 : _ = some (Value.bool t) := Y_26.cell 0; have fY_26_0 := Y_26.free 0; have cY_26_1 : _ = some (Value.slice a' n2 c') := Y_26.cell 1; have fY_26_1 := Y_26.free 1; have cY_26_2 : _ = some (Value.slice b' m2 d') := Y_26.cell 2; have fY_26_2 := Y_26.free 2; have P_26 := P_25.next hB_26; have cP_26_0 : _ = some (Value.bool s) := P_26.cell 0; have cP_26_1 : _ = some (Value.slice pa n1 pc) := P_26.cell 1; have cP_26_2 : _ = some (Value.slice pb m1 pd) := P_26.cell 2; have R_26 := R_25.next hB_26; have cR_26_0 : _ = some (Value.bool t) := R_26.cell 0; have cR_26_1 : _ = some (Value.slice ra n2 rc) := R_26.cell 1; have cR_26_2 : _ = some (Value.slice rb m2 rd) := R_26.cell 2; have E_26 := E_25.next hB_26; have G_26 := G_25.next hB_26; have GOT_26 := GOT_25.next hB_26; have cGOT_26_0 : _ = some (Value.bool (decide ((o0).num < 0))) := GOT_26.cell 0; have cGOT_26_1 : _ = some (Value.slice g0a g0n g0c) := GOT_26.cell 1; have cGOT_26_2 : _ = some (Value.slice g0b g0m g0d) := GOT_26.cell 2; have cGOT_26_3 : _ = some (Value.bool (decide ((o1).num < 0))) := GOT_26.cell 3; have cGOT_26_4 : _ = some (Value.slice g1a g1n g1c) := GOT_26.cell 4; have cGOT_26_5 : _ = some (Value.slice g1b g1m g1d) := GOT_26.cell 5; have cGOT_26_6 : _ = some (Value.bool (decide ((o2).num < 0))) := GOT_26.cell 6; have cGOT_26_7 : _ = some (Value.slice g2a g2n g2c) := GOT_26.cell 7; have cGOT_26_8 : _ = some (Value.slice g2b g2m g2d) := GOT_26.cell 8; have cGOT_26_9 : _ = some (Value.bool (decide ((o3).num < 0))) := GOT_26.cell 9; have cGOT_26_10 : _ = some (Value.slice g3a g3n g3c) := GOT_26.cell 10; have cGOT_26_11 : _ = some (Value.slice g3b g3m g3d) := GOT_26.cell 11; have cGOT_26_12 : _ = some (Value.bool (decide ((o0).num < 0))) := GOT_26.cell 12; have cGOT_26_13 : _ = some (Value.slice g4a g4n g4c) := GOT_26.cell 13; have cGOT_26_14 : _ = some (Value.slice g4b g4m g4d) := GOT_26.cell 14; have cGOT_26_15 : _ = some (Value.bool (decide ((o1).num < 0))) := GOT_26.cell 15; have cGOT_26_16 : _ = some (Value.slice g5a g5n g5c) := GOT_26.cell 16; have cGOT_26_17 : _ = some (Value.slice g5b g5m g5d) := GOT_26.cell 17; have cGOT_26_18 : _ = some (Value.bool (decide ((o6).num < 0))) := GOT_26.cell 18; have cGOT_26_19 : _ = some (Value.slice g6a g6n g6c) := GOT_26.cell 19; have cGOT_26_20 : _ = some (Value.slice g6b g6m g6d) := GOT_26.cell 20; have cGOT_26_21 : _ = some (Value.bool (decide ((o3).num < 0))) := GOT_26.cell 21; have cGOT_26_22 : _ = some (Value.slice g7a g7n g7c) := GOT_26.cell 22; have cGOT_26_23 : _ = some (Value.slice g7b g7m g7d) := GOT_26.cell 23; have cGOT_26_24 : _ = some (Value.bool (decide ((o8).num < 0))) := GOT_26.cell 24; have cGOT_26_25 : _ = some (Value.slice g8a g8n g8c) := GOT_26.cell 25; have cGOT_26_26 : _ = some (Value.slice g8b g8m g8d) := GOT_26.cell 26; have cGOT_26_27 : _ = some (Value.bool (decide ((o9).num < 0))) := GOT_26.cell 27; have cGOT_26_28 : _ = some (Value.slice g9a g9n g9c) := GOT_26.cell 28; have cGOT_26_29 : _ = some (Value.slice g9b g9m g9d) := GOT_26.cell 29; have EM_26 := EM_25.below hB_26; have hbM_26 := hbM_25.next hB_26; have QX_26 := QX_25.below hB_26; have QP_26 := QP_25.below hB_26; have QY_26 := QY_25.below hB_26; have QR_26 := QR_25.below hB_26; have Og0_26 := Og0_25.below hB_26; have Pg0_26 := Pg0_25.below hB_26; have Og1_26 := Og1_25.below hB_26; have Pg1_26 := Pg1_25.below hB_26; have Og2_26 := Og2_25.below hB_26; have Pg2_26 := Pg2_25.below hB_26; have Og3_26 := Og3_25.below hB_26; have Pg3_26 := Pg3_25.below hB_26; have Og4_26 := Og4_25.below hB_26; have Pg4_26 := Pg4_25.below hB_26; have Og5_26 := Og5_25.below hB_26; have Pg5_26 := Pg5_25.below hB_26; have Og6_26 := Og6_25.below hB_26; have Pg6_26 := Pg6_25.below hB_26; have Og7_26 := Og7_25.below hB_26; have Pg7_26 := Pg7_25.below hB_26; have Og8_26 := Og8_25.below hB_26; have Pg8_26 := Pg8_25.below hB_26; have Og9_26 := Og9_25.below hB_26; have Pg9_26 := Pg9_25.below hB_26; have Oh0_26 := Oh0_25.below hB_26; have Ph0_26 := Ph0_25.below hB_26; have Oh1_26 := Oh1_25.below hB_26; have Ph1_26 := Ph1_25.below hB_26; have Oh2_26 := Oh2_25.below hB_26; have Ph2_26 := Ph2_25.below hB_26; have hbel_26 := hbel_25.next hB_26; have hsz_26 := hB_26.size; clear X_25 cX_25_0 fX_25_0 cX_25_1 fX_25_1 cX_25_2 fX_25_2 Y_25 cY_25_0 fY_25_0 cY_25_1 fY_25_1 cY_25_2 fY_25_2 P_25 cP_25_0 cP_25_1 cP_25_2 R_25 cR_25_0 cR_25_1 cR_25_2 E_25 G_25 GOT_25 cGOT_25_0 cGOT_25_1 cGOT_25_2 cGOT_25_3 cGOT_25_4 cGOT_25_5 cGOT_25_6 cGOT_25_7 cGOT_25_8 cGOT_25_9 cGOT_25_10 cGOT_25_11 cGOT_25_12 cGOT_25_13 cGOT_25_14 cGOT_25_15 cGOT_25_16 cGOT_25_17 cGOT_25_18 cGOT_25_19 cGOT_25_20 cGOT_25_21 cGOT_25_22 cGOT_25_23 cGOT_25_24 cGOT_25_25 cGOT_25_26 cGOT_25_27 cGOT_25_28 cGOT_25_29 EM_25 hbM_25 QX_25 QP_25 QY_25 QR_25 Og0_25 Pg0_25 Og1_25 Pg1_25 Og2_25 Pg2_25 Og3_25 Pg3_25 Og4_25 Pg4_25 Og5_25 Pg5_25 Og6_25 Pg6_25 Og7_25 Pg7_25 Og8_25 Pg8_25 Og9_25 Pg9_25 Oh0_25 Ph0_25 Oh1_25 Ph1_25 Oh2_25 Ph2_25 hbel_25 hB_26; have pEM_26 := EM_26.pt0; (try clear pEM_25); have Oh3_26 := hO; have ltOh3 := hO.ltB; have Ph3_26 := hO'; have ltPh3 := hO'.ltB; clear hO hO' hD; try clear hB)))
      | (go_at_call 20; ((with_reducible refine ((beside hbel_26 (G0.out _))).mono ?_); (rintro e w27 ⟨h4a, h4n, h4c, h4b, h4m, h4d, rfl, hO, hO', hD, hB⟩; have hBT : Below w26.heap.size w26 w27 := (bl.next hB); have T_27 := hid (T_26.out.below hBT); have hbT_27 := hbT_26.next hBT; clear T_26 hbT_26 hBT; have hB_27 : Below w26.heap.size w26 w27 := (bl.next hB); have X_27 := X_26.next hB_27; have cX_27_0 : _ = some (Value.bool s) := X_27.cell 0; have fX_27_0 := X_27.free 0; have cX_27_1 : _ = some (Value.slice a n1 c) := X_27.cell 1; have fX_27_1 := X_27.free 1; have cX_27_2 : _ = some (Value.slice b m1 d) := X_27.cell 2; have fX_27_2 := X_27.free 2; have Y_27 := Y_26.next hB_27; have cY_27_0 : _ = some (Value.bool t) := Y_27.cell 0; have fY_27_0 := Y_27.free 0; have cY_27_1 : _ = some (Value.slice a' n2 c') := Y_27.cell 1; have fY_27_1 := Y_27.free 1; have cY_27_2 : _ = some (Value.slice b' m2 d') := Y_27.cell 2; have fY_27_2 := Y_27.free 2; have P_27 := P_26.next hB_27; have cP_27_0 : _ = some (Value.bool s) := P_27.cell 0; have cP_27_1 : _ = some (Value.slice pa n1 pc) := P_27.cell 1; have cP_27_2 : _ = some (Value.slice pb m1 pd) := P_27.cell 2; have R_27 := R_26.next hB_27; have cR_27_0 : _ = some (Value.bool t) := R_27.cell 0; have cR_27_1 : _ = some (Value.slice ra n2 rc) := R_27.cell 1; have cR_27_2 : _ = some (Value.slice rb m2 rd) := R_27.cell 2; have E_27 := E_26.next hB_27; have G_27 := G_26.next hB_27; have GOT_27 := GOT_26.next hB_27; have cGOT_27_0 : _ = some (Value.bool (decide ((o0).num < 0))) := GOT_27.cell 0; have cGOT_27_1 : _ = some (Value.slice g0a g0n g0c) := GOT_27.cell 1; have cGOT_27_2 : _ = some (Value.slice g0b g0m g0d) := GOT_27.cell 2; have cGOT_27_3 : _ = some (Value.bool (decide ((o1).num < 0))) := GOT_27.cell 3; have cGOT_27_4 : _ = some (Value.slice g1a g1n g1c) := GOT_27.cell 4; have cGOT_27_5 : _ = some (Value.slice g1b g1m g1d) := GOT_27.cell 5; have cGOT_27_6 : _ = some (Value.bool (decide ((o2).num < 0))) := GOT_27.cell 6; have cGOT_27_7 : _ = some (Value.slice g2a g2n g2c) := GOT_27.cell 7; have cGOT_27_8 : _ = some (Value.slice g2b g2m g2d) := GOT_27.cell 8; have cGOT_27_9 : _ = some (Value.bool (decide ((o3).num < 0))) := GOT_27.cell 9; have cGOT_27_10 : _ = some (Value.slice g3a g3n g3c) := GOT_27.cell 10; have cGOT_27_11 : _ = some (Value.slice g3b g3m g3d) := GOT_27.cell 11; have cGOT_27_12 : _ = some (Value.bool (decide ((o0).num < 0))) := GOT_27.cell 12; have cGOT_27_13 : _ = some (Value.slice g4a g4n g4c) := GOT_27.cell 13; have cGOT_27_14 : _ = some (Value.slice g4b g4m g4d) := GOT_27.cell 14; have cGOT_27_15 : _ = some (Value.bool (decide ((o1).num < 0))) := GOT_27.cell 15; have cGOT_27_16 : _ = some (Value.slice g5a g5n g5c) := GOT_27.cell 16; have cGOT_27_17 : _ = some (Value.slice g5b g5m g5d) := GOT_27.cell 17; have cGOT_27_18 : _ = some (Value.bool (decide ((o6).num < 0))) := GOT_27.cell 18; have cGOT_27_19 : _ = some (Value.slice g6a g6n g6c) := GOT_27.cell 19; have cGOT_27_20 : _ = some (Value.slice g6b g6m g6d) := GOT_27.cell 20; have cGOT_27_21 : _ = some (Value.bool (decide ((o3).num < 0))) := GOT_27.cell 21; have cGOT_27_22 : _ = some (Value.slice g7a g7n g7c) := GOT_27.cell 22; have cGOT_27_23 : _ = some (Value.slice g7b g7m g7d) := GOT_27.cell 23; have cGOT_27_24 : _ = some (Value.bool (decide ((o8).num < 0))) := GOT_27.cell 24; have cGOT_27_25 : _ = some (Value.slice g8a g8n g8c) := GOT_27.cell 25; have cGOT_27_26 : _ = some (Value.slice g8b g8m g8d) := GOT_27.cell 26; have cGOT_27_27 : _ = some (Value.bool (decide ((o9).num < 0))) := GOT_27.cell 27; have cGOT_27_28 : _ = some (Value.slice g9a g9n g9c) := GOT_27.cell 28; have cGOT_27_29 : _ = some (Value.slice g9b g9m g9d) := GOT_27.cell 29; have EM_27 := EM_26.below hB_27; have hbM_27 := hbM_26.next hB_27; have QX_27 := QX_26.below hB_27; have QP_27 := QP_26.below hB_27; have QY_27 := QY_26.below hB_27; have QR_27 := QR_26.below hB_27; have Og0_27 := Og0_26.below hB_27; have Pg0_27 := Pg0_26.below hB_27; have Og1_27 := Og1_26.below hB_27; have Pg1_27 := Pg1_26.below hB_27; have Og2_27 := Og2_26.below hB_27; have Pg2_27 := Pg2_26.below hB_27; have Og3_27 := Og3_26.below hB_27; have Pg3_27 := Pg3_26.below hB_27; have Og4_27 := Og4_26.below hB_27; have Pg4_27 := Pg4_26.below hB_27; have Og5_27 := Og5_26.below hB_27; have Pg5_27 := Pg5_26.below hB_27; have Og6_27 := Og6_26.below hB_27; have Pg6_27 := Pg6_26.below hB_27; have Og7_27 := Og7_26.below hB_27; have Pg7_27 := Pg7_26.below hB_27; have Og8_27 := Og8_26.below hB_27; have Pg8_27 := Pg8_26.below hB_27; have Og9_27 := Og9_26.below hB_27; have Pg9_27 := Pg9_26.below hB_27; have Oh0_27 := Oh0_26.below hB_27; have Ph0_27 := Ph0_26.below hB_27; have Oh1_27 := Oh1_26.below hB_27; have Ph1_27 := Ph1_26.below hB_27; have Oh2_27 := Oh2_26.below hB_27; have Ph2_27 := Ph2_26.below hB_27; have Oh3_27 := Oh3_26.below hB_27; have Ph3_27 := Ph3_26.below hB_27; have hbel_27 := hbel_26.next hB_27; have hsz_27 := hB_27.size; clear X_26 cX_26_0 fX_26_0 cX_26_1 fX_26_1 cX_26_2 fX_26_2 Y_26 cY_26_0 fY_26_0 cY_26_1 fY_26_1 cY_26_2 fY_26_2 P_26 cP_26_0 cP_26_1 cP_26_2 R_26 cR_26_0 cR_26_1 cR_26_2 E_26 G_26 GOT_26 cGOT_26_0 cGOT_26_1 cGOT_26_2 cGOT_26_3 cGOT_26_4 cGOT_26_5 cGOT_26_6 cGOT_26_7 cGOT_26_8 cGOT_26_9 cGOT_26_10 cGOT_26_11 cGOT_26_12 cGOT_26_13 cGOT_26_14 cGOT_26_15 cGOT_26_16 cGOT_26_17 cGOT_26_18 cGOT_26_19 cGOT_26_20 cGOT_26_21 cGOT_26_22 cGOT_26_23 cGOT_26_24 cGOT_26_25 cGOT_26_26 cGOT_26_27 cGOT_26_28 cGOT_26_29 EM_26 hbM_26 QX_26 QP_26 QY_26 QR_26 Og0_26 Pg0_26 Og1_26 Pg1_26 Og2_26 Pg2_26 Og3_26 Pg3_26 Og4_26 Pg4_26 Og5_26 Pg5_26 Og6_26 Pg6_26 Og7_26 Pg7_26 Og8_26 Pg8_26 Og9_26 Pg9_26 Oh0_26 Ph0_26 Oh1_26 Ph1_26 Oh2_26 Ph2_26 Oh3_26 Ph3_26 hbel_26 hB_27; have pEM_27 := EM_27.pt0; (try clear pEM_26); have Oh4_27 := hO; have ltOh4 := hO.ltB; have Ph4_27 := hO'; have ltPh4 := hO'.ltB; clear hO hO' hD; try clear hB)))
      | (go_at_call 20; ((with_reducible refine ((beside hbel_27 (G1.out _))).mono ?_); (rintro e w28 ⟨h5a, h5n, h5c, h5b, h5m, h5d, rfl, hO, hO', hD, hB⟩; have hBT : Below w27.heap.size w27 w28 := (bl.next hB); have T_28 := hid (T_27.out.below hBT); have hbT_28 := hbT_27.next hBT; clear T_27 hbT_27 hBT; have hB_28 : Below w27.heap.size w27 w28 := (bl.next hB); have X_28 := X_27.next hB_28; have cX_28_0 : _ = some (Value.bool s) := X_28.cell 0; have fX_28_0 := X_28.free 0; have cX_28_1 : _ = some (Value.slice a n1 c) := X_28.cell 1; have fX_28_1 := X_28.free 1; have cX_28_2 : _ = some (Value.slice b m1 d) := X_28.cell 2; have fX_28_2 := X_28.free 2; have Y_28 := Y_27.next hB_28; have cY_28_0 : _ = some (Value.bool t) := Y_28.cell 0; have fY_28_0 := Y_28.free 0; have cY_28_1 : _ = some (Value.slice a' n2 c') := Y_28.cell 1; have fY_28_1 := Y_28.free 1; have cY_28_2 : _ = some (Value.slice b' m2 d') := Y_28.cell 2; have fY_28_2 := Y_28.free 2; have P_28 := P_27.next hB_28; have cP_28_0 : _ = some (Value.bool s) := P_28.cell 0; have cP_28_1 : _ = some (Value.slice pa n1 pc) := P_28.cell 1; have cP_28_2 : _ = some (Value.slice pb m1 pd) := P_28.cell 2; have R_28 := R_27.next hB_28; have cR_28_0 : _ = some (Value.bool t) := R_28.cell 0; have cR_28_1 : _ = some (Value.slice ra n2 rc) := R_28.cell 1; have cR_28_2 : _ = some (Value.slice rb m2 rd) := R_28.cell 2; have E_28 := E_27.next hB_28; have G_28 := G_27.next hB_28; have GOT_28 := GOT_27.next hB_28; have cGOT_28_0 : _ = some (Value.bool (decide ((o0).num < 0))) := GOT_28.cell 0; have cGOT_28_1 : _ = some (Value.slice g0a g0n g0c) := GOT_28.cell 1; have cGOT_28_2 : _ = some (Value.slice g0b g0m g0d) := GOT_28.cell 2; have cGOT_28_3 : _ = some (Value.bool (decide ((o1).num < 0))) := GOT_28.cell 3; have cGOT_28_4 : _ = some (Value.slice g1a g1n g1c) := GOT_28.cell 4; have cGOT_28_5 : _ = some (Value.slice g1b g1m g1d) := GOT_28.cell 5; have cGOT_28_6 : _ = some (Value.bool (decide ((o2).num < 0))) := GOT_28.cell 6; have cGOT_28_7 : _ = some (Value.slice g2a g2n g2c) := GOT_28.cell 7; have cGOT_28_8 : _ = some (Value.slice g2b g2m g2d) := GOT_28.cell 8; have cGOT_28_9 : _ = some (Value.bool (decide ((o3).num < 0))) := GOT_28.cell 9; have cGOT_28_10 : _ = some (Value.slice g3a g3n g3c) := GOT_28.cell 10; have cGOT_28_11 : _ = some (Value.slice g3b g3m g3d) := GOT_28.cell 11; have cGOT_28_12 : _ = some (Value.bool (decide ((o0).num < 0))) := GOT_28.cell 12; have cGOT_28_13 : _ = some (Value.slice g4a g4n g4c) := GOT_28.cell 13; have cGOT_28_14 : _ = some (Value.slice g4b g4m g4d) := GOT_28.cell 14; have cGOT_28_15 : _ = some (Value.bool (decide ((o1).num < 0))) := GOT_28.cell 15; have cGOT_28_16 : _ = some (Value.slice g5a g5n g5c) := GOT_28.cell 16; have cGOT_28_17 : _ = some (Value.slice g5b g5m g5d) := GOT_28.cell 17; have cGOT_28_18 : _ = some (Value.bool (decide ((o6).num < 0))) := GOT_28.cell 18; have cGOT_28_19 : _ = some (Value.slice g6a g6n g6c) := GOT_28.cell 19; have cGOT_28_20 : _ = some (Value.slice g6b g6m g6d) := GOT_28.cell 20; have cGOT_28_21 : _ = some (Value.bool (decide ((o3).num < 0))) := GOT_28.cell 21; have cGOT_28_22 : _ = some (Value.slice g7a g7n g7c) := GOT_28.cell 22; have cGOT_28_23 : _ = some (Value.slice g7b g7m g7d) := GOT_28.cell 23; have cGOT_28_24 : _ = some (Value.bool (decide ((o8).num < 0))) := GOT_28.cell 24; have cGOT_28_25 : _ = some (Value.slice g8a g8n g8c) := GOT_28.cell 25; have cGOT_28_26 : _ = some (Value.slice g8b g8m g8d) := GOT_28.cell 26; have cGOT_28_27 : _ = some (Value.bool (decide ((o9).num < 0))) := GOT_28.cell 27; have cGOT_28_28 : _ = some (Value.slice g9a g9n g9c) := GOT_28.cell 28; have cGOT_28_29 : _ = some (Value.slice g9b g9m g9d) := GOT_28.cell 29; have EM_28 := EM_27.below hB_28; have hbM_28 := hbM_27.next hB_28; have QX_28 := QX_27.below hB_28; have QP_28 := QP_27.below hB_28; have QY_28 := QY_27.below hB_28; have QR_28 := QR_27.below hB_28; have Og0_28 := Og0_27.below hB_28; have Pg0_28 := Pg0_27.below hB_28; have Og1_28 := Og1_27.below hB_28; have Pg1_28 := Pg1_27.below hB_28; have Og2_28 := Og2_27.below hB_28; have Pg2_28 := Pg2_27.below hB_28; have Og3_28 := Og3_27.below hB_28; have Pg3_28 := Pg3_27.below hB_28; have Og4_28 := Og4_27.below hB_28; have Pg4_28 := Pg4_27.below hB_28; have Og5_28 := Og5_27.below hB_28; have Pg5_28 := Pg5_27.below hB_28; have Og6_28 := Og6_27.below hB_28; have Pg6_28 := Pg6_27.below hB_28; have Og7_28 := Og7_27.below hB_28; have Pg7_28 := Pg7_27.below hB_28; have Og8_28 := Og8_27.below hB_28; have Pg8_28 := Pg8_27.below hB_28; have Og9_28 := Og9_27.below hB_28; have Pg9_28 := Pg9_27.below hB_28; have Oh0_28 := Oh0_27.below hB_28; have Ph0_28 := Ph0_27.below hB_28; have Oh1_28 := Oh1_27.below hB_28; have Ph1_28 := Ph1_27.below hB_28; have Oh2_28 := Oh2_27.below hB_28; have Ph2_28 := Ph2_27.below hB_28; have Oh3_28 := Oh3_27.below hB_28; have Ph3_28 := Ph3_27.below hB_28; have Oh4_28 := Oh4_27.below hB_28; have Ph4_28 := Ph4_27.below hB_28; have hbel_28 := hbel_27.next hB_28; have hsz_28 := hB_28.size; clear X_27 cX_27_0 fX_27_0 cX_27_1 fX_27_1 cX_27_2 fX_27_2 Y_27 cY_27_0 fY_27_0 cY_27_1 fY_27_1 cY_27_2 fY_27_2 P_27 cP_27_0 cP_27_1 cP_27_2 R_27 cR_27_0 cR_27_1 cR_27_2 E_27 G_27 GOT_27 cGOT_27_0 cGOT_27_1 cGOT_27_2 cGOT_27_3 cGOT_27_4 cGOT_27_5 cGOT_27_6 cGOT_27_7 cGOT_27_8 cGOT_27_9 cGOT_27_10 cGOT_27_11 cGOT_27_12 cGOT_27_13 cGOT_27_14 cGOT_27_15 cGOT_27_16 cGOT_27_17 cGOT_27_18 cGOT_27_19 cGOT_27_20 cGOT_27_21 cGOT_27_22 cGOT_27_23 cGOT_27_24 cGOT_27_25 cGOT_27_26 cGOT_27_27 cGOT_27_28 cGOT_27_29 EM_27 hbM_27 QX_27 QP_27 QY_27 QR_27 Og0_27 Pg0_27 Og1_27 Pg1_27 Og2_27 Pg2_27 Og3_27 Pg3_27 Og4_27 Pg4_27 Og5_27 Pg5_27 Og6_27 Pg6_27 Og7_27 Pg7_27 Og8_27 Pg8_27 Og9_27 Pg9_27 Oh0_27 Ph0_27 Oh1_27 Ph1_27 Oh2_27 Ph2_27 Oh3_27 Ph3_27 Oh4_27 Ph4_27 hbel_27 hB_28; have pEM_28 := EM_28.pt0; (try clear pEM_27); have Oh5_28 := hO; have ltOh5 := hO.ltB; have Ph5_28 := hO'; have ltPh5 := hO'.ltB; clear hO hO' hD; try clear hB)))
      | (go_at_call 38; ((with_reducible refine (fgreat (QX_28.below bl) (by omega) (QY_28.below bl) (by omega)).mono ?_); (rw [ho6.out]; rintro e w29 ⟨h6a, h6n, h6c, h6b, h6m, h6d, rfl, hO, hO', hD, hB⟩; have hBT : Below w28.heap.size w28 w29 := (bl.next hB); have T_29 := hid (T_28.out.below hBT); have hbT_29 := hbT_28.next hBT; clear T_28 hbT_28 hBT; have hB_29 : Below w28.heap.size w28 w29 := (bl.next hB); have X_29 := X_28.next hB_29; have cX_29_0 : _ = some (Value.bool s) := X_29.cell 0; have fX_29_0 := X_29.free 0; have cX_29_1 : _ = some (Value.slice a n1 c) := X_29.cell 1; have fX_29_1 := X_29.free 1; have cX_29_2 : _ = some (Value.slice b m1 d) := X_29.cell 2; have fX_29_2 := X_29.free 2; have Y_29 := Y_28.next hB_29; have cY_29_0 : _ = some (Value.bool t) := Y_29.cell 0; have fY_29_0 := Y_29.free 0; have cY_29_1 : _ = some (Value.slice a' n2 c') := Y_29.cell 1; have fY_29_1 := Y_29.free 1; have cY_29_2 : _ = some (Value.slice b' m2 d') := Y_29.cell 2; have fY_29_2 := Y_29.free 2; have P_29 := P_28.next hB_29; have cP_29_0 : _ = some (Value.bool s) := P_29.cell 0; have cP_29_1 : _ = some (Value.slice pa n1 pc) := P_29.cell 1; have cP_29_2 : _ = some (Value.slice pb m1 pd) := P_29.cell 2; have R_29 := R_28.next hB_29; have cR_29_0 : _ = some (Value.bool t) := R_29.cell 0; have cR_29_1 : _ = some (Value.slice ra n2 rc) := R_29.cell 1; have cR_29_2 : _ = some (Value.slice rb m2 rd) := R_29.cell 2; have E_29 := E_28.next hB_29; have G_29 := G_28.next hB_29; have GOT_29 := GOT_28.next hB_29; have cGOT_29_0 : _ = some (Value.bool (decide ((o0).num < 0))) := GOT_29.cell 0; have cGOT_29_1 : _ = some (Value.slice g0a g0n g0c) := GOT_29.cell 1; have cGOT_29_2 : _ = some (Value.slice g0b g0m g0d) := GOT_29.cell 2; have cGOT_29_3 : _ = some (Value.bool (decide ((o1).num < 0))) := GOT_29.cell 3; have cGOT_29_4 : _ = some (Value.slice g1a g1n g1c) := GOT_29.cell 4; have cGOT_29_5 : _ = some (Value.slice g1b g1m g1d) := GOT_29.cell 5; have cGOT_29_6 : _ = some (Value.bool (decide ((o2).num < 0))) := GOT_29.cell 6; have cGOT_29_7 : _ = some (Value.slice g2a g2n g2c) := GOT_29.cell 7; have cGOT_29_8 : _ = some (Value.slice g2b g2m g2d) := GOT_29.cell 8; have cGOT_29_9 : _ = some (Value.bool (decide ((o3).num < 0))) := GOT_29.cell 9; have cGOT_29_10 : _ = some (Value.slice g3a g3n g3c) := GOT_29.cell 10; have cGOT_29_11 : _ = some (Value.slice g3b g3m g3d) := GOT_29.cell 11; have cGOT_29_12 : _ = some (Value.bool (decide ((o0).num < 0))) := GOT_29.cell 12; have cGOT_29_13 : _ = some (Value.slice g4a g4n g4c) := GOT_29.cell 13; have cGOT_29_14 : _ = some (Value.slice g4b g4m g4d) := GOT_29.cell 14; have cGOT_29_15 : _ = some (Value.bool (decide ((o1).num < 0))) := GOT_29.cell 15; have cGOT_29_16 : _ = some (Value.slice g5a g5n g5c) := GOT_29.cell 16; have cGOT_29_17 : _ = some (Value.slice g5b g5m g5d) := GOT_29.cell 17; have cGOT_29_18 : _ = some (Value.bool (decide ((o6).num < 0))) := GOT_29.cell 18; have cGOT_29_19 : _ = some (Value.slice g6a g6n g6c) := GOT_29.cell 19; have cGOT_29_20 : _ = some (Value.slice g6b g6m g6d) := GOT_29.cell 20; have cGOT_29_21 : _ = some (Value.bool (decide ((o3).num < 0))) := GOT_29.cell 21; have cGOT_29_22 : _ = some (Value.slice g7a g7n g7c) := GOT_29.cell 22; have cGOT_29_23 : _ = some (Value.slice g7b g7m g7d) := GOT_29.cell 23; have cGOT_29_24 : _ = some (Value.bool (decide ((o8).num < 0))) := GOT_29.cell 24; have cGOT_29_25 : _ = some (Value.slice g8a g8n g8c) := GOT_29.cell 25; have cGOT_29_26 : _ = some (Value.slice g8b g8m g8d) := GOT_29.cell 26; have cGOT_29_27 : _ = some (Value.bool (decide ((o9).num < 0))) := GOT_29.cell 27; have cGOT_29_28 : _ = some (Value.slice g9a g9n g9c) := GOT_29.cell 28; have cGOT_29_29 : _ = some (Value.slice g9b g9m g9d) := GOT_29.cell 29; have EM_29 := EM_28.below hB_29; have hbM_29 := hbM_28.next hB_29; have QX_29 := QX_28.below hB_29; have QP_29 := QP_28.below hB_29; have QY_29 := QY_28.below hB_29; have QR_29 := QR_28.below hB_29; have Og0_29 := Og0_28.below hB_29; have Pg0_29 := Pg0_28.below hB_29; have Og1_29 := Og1_28.below hB_29; have Pg1_29 := Pg1_28.below hB_29; have Og2_29 := Og2_28.below hB_29; have Pg2_29 := Pg2_28.below hB_29; have Og3_29 := Og3_28.below hB_29; have Pg3_29 := Pg3_28.below hB_29; have Og4_29 := Og4_28.below hB_29; have Pg4_29 := Pg4_28.below hB_29; have Og5_29 := Og5_28.below hB_29; have Pg5_29 := Pg5_28.below hB_29; have Og6_29 := Og6_28.below hB_29; have Pg6_29 := Pg6_28.below hB_29; have Og7_29 := Og7_28.below hB_29; have Pg7_29 := Pg7_28.below hB_29; have Og8_29 := Og8_28.below hB_29; have Pg8_29 := Pg8_28.below hB_29; have Og9_29 := Og9_28.below hB_29; have Pg9_29 := Pg9_28.below hB_29; have Oh0_29 := Oh0_28.below hB_29; have Ph0_29 := Ph0_28.below hB_29; have Oh1_29 := Oh1_28.below hB_29; have Ph1_29 := Ph1_28.below hB_29; have Oh2_29 := Oh2_28.below hB_29; have Ph2_29 := Ph2_28.below hB_29; have Oh3_29 := Oh3_28.below hB_29; have Ph3_29 := Ph3_28.below hB_29; have Oh4_29 := Oh4_28.below hB_29; have Ph4_29 := Ph4_28.below hB_29; have Oh5_29 := Oh5_28.below hB_29; have Ph5_29 := Ph5_28.below hB_29; have hbel_29 := hbel_28.next hB_29; have hsz_29 := hB_29.size; clear X_28 cX_28_0 fX_28_0 cX_28_1 fX_28_1 cX_28_2 fX_28_2 Y_28 cY_28_0 fY_28_0 cY_28_1 fY_28_1 cY_28_2 fY_28_2 P_28 cP_28_0 cP_28_1 cP_28_2 R_28 cR_28_0 cR_28_1 cR_28_2 E_28 G_28 GOT_28 cGOT_28_0 cGOT_28_1 cGOT_28_2 cGOT_28_3 cGOT_28_4 cGOT_28_5 cGOT_28_6 cGOT_28_7 cGOT_28_8 cGOT_28_9 cGOT_28_10 cGOT_28_11 cGOT_28_12 cGOT_28_13 cGOT_28_14 cGOT_28_15 cGOT_28_16 cGOT_28_17 cGOT_28_18 cGOT_28_19 cGOT_28_20 cGOT_28_21 cGOT_28_22 cGOT_28_23 cGOT_28_24 cGOT_28_25 cGOT_28_26 cGOT_28_27 cGOT_28_28 cGOT_28_29 EM_28 hbM_28 QX_28 QP_28 QY_28 QR_28 Og0_28 Pg0_28 Og1_28 Pg1_28 Og2_28 Pg2_28 Og3_28 Pg3_28 Og4_28 Pg4_28 Og5_28 Pg5_28 Og6_28 Pg6_28 Og7_28 Pg7_28 Og8_28 Pg8_28 Og9_28 Pg9_28 Oh0_28 Ph0_28 Oh1_28 Ph1_28 Oh2_28 Ph2_28 Oh3_28 Ph3_28 Oh4_28 Ph4_28 Oh5_28 Ph5_28 hbel_28 hB_29; have pEM_29 := EM_29.pt0; (try clear pEM_28); have Oh6_29 := hO; have ltOh6 := hO.ltB; have Ph6_29 := hO'; have ltPh6 := hO'.ltB; clear hO hO' hD; try clear hB)))
      | (go_at_call 21; ((with_reducible refine (rqmul (QX_29.below bl) (by omega) (QY_29.below bl) (by omega)).mono ?_); (rw [ho3.out]; rintro e w30 ⟨h7a, h7n, h7c, h7b, h7m, h7d, rfl, hO, hO', hD, hB⟩; have hBT : Below w29.heap.size w29 w30 := (bl.next hB); have T_30 := hid (T_29.out.below hBT); have hbT_30 := hbT_29.next hBT; clear T_29 hbT_29 hBT; have hB_30 : Below w29.heap.size w29 w30 := (bl.next hB); have X_30 := X_29.next hB_30; have cX_30_0 : _ = some (Value.bool s) := X_30.cell 0; have fX_30_0 := X_30.free 0; have cX_30_1 : _ = some (Value.slice a n1 c) := X_30.cell 1; have fX_30_1 := X_30.free 1; have cX_30_2 : _ = some (Value.slice b m1 d) := X_30.cell 2; have fX_30_2 := X_30.free 2; have Y_30 := Y_29.next hB_30; have cY_30_0 : _ = some (Value.bool t) := Y_30.cell 0; have fY_30_0 := Y_30.free 0; have cY_30_1 : _ = some (Value.slice a' n2 c') := Y_30.cell 1; have fY_30_1 := Y_30.free 1; have cY_30_2 : _ = some (Value.slice b' m2 d') := Y_30.cell 2; have fY_30_2 := Y_30.free 2; have P_30 := P_29.next hB_30; have cP_30_0 : _ = some (Value.bool s) := P_30.cell 0; have cP_30_1 : _ = some (Value.slice pa n1 pc) := P_30.cell 1; have cP_30_2 : _ = some (Value.slice pb m1 pd) := P_30.cell 2; have R_30 := R_29.next hB_30; have cR_30_0 : _ = some (Value.bool t) := R_30.cell 0; have cR_30_1 : _ = some (Value.slice ra n2 rc) := R_30.cell 1; have cR_30_2 : _ = some (Value.slice rb m2 rd) := R_30.cell 2; have E_30 := E_29.next hB_30; have G_30 := G_29.next hB_30; have GOT_30 := GOT_29.next hB_30; have cGOT_30_0 : _ = some (Value.bool (decide ((o0).num < 0))) := GOT_30.cell 0; have cGOT_30_1 : _ = some (Value.slice g0a g0n g0c) := GOT_30.cell 1; have cGOT_30_2 : _ = some (Value.slice g0b g0m g0d) := GOT_30.cell 2; have cGOT_30_3 : _ = some (Value.bool (decide ((o1).num < 0))) := GOT_30.cell 3; have cGOT_30_4 : _ = some (Value.slice g1a g1n g1c) := GOT_30.cell 4; have cGOT_30_5 : _ = some (Value.slice g1b g1m g1d) := GOT_30.cell 5; have cGOT_30_6 : _ = some (Value.bool (decide ((o2).num < 0))) := GOT_30.cell 6; have cGOT_30_7 : _ = some (Value.slice g2a g2n g2c) := GOT_30.cell 7; have cGOT_30_8 : _ = some (Value.slice g2b g2m g2d) := GOT_30.cell 8; have cGOT_30_9 : _ = some (Value.bool (decide ((o3).num < 0))) := GOT_30.cell 9; have cGOT_30_10 : _ = some (Value.slice g3a g3n g3c) := GOT_30.cell 10; have cGOT_30_11 : _ = some (Value.slice g3b g3m g3d) := GOT_30.cell 11; have cGOT_30_12 : _ = some (Value.bool (decide ((o0).num < 0))) := GOT_30.cell 12; have cGOT_30_13 : _ = some (Value.slice g4a g4n g4c) := GOT_30.cell 13; have cGOT_30_14 : _ = some (Value.slice g4b g4m g4d) := GOT_30.cell 14; have cGOT_30_15 : _ = some (Value.bool (decide ((o1).num < 0))) := GOT_30.cell 15; have cGOT_30_16 : _ = some (Value.slice g5a g5n g5c) := GOT_30.cell 16; have cGOT_30_17 : _ = some (Value.slice g5b g5m g5d) := GOT_30.cell 17; have cGOT_30_18 : _ = some (Value.bool (decide ((o6).num < 0))) := GOT_30.cell 18; have cGOT_30_19 : _ = some (Value.slice g6a g6n g6c) := GOT_30.cell 19; have cGOT_30_20 : _ = some (Value.slice g6b g6m g6d) := GOT_30.cell 20; have cGOT_30_21 : _ = some (Value.bool (decide ((o3).num < 0))) := GOT_30.cell 21; have cGOT_30_22 : _ = some (Value.slice g7a g7n g7c) := GOT_30.cell 22; have cGOT_30_23 : _ = some (Value.slice g7b g7m g7d) := GOT_30.cell 23; have cGOT_30_24 : _ = some (Value.bool (decide ((o8).num < 0))) := GOT_30.cell 24; have cGOT_30_25 : _ = some (Value.slice g8a g8n g8c) := GOT_30.cell 25; have cGOT_30_26 : _ = some (Value.slice g8b g8m g8d) := GOT_30.cell 26; have cGOT_30_27 : _ = some (Value.bool (decide ((o9).num < 0))) := GOT_30.cell 27; have cGOT_30_28 : _ = some (Value.slice g9a g9n g9c) := GOT_30.cell 28; have cGOT_30_29 : _ = some (Value.slice g9b g9m g9d) := GOT_30.cell 29; have EM_30 := EM_29.below hB_30; have hbM_30 := hbM_29.next hB_30; have QX_30 := QX_29.below hB_30; have QP_30 := QP_29.below hB_30; have QY_30 := QY_29.below hB_30; have QR_30 := QR_29.below hB_30; have Og0_30 := Og0_29.below hB_30; have Pg0_30 := Pg0_29.below hB_30; have Og1_30 := Og1_29.below hB_30; have Pg1_30 := Pg1_29.below hB_30; have Og2_30 := Og2_29.below hB_30; have Pg2_30 := Pg2_29.below hB_30; have Og3_30 := Og3_29.below hB_30; have Pg3_30 := Pg3_29.below hB_30; have Og4_30 := Og4_29.below hB_30; have Pg4_30 := Pg4_29.below hB_30; have Og5_30 := Og5_29.below hB_30; have Pg5_30 := Pg5_29.below hB_30; have Og6_30 := Og6_29.below hB_30; have Pg6_30 := Pg6_29.below hB_30; have Og7_30 := Og7_29.below hB_30; have Pg7_30 := Pg7_29.below hB_30; have Og8_30 := Og8_29.below hB_30; have Pg8_30 := Pg8_29.below hB_30; have Og9_30 := Og9_29.below hB_30; have Pg9_30 := Pg9_29.below hB_30; have Oh0_30 := Oh0_29.below hB_30; have Ph0_30 := Ph0_29.below hB_30; have Oh1_30 := Oh1_29.below hB_30; have Ph1_30 := Ph1_29.below hB_30; have Oh2_30 := Oh2_29.below hB_30; have Ph2_30 := Ph2_29.below hB_30; have Oh3_30 := Oh3_29.below hB_30; have Ph3_30 := Ph3_29.below hB_30; have Oh4_30 := Oh4_29.below hB_30; have Ph4_30 := Ph4_29.below hB_30; have Oh5_30 := Oh5_29.below hB_30; have Ph5_30 := Ph5_29.below hB_30; have Oh6_30 := Oh6_29.below hB_30; have Ph6_30 := Ph6_29.below hB_30; have hbel_30 := hbel_29.next hB_30; have hsz_30 := hB_30.size; clear X_29 cX_29_0 fX_29_0 cX_29_1 fX_29_1 cX_29_2 fX_29_2 Y_29 cY_29_0 fY_29_0 cY_29_1 fY_29_1 cY_29_2 fY_29_2 P_29 cP_29_0 cP_29_1 cP_29_2 R_29 cR_29_0 cR_29_1 cR_29_2 E_29 G_29 GOT_29 cGOT_29_0 cGOT_29_1 cGOT_29_2 cGOT_29_3 cGOT_29_4 cGOT_29_5 cGOT_29_6 cGOT_29_7 cGOT_29_8 cGOT_29_9 cGOT_29_10 cGOT_29_11 cGOT_29_12 cGOT_29_13 cGOT_29_14 cGOT_29_15 cGOT_29_16 cGOT_29_17 cGOT_29_18 cGOT_29_19 cGOT_29_20 cGOT_29_21 cGOT_29_22 cGOT_29_23 cGOT_29_24 cGOT_29_25 cGOT_29_26 cGOT_29_27 cGOT_29_28 cGOT_29_29 EM_29 hbM_29 QX_29 QP_29 QY_29 QR_29 Og0_29 Pg0_29 Og1_29 Pg1_29 Og2_29 Pg2_29 Og3_29 Pg3_29 Og4_29 Pg4_29 Og5_29 Pg5_29 Og6_29 Pg6_29 Og7_29 Pg7_29 Og8_29 Pg8_29 Og9_29 Pg9_29 Oh0_29 Ph0_29 Oh1_29 Ph1_29 Oh2_29 Ph2_29 Oh3_29 Ph3_29 Oh4_29 Ph4_29 Oh5_29 Ph5_29 Oh6_29 Ph6_29 hbel_29 hB_30; have pEM_30 := EM_30.pt0; (try clear pEM_29); have Oh7_30 := hO; have ltOh7 := hO.ltB; have Ph7_30 := hO'; have ltPh7 := hO'.ltB; clear hO hO' hD; try clear hB)))
      | (go_at_call 38; ((with_reducible refine (fgreat (QY_30.below bl) (by omega) (QX_30.below bl) (by omega)).mono ?_); (rw [ho8.out]; rintro e w31 ⟨h8a, h8n, h8c, h8b, h8m, h8d, rfl, hO, hO', hD, hB⟩; have hBT : Below w30.heap.size w30 w31 := (bl.next hB); have T_31 := hid (T_30.out.below hBT); have hbT_31 := hbT_30.next hBT; clear T_30 hbT_30 hBT; have hB_31 : Below w30.heap.size w30 w31 := (bl.next hB); have X_31 := X_30.next hB_31; have cX_31_0 : _ = some (Value.bool s) := X_31.cell 0; have fX_31_0 := X_31.free 0; have cX_31_1 : _ = some (Value.slice a n1 c) := X_31.cell 1; have fX_31_1 := X_31.free 1; have cX_31_2 : _ = some (Value.slice b m1 d) := X_31.cell 2; have fX_31_2 := X_31.free 2; have Y_31 := Y_30.next hB_31; have cY_31_0 : _ = some (Value.bool t) := Y_31.cell 0; have fY_31_0 := Y_31.free 0; have cY_31_1 : _ = some (Value.slice a' n2 c') := Y_31.cell 1; have fY_31_1 := Y_31.free 1; have cY_31_2 : _ = some (Value.slice b' m2 d') := Y_31.cell 2; have fY_31_2 := Y_31.free 2; have P_31 := P_30.next hB_31; have cP_31_0 : _ = some (Value.bool s) := P_31.cell 0; have cP_31_1 : _ = some (Value.slice pa n1 pc) := P_31.cell 1; have cP_31_2 : _ = some (Value.slice pb m1 pd) := P_31.cell 2; have R_31 := R_30.next hB_31; have cR_31_0 : _ = some (Value.bool t) := R_31.cell 0; have cR_31_1 : _ = some (Value.slice ra n2 rc) := R_31.cell 1; have cR_31_2 : _ = some (Value.slice rb m2 rd) := R_31.cell 2; have E_31 := E_30.next hB_31; have G_31 := G_30.next hB_31; have GOT_31 := GOT_30.next hB_31; have cGOT_31_0 : _ = some (Value.bool (decide ((o0).num < 0))) := GOT_31.cell 0; have cGOT_31_1 : _ = some (Value.slice g0a g0n g0c) := GOT_31.cell 1; have cGOT_31_2 : _ = some (Value.slice g0b g0m g0d) := GOT_31.cell 2; have cGOT_31_3 : _ = some (Value.bool (decide ((o1).num < 0))) := GOT_31.cell 3; have cGOT_31_4 : _ = some (Value.slice g1a g1n g1c) := GOT_31.cell 4; have cGOT_31_5 : _ = some (Value.slice g1b g1m g1d) := GOT_31.cell 5; have cGOT_31_6 : _ = some (Value.bool (decide ((o2).num < 0))) := GOT_31.cell 6; have cGOT_31_7 : _ = some (Value.slice g2a g2n g2c) := GOT_31.cell 7; have cGOT_31_8 : _ = some (Value.slice g2b g2m g2d) := GOT_31.cell 8; have cGOT_31_9 : _ = some (Value.bool (decide ((o3).num < 0))) := GOT_31.cell 9; have cGOT_31_10 : _ = some (Value.slice g3a g3n g3c) := GOT_31.cell 10; have cGOT_31_11 : _ = some (Value.slice g3b g3m g3d) := GOT_31.cell 11; have cGOT_31_12 : _ = some (Value.bool (decide ((o0).num < 0))) := GOT_31.cell 12; have cGOT_31_13 : _ = some (Value.slice g4a g4n g4c) := GOT_31.cell 13; have cGOT_31_14 : _ = some (Value.slice g4b g4m g4d) := GOT_31.cell 14; have cGOT_31_15 : _ = some (Value.bool (decide ((o1).num < 0))) := GOT_31.cell 15; have cGOT_31_16 : _ = some (Value.slice g5a g5n g5c) := GOT_31.cell 16; have cGOT_31_17 : _ = some (Value.slice g5b g5m g5d) := GOT_31.cell 17; have cGOT_31_18 : _ = some (Value.bool (decide ((o6).num < 0))) := GOT_31.cell 18; have cGOT_31_19 : _ = some (Value.slice g6a g6n g6c) := GOT_31.cell 19; have cGOT_31_20 : _ = some (Value.slice g6b g6m g6d) := GOT_31.cell 20; have cGOT_31_21 : _ = some (Value.bool (decide ((o3).num < 0))) := GOT_31.cell 21; have cGOT_31_22 : _ = some (Value.slice g7a g7n g7c) := GOT_31.cell 22; have cGOT_31_23 : _ = some (Value.slice g7b g7m g7d) := GOT_31.cell 23; have cGOT_31_24 : _ = some (Value.bool (decide ((o8).num < 0))) := GOT_31.cell 24; have cGOT_31_25 : _ = some (Value.slice g8a g8n g8c) := GOT_31.cell 25; have cGOT_31_26 : _ = some (Value.slice g8b g8m g8d) := GOT_31.cell 26; have cGOT_31_27 : _ = some (Value.bool (decide ((o9).num < 0))) := GOT_31.cell 27; have cGOT_31_28 : _ = some (Value.slice g9a g9n g9c) := GOT_31.cell 28; have cGOT_31_29 : _ = some (Value.slice g9b g9m g9d) := GOT_31.cell 29; have EM_31 := EM_30.below hB_31; have hbM_31 := hbM_30.next hB_31; have QX_31 := QX_30.below hB_31; have QP_31 := QP_30.below hB_31; have QY_31 := QY_30.below hB_31; have QR_31 := QR_30.below hB_31; have Og0_31 := Og0_30.below hB_31; have Pg0_31 := Pg0_30.below hB_31; have Og1_31 := Og1_30.below hB_31; have Pg1_31 := Pg1_30.below hB_31; have Og2_31 := Og2_30.below hB_31; have Pg2_31 := Pg2_30.below hB_31; have Og3_31 := Og3_30.below hB_31; have Pg3_31 := Pg3_30.below hB_31; have Og4_31 := Og4_30.below hB_31; have Pg4_31 := Pg4_30.below hB_31; have Og5_31 := Og5_30.below hB_31; have Pg5_31 := Pg5_30.below hB_31; have Og6_31 := Og6_30.below hB_31; have Pg6_31 := Pg6_30.below hB_31; have Og7_31 := Og7_30.below hB_31; have Pg7_31 := Pg7_30.below hB_31; have Og8_31 := Og8_30.below hB_31; have Pg8_31 := Pg8_30.below hB_31; have Og9_31 := Og9_30.below hB_31; have Pg9_31 := Pg9_30.below hB_31; have Oh0_31 := Oh0_30.below hB_31; have Ph0_31 := Ph0_30.below hB_31; have Oh1_31 := Oh1_30.below hB_31; have Ph1_31 := Ph1_30.below hB_31; have Oh2_31 := Oh2_30.below hB_31; have Ph2_31 := Ph2_30.below hB_31; have Oh3_31 := Oh3_30.below hB_31; have Ph3_31 := Ph3_30.below hB_31; have Oh4_31 := Oh4_30.below hB_31; have Ph4_31 := Ph4_30.below hB_31; have Oh5_31 := Oh5_30.below hB_31; have Ph5_31 := Ph5_30.below hB_31; have Oh6_31 := Oh6_30.below hB_31; have Ph6_31 := Ph6_30.below hB_31; have Oh7_31 := Oh7_30.below hB_31; have Ph7_31 := Ph7_30.below hB_31; have hbel_31 := hbel_30.next hB_31; have hsz_31 := hB_31.size; clear X_30 cX_30_0 fX_30_0 cX_30_1 fX_30_1 cX_30_2 fX_30_2 Y_30 cY_30_0 fY_30_0 cY_30_1 fY_30_1 cY_30_2 fY_30_2 P_30 cP_30_0 cP_30_1 cP_30_2 R_30 cR_30_0 cR_30_1 cR_30_2 E_30 G_30 GOT_30 cGOT_30_0 cGOT_30_1 cGOT_30_2 cGOT_30_3 cGOT_30_4 cGOT_30_5 cGOT_30_6 cGOT_30_7 cGOT_30_8 cGOT_30_9 cGOT_30_10 cGOT_30_11 cGOT_30_12 cGOT_30_13 cGOT_30_14 cGOT_30_15 cGOT_30_16 cGOT_30_17 cGOT_30_18 cGOT_30_19 cGOT_30_20 cGOT_30_21 cGOT_30_22 cGOT_30_23 cGOT_30_24 cGOT_30_25 cGOT_30_26 cGOT_30_27 cGOT_30_28 cGOT_30_29 EM_30 hbM_30 QX_30 QP_30 QY_30 QR_30 Og0_30 Pg0_30 Og1_30 Pg1_30 Og2_30 Pg2_30 Og3_30 Pg3_30 Og4_30 Pg4_30 Og5_30 Pg5_30 Og6_30 Pg6_30 Og7_30 Pg7_30 Og8_30 Pg8_30 Og9_30 Pg9_30 Oh0_30 Ph0_30 Oh1_30 Ph1_30 Oh2_30 Ph2_30 Oh3_30 Ph3_30 Oh4_30 Ph4_30 Oh5_30 Ph5_30 Oh6_30 Ph6_30 Oh7_30 Ph7_30 hbel_30 hB_31; have pEM_31 := EM_31.pt0; (try clear pEM_30); have Oh8_31 := hO; have ltOh8 := hO.ltB; have Ph8_31 := hO'; have ltPh8 := hO'.ltB; clear hO hO' hD; try clear hB)))
      | (go_at_call 39; ((with_reducible refine (rqfit (QX_31.below bl) (by omega)).mono ?_); (rw [h9.out]; rintro e w32 ⟨h9a, h9n, h9c, h9b, h9m, h9d, rfl, hO, hO', hD, hB⟩; have hBT : Below w31.heap.size w31 w32 := (bl.next hB); have T_32 := hid (T_31.out.below hBT); have hbT_32 := hbT_31.next hBT; clear T_31 hbT_31 hBT; have hB_32 : Below w31.heap.size w31 w32 := (bl.next hB); have X_32 := X_31.next hB_32; have cX_32_0 : _ = some (Value.bool s) := X_32.cell 0; have fX_32_0 := X_32.free 0; have cX_32_1 : _ = some (Value.slice a n1 c) := X_32.cell 1; have fX_32_1 := X_32.free 1; have cX_32_2 : _ = some (Value.slice b m1 d) := X_32.cell 2; have fX_32_2 := X_32.free 2; have Y_32 := Y_31.next hB_32; have cY_32_0 : _ = some (Value.bool t) := Y_32.cell 0; have fY_32_0 := Y_32.free 0; have cY_32_1 : _ = some (Value.slice a' n2 c') := Y_32.cell 1; have fY_32_1 := Y_32.free 1; have cY_32_2 : _ = some (Value.slice b' m2 d') := Y_32.cell 2; have fY_32_2 := Y_32.free 2; have P_32 := P_31.next hB_32; have cP_32_0 : _ = some (Value.bool s) := P_32.cell 0; have cP_32_1 : _ = some (Value.slice pa n1 pc) := P_32.cell 1; have cP_32_2 : _ = some (Value.slice pb m1 pd) := P_32.cell 2; have R_32 := R_31.next hB_32; have cR_32_0 : _ = some (Value.bool t) := R_32.cell 0; have cR_32_1 : _ = some (Value.slice ra n2 rc) := R_32.cell 1; have cR_32_2 : _ = some (Value.slice rb m2 rd) := R_32.cell 2; have E_32 := E_31.next hB_32; have G_32 := G_31.next hB_32; have GOT_32 := GOT_31.next hB_32; have cGOT_32_0 : _ = some (Value.bool (decide ((o0).num < 0))) := GOT_32.cell 0; have cGOT_32_1 : _ = some (Value.slice g0a g0n g0c) := GOT_32.cell 1; have cGOT_32_2 : _ = some (Value.slice g0b g0m g0d) := GOT_32.cell 2; have cGOT_32_3 : _ = some (Value.bool (decide ((o1).num < 0))) := GOT_32.cell 3; have cGOT_32_4 : _ = some (Value.slice g1a g1n g1c) := GOT_32.cell 4; have cGOT_32_5 : _ = some (Value.slice g1b g1m g1d) := GOT_32.cell 5; have cGOT_32_6 : _ = some (Value.bool (decide ((o2).num < 0))) := GOT_32.cell 6; have cGOT_32_7 : _ = some (Value.slice g2a g2n g2c) := GOT_32.cell 7; have cGOT_32_8 : _ = some (Value.slice g2b g2m g2d) := GOT_32.cell 8; have cGOT_32_9 : _ = some (Value.bool (decide ((o3).num < 0))) := GOT_32.cell 9; have cGOT_32_10 : _ = some (Value.slice g3a g3n g3c) := GOT_32.cell 10; have cGOT_32_11 : _ = some (Value.slice g3b g3m g3d) := GOT_32.cell 11; have cGOT_32_12 : _ = some (Value.bool (decide ((o0).num < 0))) := GOT_32.cell 12; have cGOT_32_13 : _ = some (Value.slice g4a g4n g4c) := GOT_32.cell 13; have cGOT_32_14 : _ = some (Value.slice g4b g4m g4d) := GOT_32.cell 14; have cGOT_32_15 : _ = some (Value.bool (decide ((o1).num < 0))) := GOT_32.cell 15; have cGOT_32_16 : _ = some (Value.slice g5a g5n g5c) := GOT_32.cell 16; have cGOT_32_17 : _ = some (Value.slice g5b g5m g5d) := GOT_32.cell 17; have cGOT_32_18 : _ = some (Value.bool (decide ((o6).num < 0))) := GOT_32.cell 18; have cGOT_32_19 : _ = some (Value.slice g6a g6n g6c) := GOT_32.cell 19; have cGOT_32_20 : _ = some (Value.slice g6b g6m g6d) := GOT_32.cell 20; have cGOT_32_21 : _ = some (Value.bool (decide ((o3).num < 0))) := GOT_32.cell 21; have cGOT_32_22 : _ = some (Value.slice g7a g7n g7c) := GOT_32.cell 22; have cGOT_32_23 : _ = some (Value.slice g7b g7m g7d) := GOT_32.cell 23; have cGOT_32_24 : _ = some (Value.bool (decide ((o8).num < 0))) := GOT_32.cell 24; have cGOT_32_25 : _ = some (Value.slice g8a g8n g8c) := GOT_32.cell 25; have cGOT_32_26 : _ = some (Value.slice g8b g8m g8d) := GOT_32.cell 26; have cGOT_32_27 : _ = some (Value.bool (decide ((o9).num < 0))) := GOT_32.cell 27; have cGOT_32_28 : _ = some (Value.slice g9a g9n g9c) := GOT_32.cell 28; have cGOT_32_29 : _ = some (Value.slice g9b g9m g9d) := GOT_32.cell 29; have EM_32 := EM_31.below hB_32; have hbM_32 := hbM_31.next hB_32; have QX_32 := QX_31.below hB_32; have QP_32 := QP_31.below hB_32; have QY_32 := QY_31.below hB_32; have QR_32 := QR_31.below hB_32; have Og0_32 := Og0_31.below hB_32; have Pg0_32 := Pg0_31.below hB_32; have Og1_32 := Og1_31.below hB_32; have Pg1_32 := Pg1_31.below hB_32; have Og2_32 := Og2_31.below hB_32; have Pg2_32 := Pg2_31.below hB_32; have Og3_32 := Og3_31.below hB_32; have Pg3_32 := Pg3_31.below hB_32; have Og4_32 := Og4_31.below hB_32; have Pg4_32 := Pg4_31.below hB_32; have Og5_32 := Og5_31.below hB_32; have Pg5_32 := Pg5_31.below hB_32; have Og6_32 := Og6_31.below hB_32; have Pg6_32 := Pg6_31.below hB_32; have Og7_32 := Og7_31.below hB_32; have Pg7_32 := Pg7_31.below hB_32; have Og8_32 := Og8_31.below hB_32; have Pg8_32 := Pg8_31.below hB_32; have Og9_32 := Og9_31.below hB_32; have Pg9_32 := Pg9_31.below hB_32; have Oh0_32 := Oh0_31.below hB_32; have Ph0_32 := Ph0_31.below hB_32; have Oh1_32 := Oh1_31.below hB_32; have Ph1_32 := Ph1_31.below hB_32; have Oh2_32 := Oh2_31.below hB_32; have Ph2_32 := Ph2_31.below hB_32; have Oh3_32 := Oh3_31.below hB_32; have Ph3_32 := Ph3_31.below hB_32; have Oh4_32 := Oh4_31.below hB_32; have Ph4_32 := Ph4_31.below hB_32; have Oh5_32 := Oh5_31.below hB_32; have Ph5_32 := Ph5_31.below hB_32; have Oh6_32 := Oh6_31.below hB_32; have Ph6_32 := Ph6_31.below hB_32; have Oh7_32 := Oh7_31.below hB_32; have Ph7_32 := Ph7_31.below hB_32; have Oh8_32 := Oh8_31.below hB_32; have Ph8_32 := Ph8_31.below hB_32; have hbel_32 := hbel_31.next hB_32; have hsz_32 := hB_32.size; clear X_31 cX_31_0 fX_31_0 cX_31_1 fX_31_1 cX_31_2 fX_31_2 Y_31 cY_31_0 fY_31_0 cY_31_1 fY_31_1 cY_31_2 fY_31_2 P_31 cP_31_0 cP_31_1 cP_31_2 R_31 cR_31_0 cR_31_1 cR_31_2 E_31 G_31 GOT_31 cGOT_31_0 cGOT_31_1 cGOT_31_2 cGOT_31_3 cGOT_31_4 cGOT_31_5 cGOT_31_6 cGOT_31_7 cGOT_31_8 cGOT_31_9 cGOT_31_10 cGOT_31_11 cGOT_31_12 cGOT_31_13 cGOT_31_14 cGOT_31_15 cGOT_31_16 cGOT_31_17 cGOT_31_18 cGOT_31_19 cGOT_31_20 cGOT_31_21 cGOT_31_22 cGOT_31_23 cGOT_31_24 cGOT_31_25 cGOT_31_26 cGOT_31_27 cGOT_31_28 cGOT_31_29 EM_31 hbM_31 QX_31 QP_31 QY_31 QR_31 Og0_31 Pg0_31 Og1_31 Pg1_31 Og2_31 Pg2_31 Og3_31 Pg3_31 Og4_31 Pg4_31 Og5_31 Pg5_31 Og6_31 Pg6_31 Og7_31 Pg7_31 Og8_31 Pg8_31 Og9_31 Pg9_31 Oh0_31 Ph0_31 Oh1_31 Ph1_31 Oh2_31 Ph2_31 Oh3_31 Ph3_31 Oh4_31 Ph4_31 Oh5_31 Ph5_31 Oh6_31 Ph6_31 Oh7_31 Ph7_31 Oh8_31 Ph8_31 hbel_31 hB_32; have pEM_32 := EM_32.pt0; (try clear pEM_31); have Oh9_32 := hO; have ltOh9 := hO.ltB; have Ph9_32 := hO'; have ltPh9 := hO'.ltB; clear hO hO' hD; try clear hB))))
  have hbx := blk_new w32 #[Value.bool (decide ((o0).num < 0)), Value.slice h0a h0n h0c, Value.slice h0b h0m h0d, Value.bool (decide ((o1).num < 0)), Value.slice h1a h1n h1c, Value.slice h1b h1m h1d, Value.bool (decide ((o2).num < 0)), Value.slice h2a h2n h2c, Value.slice h2b h2m h2d, Value.bool (decide ((o3).num < 0)), Value.slice h3a h3n h3c, Value.slice h3b h3m h3d, Value.bool (decide ((o0).num < 0)), Value.slice h4a h4n h4c, Value.slice h4b h4m h4d, Value.bool (decide ((o1).num < 0)), Value.slice h5a h5n h5c, Value.slice h5b h5m h5d, Value.bool (decide ((o6).num < 0)), Value.slice h6a h6n h6c, Value.slice h6b h6m h6d, Value.bool (decide ((o3).num < 0)), Value.slice h7a h7n h7c, Value.slice h7b h7m h7d, Value.bool (decide ((o8).num < 0)), Value.slice h8a h8n h8c, Value.slice h8b h8m h8d, Value.bool (decide ((o9).num < 0)), Value.slice h9a h9n h9c, Value.slice h9b h9m h9d] 38
  have hbB := (Below.refl w32.heap.size w32).alloc (Nat.le_refl _) (.cells #[Value.bool (decide ((o0).num < 0)), Value.slice h0a h0n h0c, Value.slice h0b h0m h0d, Value.bool (decide ((o1).num < 0)), Value.slice h1a h1n h1c, Value.slice h1b h1m h1d, Value.bool (decide ((o2).num < 0)), Value.slice h2a h2n h2c, Value.slice h2b h2m h2d, Value.bool (decide ((o3).num < 0)), Value.slice h3a h3n h3c, Value.slice h3b h3m h3d, Value.bool (decide ((o0).num < 0)), Value.slice h4a h4n h4c, Value.slice h4b h4m h4d, Value.bool (decide ((o1).num < 0)), Value.slice h5a h5n h5c, Value.slice h5b h5m h5d, Value.bool (decide ((o6).num < 0)), Value.slice h6a h6n h6c, Value.slice h6b h6m h6d, Value.bool (decide ((o3).num < 0)), Value.slice h7a h7n h7c, Value.slice h7b h7m h7d, Value.bool (decide ((o8).num < 0)), Value.slice h8a h8n h8c, Value.slice h8b h8m h8d, Value.bool (decide ((o9).num < 0)), Value.slice h9a h9n h9c, Value.slice h9b h9m h9d] 38)
  have hltWANT := hbx.lt
  have hBT : Below w32.heap.size w32 (w32.alloc (.cells #[Value.bool (decide ((o0).num < 0)), Value.slice h0a h0n h0c, Value.slice h0b h0m h0d, Value.bool (decide ((o1).num < 0)), Value.slice h1a h1n h1c, Value.slice h1b h1m h1d, Value.bool (decide ((o2).num < 0)), Value.slice h2a h2n h2c, Value.slice h2b h2m h2d, Value.bool (decide ((o3).num < 0)), Value.slice h3a h3n h3c, Value.slice h3b h3m h3d, Value.bool (decide ((o0).num < 0)), Value.slice h4a h4n h4c, Value.slice h4b h4m h4d, Value.bool (decide ((o1).num < 0)), Value.slice h5a h5n h5c, Value.slice h5b h5m h5d, Value.bool (decide ((o6).num < 0)), Value.slice h6a h6n h6c, Value.slice h6b h6m h6d, Value.bool (decide ((o3).num < 0)), Value.slice h7a h7n h7c, Value.slice h7b h7m h7d, Value.bool (decide ((o8).num < 0)), Value.slice h8a h8n h8c, Value.slice h8b h8m h8d, Value.bool (decide ((o9).num < 0)), Value.slice h9a h9n h9c, Value.slice h9b h9m h9d] 38)) := hbB
  have T_33 := hid (T_32.out.below hBT)
  have hbT_33 := hbT_32.next hBT
  clear T_32 hbT_32 hBT
  have hB_33 : Below w32.heap.size w32 (w32.alloc (.cells #[Value.bool (decide ((o0).num < 0)), Value.slice h0a h0n h0c, Value.slice h0b h0m h0d, Value.bool (decide ((o1).num < 0)), Value.slice h1a h1n h1c, Value.slice h1b h1m h1d, Value.bool (decide ((o2).num < 0)), Value.slice h2a h2n h2c, Value.slice h2b h2m h2d, Value.bool (decide ((o3).num < 0)), Value.slice h3a h3n h3c, Value.slice h3b h3m h3d, Value.bool (decide ((o0).num < 0)), Value.slice h4a h4n h4c, Value.slice h4b h4m h4d, Value.bool (decide ((o1).num < 0)), Value.slice h5a h5n h5c, Value.slice h5b h5m h5d, Value.bool (decide ((o6).num < 0)), Value.slice h6a h6n h6c, Value.slice h6b h6m h6d, Value.bool (decide ((o3).num < 0)), Value.slice h7a h7n h7c, Value.slice h7b h7m h7d, Value.bool (decide ((o8).num < 0)), Value.slice h8a h8n h8c, Value.slice h8b h8m h8d, Value.bool (decide ((o9).num < 0)), Value.slice h9a h9n h9c, Value.slice h9b h9m h9d] 38)) := hbB
  have X_33 := X_32.next hB_33
  have cX_33_0 : _ = some (Value.bool s) := X_33.cell 0
  have fX_33_0 := X_33.free 0
  have cX_33_1 : _ = some (Value.slice a n1 c) := X_33.cell 1
  have fX_33_1 := X_33.free 1
  have cX_33_2 : _ = some (Value.slice b m1 d) := X_33.cell 2
  have fX_33_2 := X_33.free 2
  have Y_33 := Y_32.next hB_33
  have cY_33_0 : _ = some (Value.bool t) := Y_33.cell 0
  have fY_33_0 := Y_33.free 0
  have cY_33_1 : _ = some (Value.slice a' n2 c') := Y_33.cell 1
  have fY_33_1 := Y_33.free 1
  have cY_33_2 : _ = some (Value.slice b' m2 d') := Y_33.cell 2
  have fY_33_2 := Y_33.free 2
  have P_33 := P_32.next hB_33
  have cP_33_0 : _ = some (Value.bool s) := P_33.cell 0
  have cP_33_1 : _ = some (Value.slice pa n1 pc) := P_33.cell 1
  have cP_33_2 : _ = some (Value.slice pb m1 pd) := P_33.cell 2
  have R_33 := R_32.next hB_33
  have cR_33_0 : _ = some (Value.bool t) := R_33.cell 0
  have cR_33_1 : _ = some (Value.slice ra n2 rc) := R_33.cell 1
  have cR_33_2 : _ = some (Value.slice rb m2 rd) := R_33.cell 2
  have E_33 := E_32.next hB_33
  have G_33 := G_32.next hB_33
  have GOT_33 := GOT_32.next hB_33
  have cGOT_33_0 : _ = some (Value.bool (decide ((o0).num < 0))) := GOT_33.cell 0
  have cGOT_33_1 : _ = some (Value.slice g0a g0n g0c) := GOT_33.cell 1
  have cGOT_33_2 : _ = some (Value.slice g0b g0m g0d) := GOT_33.cell 2
  have cGOT_33_3 : _ = some (Value.bool (decide ((o1).num < 0))) := GOT_33.cell 3
  have cGOT_33_4 : _ = some (Value.slice g1a g1n g1c) := GOT_33.cell 4
  have cGOT_33_5 : _ = some (Value.slice g1b g1m g1d) := GOT_33.cell 5
  have cGOT_33_6 : _ = some (Value.bool (decide ((o2).num < 0))) := GOT_33.cell 6
  have cGOT_33_7 : _ = some (Value.slice g2a g2n g2c) := GOT_33.cell 7
  have cGOT_33_8 : _ = some (Value.slice g2b g2m g2d) := GOT_33.cell 8
  have cGOT_33_9 : _ = some (Value.bool (decide ((o3).num < 0))) := GOT_33.cell 9
  have cGOT_33_10 : _ = some (Value.slice g3a g3n g3c) := GOT_33.cell 10
  have cGOT_33_11 : _ = some (Value.slice g3b g3m g3d) := GOT_33.cell 11
  have cGOT_33_12 : _ = some (Value.bool (decide ((o0).num < 0))) := GOT_33.cell 12
  have cGOT_33_13 : _ = some (Value.slice g4a g4n g4c) := GOT_33.cell 13
  have cGOT_33_14 : _ = some (Value.slice g4b g4m g4d) := GOT_33.cell 14
  have cGOT_33_15 : _ = some (Value.bool (decide ((o1).num < 0))) := GOT_33.cell 15
  have cGOT_33_16 : _ = some (Value.slice g5a g5n g5c) := GOT_33.cell 16
  have cGOT_33_17 : _ = some (Value.slice g5b g5m g5d) := GOT_33.cell 17
  have cGOT_33_18 : _ = some (Value.bool (decide ((o6).num < 0))) := GOT_33.cell 18
  have cGOT_33_19 : _ = some (Value.slice g6a g6n g6c) := GOT_33.cell 19
  have cGOT_33_20 : _ = some (Value.slice g6b g6m g6d) := GOT_33.cell 20
  have cGOT_33_21 : _ = some (Value.bool (decide ((o3).num < 0))) := GOT_33.cell 21
  have cGOT_33_22 : _ = some (Value.slice g7a g7n g7c) := GOT_33.cell 22
  have cGOT_33_23 : _ = some (Value.slice g7b g7m g7d) := GOT_33.cell 23
  have cGOT_33_24 : _ = some (Value.bool (decide ((o8).num < 0))) := GOT_33.cell 24
  have cGOT_33_25 : _ = some (Value.slice g8a g8n g8c) := GOT_33.cell 25
  have cGOT_33_26 : _ = some (Value.slice g8b g8m g8d) := GOT_33.cell 26
  have cGOT_33_27 : _ = some (Value.bool (decide ((o9).num < 0))) := GOT_33.cell 27
  have cGOT_33_28 : _ = some (Value.slice g9a g9n g9c) := GOT_33.cell 28
  have cGOT_33_29 : _ = some (Value.slice g9b g9m g9d) := GOT_33.cell 29
  have EM_33 := EM_32.below hB_33
  have hbM_33 := hbM_32.next hB_33
  have QX_33 := QX_32.below hB_33
  have QP_33 := QP_32.below hB_33
  have QY_33 := QY_32.below hB_33
  have QR_33 := QR_32.below hB_33
  have Og0_33 := Og0_32.below hB_33
  have Pg0_33 := Pg0_32.below hB_33
  have Og1_33 := Og1_32.below hB_33
  have Pg1_33 := Pg1_32.below hB_33
  have Og2_33 := Og2_32.below hB_33
  have Pg2_33 := Pg2_32.below hB_33
  have Og3_33 := Og3_32.below hB_33
  have Pg3_33 := Pg3_32.below hB_33
  have Og4_33 := Og4_32.below hB_33
  have Pg4_33 := Pg4_32.below hB_33
  have Og5_33 := Og5_32.below hB_33
  have Pg5_33 := Pg5_32.below hB_33
  have Og6_33 := Og6_32.below hB_33
  have Pg6_33 := Pg6_32.below hB_33
  have Og7_33 := Og7_32.below hB_33
  have Pg7_33 := Pg7_32.below hB_33
  have Og8_33 := Og8_32.below hB_33
  have Pg8_33 := Pg8_32.below hB_33
  have Og9_33 := Og9_32.below hB_33
  have Pg9_33 := Pg9_32.below hB_33
  have Oh0_33 := Oh0_32.below hB_33
  have Ph0_33 := Ph0_32.below hB_33
  have Oh1_33 := Oh1_32.below hB_33
  have Ph1_33 := Ph1_32.below hB_33
  have Oh2_33 := Oh2_32.below hB_33
  have Ph2_33 := Ph2_32.below hB_33
  have Oh3_33 := Oh3_32.below hB_33
  have Ph3_33 := Ph3_32.below hB_33
  have Oh4_33 := Oh4_32.below hB_33
  have Ph4_33 := Ph4_32.below hB_33
  have Oh5_33 := Oh5_32.below hB_33
  have Ph5_33 := Ph5_32.below hB_33
  have Oh6_33 := Oh6_32.below hB_33
  have Ph6_33 := Ph6_32.below hB_33
  have Oh7_33 := Oh7_32.below hB_33
  have Ph7_33 := Ph7_32.below hB_33
  have Oh8_33 := Oh8_32.below hB_33
  have Ph8_33 := Ph8_32.below hB_33
  have Oh9_33 := Oh9_32.below hB_33
  have Ph9_33 := Ph9_32.below hB_33
  have hbel_33 := hbel_32.next hB_33
  have hsz_33 := hB_33.size
  clear hB_33
  have pEM_33 := EM_33.pt0
  (try clear pEM_32)
  have WANT_33 := hbx
  clear hbx hbB
  have cWANT_33_0 : _ = some (Value.bool (decide ((o0).num < 0))) := WANT_33.cell 0
  have cWANT_33_1 : _ = some (Value.slice h0a h0n h0c) := WANT_33.cell 1
  have cWANT_33_2 : _ = some (Value.slice h0b h0m h0d) := WANT_33.cell 2
  have cWANT_33_3 : _ = some (Value.bool (decide ((o1).num < 0))) := WANT_33.cell 3
  have cWANT_33_4 : _ = some (Value.slice h1a h1n h1c) := WANT_33.cell 4
  have cWANT_33_5 : _ = some (Value.slice h1b h1m h1d) := WANT_33.cell 5
  have cWANT_33_6 : _ = some (Value.bool (decide ((o2).num < 0))) := WANT_33.cell 6
  have cWANT_33_7 : _ = some (Value.slice h2a h2n h2c) := WANT_33.cell 7
  have cWANT_33_8 : _ = some (Value.slice h2b h2m h2d) := WANT_33.cell 8
  have cWANT_33_9 : _ = some (Value.bool (decide ((o3).num < 0))) := WANT_33.cell 9
  have cWANT_33_10 : _ = some (Value.slice h3a h3n h3c) := WANT_33.cell 10
  have cWANT_33_11 : _ = some (Value.slice h3b h3m h3d) := WANT_33.cell 11
  have cWANT_33_12 : _ = some (Value.bool (decide ((o0).num < 0))) := WANT_33.cell 12
  have cWANT_33_13 : _ = some (Value.slice h4a h4n h4c) := WANT_33.cell 13
  have cWANT_33_14 : _ = some (Value.slice h4b h4m h4d) := WANT_33.cell 14
  have cWANT_33_15 : _ = some (Value.bool (decide ((o1).num < 0))) := WANT_33.cell 15
  have cWANT_33_16 : _ = some (Value.slice h5a h5n h5c) := WANT_33.cell 16
  have cWANT_33_17 : _ = some (Value.slice h5b h5m h5d) := WANT_33.cell 17
  have cWANT_33_18 : _ = some (Value.bool (decide ((o6).num < 0))) := WANT_33.cell 18
  have cWANT_33_19 : _ = some (Value.slice h6a h6n h6c) := WANT_33.cell 19
  have cWANT_33_20 : _ = some (Value.slice h6b h6m h6d) := WANT_33.cell 20
  have cWANT_33_21 : _ = some (Value.bool (decide ((o3).num < 0))) := WANT_33.cell 21
  have cWANT_33_22 : _ = some (Value.slice h7a h7n h7c) := WANT_33.cell 22
  have cWANT_33_23 : _ = some (Value.slice h7b h7m h7d) := WANT_33.cell 23
  have cWANT_33_24 : _ = some (Value.bool (decide ((o8).num < 0))) := WANT_33.cell 24
  have cWANT_33_25 : _ = some (Value.slice h8a h8n h8c) := WANT_33.cell 25
  have cWANT_33_26 : _ = some (Value.slice h8b h8m h8d) := WANT_33.cell 26
  have cWANT_33_27 : _ = some (Value.bool (decide ((o9).num < 0))) := WANT_33.cell 27
  have cWANT_33_28 : _ = some (Value.slice h9a h9n h9c) := WANT_33.cell 28
  have cWANT_33_29 : _ = some (Value.slice h9b h9m h9d) := WANT_33.cell 29
  go_wp2_with fail
  clear X_32 cX_32_0 fX_32_0 cX_32_1 fX_32_1 cX_32_2 fX_32_2 Y_32 cY_32_0 fY_32_0 cY_32_1 fY_32_1 cY_32_2 fY_32_2 P_32 cP_32_0 cP_32_1 cP_32_2 R_32 cR_32_0 cR_32_1 cR_32_2 E_32 G_32 GOT_32 cGOT_32_0 cGOT_32_1 cGOT_32_2 cGOT_32_3 cGOT_32_4 cGOT_32_5 cGOT_32_6 cGOT_32_7 cGOT_32_8 cGOT_32_9 cGOT_32_10 cGOT_32_11 cGOT_32_12 cGOT_32_13 cGOT_32_14 cGOT_32_15 cGOT_32_16 cGOT_32_17 cGOT_32_18 cGOT_32_19 cGOT_32_20 cGOT_32_21 cGOT_32_22 cGOT_32_23 cGOT_32_24 cGOT_32_25 cGOT_32_26 cGOT_32_27 cGOT_32_28 cGOT_32_29 EM_32 hbM_32 QX_32 QP_32 QY_32 QR_32 Og0_32 Pg0_32 Og1_32 Pg1_32 Og2_32 Pg2_32 Og3_32 Pg3_32 Og4_32 Pg4_32 Og5_32 Pg5_32 Og6_32 Pg6_32 Og7_32 Pg7_32 Og8_32 Pg8_32 Og9_32 Pg9_32 Oh0_32 Ph0_32 Oh1_32 Ph1_32 Oh2_32 Ph2_32 Oh3_32 Ph3_32 Oh4_32 Ph4_32 Oh5_32 Ph5_32 Oh6_32 Ph6_32 Oh7_32 Ph7_32 Oh8_32 Ph8_32 Oh9_32 Ph9_32 hbel_32
  generalize (w32.alloc (.cells #[Value.bool (decide ((o0).num < 0)), Value.slice h0a h0n h0c, Value.slice h0b h0m h0d, Value.bool (decide ((o1).num < 0)), Value.slice h1a h1n h1c, Value.slice h1b h1m h1d, Value.bool (decide ((o2).num < 0)), Value.slice h2a h2n h2c, Value.slice h2b h2m h2d, Value.bool (decide ((o3).num < 0)), Value.slice h3a h3n h3c, Value.slice h3b h3m h3d, Value.bool (decide ((o0).num < 0)), Value.slice h4a h4n h4c, Value.slice h4b h4m h4d, Value.bool (decide ((o1).num < 0)), Value.slice h5a h5n h5c, Value.slice h5b h5m h5d, Value.bool (decide ((o6).num < 0)), Value.slice h6a h6n h6c, Value.slice h6b h6m h6d, Value.bool (decide ((o3).num < 0)), Value.slice h7a h7n h7c, Value.slice h7b h7m h7d, Value.bool (decide ((o8).num < 0)), Value.slice h8a h8n h8c, Value.slice h8b h8m h8d, Value.bool (decide ((o9).num < 0)), Value.slice h9a h9n h9c, Value.slice h9b h9m h9d] 38)) = v33 at *
  have RG_33 := qrow_of (xs := ([⟨decide (o0.num < 0), g0a, g0n, g0c, lm o0.num.natAbs, g0b, g0m, g0d, lm o0.den⟩, ⟨decide (o1.num < 0), g1a, g1n, g1c, lm o1.num.natAbs, g1b, g1m, g1d, lm o1.den⟩, ⟨decide (o2.num < 0), g2a, g2n, g2c, lm o2.num.natAbs, g2b, g2m, g2d, lm o2.den⟩, ⟨decide (o3.num < 0), g3a, g3n, g3c, lm o3.num.natAbs, g3b, g3m, g3d, lm o3.den⟩, ⟨decide (o0.num < 0), g4a, g4n, g4c, lm o0.num.natAbs, g4b, g4m, g4d, lm o0.den⟩, ⟨decide (o1.num < 0), g5a, g5n, g5c, lm o1.num.natAbs, g5b, g5m, g5d, lm o1.den⟩, ⟨decide (o6.num < 0), g6a, g6n, g6c, lm o6.num.natAbs, g6b, g6m, g6d, lm o6.den⟩, ⟨decide (o3.num < 0), g7a, g7n, g7c, lm o3.num.natAbs, g7b, g7m, g7d, lm o3.den⟩, ⟨decide (o8.num < 0), g8a, g8n, g8c, lm o8.num.natAbs, g8b, g8m, g8d, lm o8.den⟩, ⟨decide (o9.num < 0), g9a, g9n, g9c, lm o9.num.natAbs, g9b, g9m, g9d, lm o9.den⟩] : List QA)) (N := 10) GOT_33 rfl rfl (List.forall_mem_cons.2 ⟨⟨Og0_33.rd, Pg0_33.rd⟩, List.forall_mem_cons.2 ⟨⟨Og1_33.rd, Pg1_33.rd⟩, List.forall_mem_cons.2 ⟨⟨Og2_33.rd, Pg2_33.rd⟩, List.forall_mem_cons.2 ⟨⟨Og3_33.rd, Pg3_33.rd⟩, List.forall_mem_cons.2 ⟨⟨Og4_33.rd, Pg4_33.rd⟩, List.forall_mem_cons.2 ⟨⟨Og5_33.rd, Pg5_33.rd⟩, List.forall_mem_cons.2 ⟨⟨Og6_33.rd, Pg6_33.rd⟩, List.forall_mem_cons.2 ⟨⟨Og7_33.rd, Pg7_33.rd⟩, List.forall_mem_cons.2 ⟨⟨Og8_33.rd, Pg8_33.rd⟩, List.forall_mem_cons.2 ⟨⟨Og9_33.rd, Pg9_33.rd⟩, fun z hz => (by cases hz)⟩⟩⟩⟩⟩⟩⟩⟩⟩⟩)
  have RW_33 := qrow_of (xs := ([⟨decide (o0.num < 0), h0a, h0n, h0c, lm o0.num.natAbs, h0b, h0m, h0d, lm o0.den⟩, ⟨decide (o1.num < 0), h1a, h1n, h1c, lm o1.num.natAbs, h1b, h1m, h1d, lm o1.den⟩, ⟨decide (o2.num < 0), h2a, h2n, h2c, lm o2.num.natAbs, h2b, h2m, h2d, lm o2.den⟩, ⟨decide (o3.num < 0), h3a, h3n, h3c, lm o3.num.natAbs, h3b, h3m, h3d, lm o3.den⟩, ⟨decide (o0.num < 0), h4a, h4n, h4c, lm o0.num.natAbs, h4b, h4m, h4d, lm o0.den⟩, ⟨decide (o1.num < 0), h5a, h5n, h5c, lm o1.num.natAbs, h5b, h5m, h5d, lm o1.den⟩, ⟨decide (o6.num < 0), h6a, h6n, h6c, lm o6.num.natAbs, h6b, h6m, h6d, lm o6.den⟩, ⟨decide (o3.num < 0), h7a, h7n, h7c, lm o3.num.natAbs, h7b, h7m, h7d, lm o3.den⟩, ⟨decide (o8.num < 0), h8a, h8n, h8c, lm o8.num.natAbs, h8b, h8m, h8d, lm o8.den⟩, ⟨decide (o9.num < 0), h9a, h9n, h9c, lm o9.num.natAbs, h9b, h9m, h9d, lm o9.den⟩] : List QA)) (N := 10) WANT_33 rfl rfl (List.forall_mem_cons.2 ⟨⟨Oh0_33.rd, Ph0_33.rd⟩, List.forall_mem_cons.2 ⟨⟨Oh1_33.rd, Ph1_33.rd⟩, List.forall_mem_cons.2 ⟨⟨Oh2_33.rd, Ph2_33.rd⟩, List.forall_mem_cons.2 ⟨⟨Oh3_33.rd, Ph3_33.rd⟩, List.forall_mem_cons.2 ⟨⟨Oh4_33.rd, Ph4_33.rd⟩, List.forall_mem_cons.2 ⟨⟨Oh5_33.rd, Ph5_33.rd⟩, List.forall_mem_cons.2 ⟨⟨Oh6_33.rd, Ph6_33.rd⟩, List.forall_mem_cons.2 ⟨⟨Oh7_33.rd, Ph7_33.rd⟩, List.forall_mem_cons.2 ⟨⟨Oh8_33.rd, Ph8_33.rd⟩, List.forall_mem_cons.2 ⟨⟨Oh9_33.rd, Ph9_33.rd⟩, fun z hz => (by cases hz)⟩⟩⟩⟩⟩⟩⟩⟩⟩⟩)
  have hQS : Hid (QSame 10 ([⟨decide (o0.num < 0), g0a, g0n, g0c, lm o0.num.natAbs, g0b, g0m, g0d, lm o0.den⟩, ⟨decide (o1.num < 0), g1a, g1n, g1c, lm o1.num.natAbs, g1b, g1m, g1d, lm o1.den⟩, ⟨decide (o2.num < 0), g2a, g2n, g2c, lm o2.num.natAbs, g2b, g2m, g2d, lm o2.den⟩, ⟨decide (o3.num < 0), g3a, g3n, g3c, lm o3.num.natAbs, g3b, g3m, g3d, lm o3.den⟩, ⟨decide (o0.num < 0), g4a, g4n, g4c, lm o0.num.natAbs, g4b, g4m, g4d, lm o0.den⟩, ⟨decide (o1.num < 0), g5a, g5n, g5c, lm o1.num.natAbs, g5b, g5m, g5d, lm o1.den⟩, ⟨decide (o6.num < 0), g6a, g6n, g6c, lm o6.num.natAbs, g6b, g6m, g6d, lm o6.den⟩, ⟨decide (o3.num < 0), g7a, g7n, g7c, lm o3.num.natAbs, g7b, g7m, g7d, lm o3.den⟩, ⟨decide (o8.num < 0), g8a, g8n, g8c, lm o8.num.natAbs, g8b, g8m, g8d, lm o8.den⟩, ⟨decide (o9.num < 0), g9a, g9n, g9c, lm o9.num.natAbs, g9b, g9m, g9d, lm o9.den⟩] : List QA) ([⟨decide (o0.num < 0), h0a, h0n, h0c, lm o0.num.natAbs, h0b, h0m, h0d, lm o0.den⟩, ⟨decide (o1.num < 0), h1a, h1n, h1c, lm o1.num.natAbs, h1b, h1m, h1d, lm o1.den⟩, ⟨decide (o2.num < 0), h2a, h2n, h2c, lm o2.num.natAbs, h2b, h2m, h2d, lm o2.den⟩, ⟨decide (o3.num < 0), h3a, h3n, h3c, lm o3.num.natAbs, h3b, h3m, h3d, lm o3.den⟩, ⟨decide (o0.num < 0), h4a, h4n, h4c, lm o0.num.natAbs, h4b, h4m, h4d, lm o0.den⟩, ⟨decide (o1.num < 0), h5a, h5n, h5c, lm o1.num.natAbs, h5b, h5m, h5d, lm o1.den⟩, ⟨decide (o6.num < 0), h6a, h6n, h6c, lm o6.num.natAbs, h6b, h6m, h6d, lm o6.den⟩, ⟨decide (o3.num < 0), h7a, h7n, h7c, lm o3.num.natAbs, h7b, h7m, h7d, lm o3.den⟩, ⟨decide (o8.num < 0), h8a, h8n, h8c, lm o8.num.natAbs, h8b, h8m, h8d, lm o8.den⟩, ⟨decide (o9.num < 0), h9a, h9n, h9c, lm o9.num.natAbs, h9b, h9m, h9d, lm o9.den⟩] : List QA)) := by
    intro i hi
    rcases (by omega : i = 0 ∨ i = 1 ∨ i = 2 ∨ i = 3 ∨ i = 4 ∨ i = 5 ∨ i = 6 ∨ i = 7 ∨ i = 8 ∨ i = 9) with rfl | rfl | rfl | rfl | rfl | rfl | rfl | rfl | rfl | rfl <;> exact ⟨rfl, rfl, rfl⟩
  clear Og0_33
  clear Pg0_33
  clear Og1_33
  clear Pg1_33
  clear Og2_33
  clear Pg2_33
  clear Og3_33
  clear Pg3_33
  clear Og4_33
  clear Pg4_33
  clear Og5_33
  clear Pg5_33
  clear Og6_33
  clear Pg6_33
  clear Og7_33
  clear Pg7_33
  clear Og8_33
  clear Pg8_33
  clear Og9_33
  clear Pg9_33
  clear Oh0_33
  clear Ph0_33
  clear Oh1_33
  clear Ph1_33
  clear Oh2_33
  clear Ph2_33
  clear Oh3_33
  clear Ph3_33
  clear Oh4_33
  clear Ph4_33
  clear Oh5_33
  clear Ph5_33
  clear Oh6_33
  clear Ph6_33
  clear Oh7_33
  clear Ph7_33
  clear Oh8_33
  clear Ph8_33
  clear Oh9_33
  clear Ph9_33
  generalize hxs : ([⟨decide (o0.num < 0), g0a, g0n, g0c, lm o0.num.natAbs, g0b, g0m, g0d, lm o0.den⟩, ⟨decide (o1.num < 0), g1a, g1n, g1c, lm o1.num.natAbs, g1b, g1m, g1d, lm o1.den⟩, ⟨decide (o2.num < 0), g2a, g2n, g2c, lm o2.num.natAbs, g2b, g2m, g2d, lm o2.den⟩, ⟨decide (o3.num < 0), g3a, g3n, g3c, lm o3.num.natAbs, g3b, g3m, g3d, lm o3.den⟩, ⟨decide (o0.num < 0), g4a, g4n, g4c, lm o0.num.natAbs, g4b, g4m, g4d, lm o0.den⟩, ⟨decide (o1.num < 0), g5a, g5n, g5c, lm o1.num.natAbs, g5b, g5m, g5d, lm o1.den⟩, ⟨decide (o6.num < 0), g6a, g6n, g6c, lm o6.num.natAbs, g6b, g6m, g6d, lm o6.den⟩, ⟨decide (o3.num < 0), g7a, g7n, g7c, lm o3.num.natAbs, g7b, g7m, g7d, lm o3.den⟩, ⟨decide (o8.num < 0), g8a, g8n, g8c, lm o8.num.natAbs, g8b, g8m, g8d, lm o8.den⟩, ⟨decide (o9.num < 0), g9a, g9n, g9c, lm o9.num.natAbs, g9b, g9m, g9d, lm o9.den⟩] : List QA) = xs at *
  generalize ([⟨decide (o0.num < 0), h0a, h0n, h0c, lm o0.num.natAbs, h0b, h0m, h0d, lm o0.den⟩, ⟨decide (o1.num < 0), h1a, h1n, h1c, lm o1.num.natAbs, h1b, h1m, h1d, lm o1.den⟩, ⟨decide (o2.num < 0), h2a, h2n, h2c, lm o2.num.natAbs, h2b, h2m, h2d, lm o2.den⟩, ⟨decide (o3.num < 0), h3a, h3n, h3c, lm o3.num.natAbs, h3b, h3m, h3d, lm o3.den⟩, ⟨decide (o0.num < 0), h4a, h4n, h4c, lm o0.num.natAbs, h4b, h4m, h4d, lm o0.den⟩, ⟨decide (o1.num < 0), h5a, h5n, h5c, lm o1.num.natAbs, h5b, h5m, h5d, lm o1.den⟩, ⟨decide (o6.num < 0), h6a, h6n, h6c, lm o6.num.natAbs, h6b, h6m, h6d, lm o6.den⟩, ⟨decide (o3.num < 0), h7a, h7n, h7c, lm o3.num.natAbs, h7b, h7m, h7d, lm o3.den⟩, ⟨decide (o8.num < 0), h8a, h8n, h8c, lm o8.num.natAbs, h8b, h8m, h8d, lm o8.den⟩, ⟨decide (o9.num < 0), h9a, h9n, h9c, lm o9.num.natAbs, h9b, h9m, h9d, lm o9.den⟩] : List QA) = ys at *
  clear hxs
  go_wp2_with fail
  refine (fequal QX_33 (by omega) QY_33 (by omega)).mono ?_
  rw [hsm.out]
  rintro e w34 ⟨rfl, hB⟩
  have hBT : Below v33.heap.size v33 w34 := (bl.next hB)
  have T_34 := hid (T_33.out.below hBT)
  have hbT_34 := hbT_33.next hBT
  clear T_33 hbT_33 hBT
  have hB_34 : Below v33.heap.size v33 w34 := (bl.next hB)
  have X_34 := X_33.next hB_34
  have cX_34_0 : _ = some (Value.bool s) := X_34.cell 0
  have fX_34_0 := X_34.free 0
  have cX_34_1 : _ = some (Value.slice a n1 c) := X_34.cell 1
  have fX_34_1 := X_34.free 1
  have cX_34_2 : _ = some (Value.slice b m1 d) := X_34.cell 2
  have fX_34_2 := X_34.free 2
  have Y_34 := Y_33.next hB_34
  have cY_34_0 : _ = some (Value.bool t) := Y_34.cell 0
  have fY_34_0 := Y_34.free 0
  have cY_34_1 : _ = some (Value.slice a' n2 c') := Y_34.cell 1
  have fY_34_1 := Y_34.free 1
  have cY_34_2 : _ = some (Value.slice b' m2 d') := Y_34.cell 2
  have fY_34_2 := Y_34.free 2
  have P_34 := P_33.next hB_34
  have cP_34_0 : _ = some (Value.bool s) := P_34.cell 0
  have cP_34_1 : _ = some (Value.slice pa n1 pc) := P_34.cell 1
  have cP_34_2 : _ = some (Value.slice pb m1 pd) := P_34.cell 2
  have R_34 := R_33.next hB_34
  have cR_34_0 : _ = some (Value.bool t) := R_34.cell 0
  have cR_34_1 : _ = some (Value.slice ra n2 rc) := R_34.cell 1
  have cR_34_2 : _ = some (Value.slice rb m2 rd) := R_34.cell 2
  have E_34 := E_33.next hB_34
  have G_34 := G_33.next hB_34
  have GOT_34 := GOT_33.next hB_34
  have cGOT_34_0 : _ = some (Value.bool (decide ((o0).num < 0))) := GOT_34.cell 0
  have cGOT_34_1 : _ = some (Value.slice g0a g0n g0c) := GOT_34.cell 1
  have cGOT_34_2 : _ = some (Value.slice g0b g0m g0d) := GOT_34.cell 2
  have cGOT_34_3 : _ = some (Value.bool (decide ((o1).num < 0))) := GOT_34.cell 3
  have cGOT_34_4 : _ = some (Value.slice g1a g1n g1c) := GOT_34.cell 4
  have cGOT_34_5 : _ = some (Value.slice g1b g1m g1d) := GOT_34.cell 5
  have cGOT_34_6 : _ = some (Value.bool (decide ((o2).num < 0))) := GOT_34.cell 6
  have cGOT_34_7 : _ = some (Value.slice g2a g2n g2c) := GOT_34.cell 7
  have cGOT_34_8 : _ = some (Value.slice g2b g2m g2d) := GOT_34.cell 8
  have cGOT_34_9 : _ = some (Value.bool (decide ((o3).num < 0))) := GOT_34.cell 9
  have cGOT_34_10 : _ = some (Value.slice g3a g3n g3c) := GOT_34.cell 10
  have cGOT_34_11 : _ = some (Value.slice g3b g3m g3d) := GOT_34.cell 11
  have cGOT_34_12 : _ = some (Value.bool (decide ((o0).num < 0))) := GOT_34.cell 12
  have cGOT_34_13 : _ = some (Value.slice g4a g4n g4c) := GOT_34.cell 13
  have cGOT_34_14 : _ = some (Value.slice g4b g4m g4d) := GOT_34.cell 14
  have cGOT_34_15 : _ = some (Value.bool (decide ((o1).num < 0))) := GOT_34.cell 15
  have cGOT_34_16 : _ = some (Value.slice g5a g5n g5c) := GOT_34.cell 16
  have cGOT_34_17 : _ = some (Value.slice g5b g5m g5d) := GOT_34.cell 17
  have cGOT_34_18 : _ = some (Value.bool (decide ((o6).num < 0))) := GOT_34.cell 18
  have cGOT_34_19 : _ = some (Value.slice g6a g6n g6c) := GOT_34.cell 19
  have cGOT_34_20 : _ = some (Value.slice g6b g6m g6d) := GOT_34.cell 20
  have cGOT_34_21 : _ = some (Value.bool (decide ((o3).num < 0))) := GOT_34.cell 21
  have cGOT_34_22 : _ = some (Value.slice g7a g7n g7c) := GOT_34.cell 22
  have cGOT_34_23 : _ = some (Value.slice g7b g7m g7d) := GOT_34.cell 23
  have cGOT_34_24 : _ = some (Value.bool (decide ((o8).num < 0))) := GOT_34.cell 24
  have cGOT_34_25 : _ = some (Value.slice g8a g8n g8c) := GOT_34.cell 25
  have cGOT_34_26 : _ = some (Value.slice g8b g8m g8d) := GOT_34.cell 26
  have cGOT_34_27 : _ = some (Value.bool (decide ((o9).num < 0))) := GOT_34.cell 27
  have cGOT_34_28 : _ = some (Value.slice g9a g9n g9c) := GOT_34.cell 28
  have cGOT_34_29 : _ = some (Value.slice g9b g9m g9d) := GOT_34.cell 29
  have WANT_34 := WANT_33.next hB_34
  have cWANT_34_0 : _ = some (Value.bool (decide ((o0).num < 0))) := WANT_34.cell 0
  have cWANT_34_1 : _ = some (Value.slice h0a h0n h0c) := WANT_34.cell 1
  have cWANT_34_2 : _ = some (Value.slice h0b h0m h0d) := WANT_34.cell 2
  have cWANT_34_3 : _ = some (Value.bool (decide ((o1).num < 0))) := WANT_34.cell 3
  have cWANT_34_4 : _ = some (Value.slice h1a h1n h1c) := WANT_34.cell 4
  have cWANT_34_5 : _ = some (Value.slice h1b h1m h1d) := WANT_34.cell 5
  have cWANT_34_6 : _ = some (Value.bool (decide ((o2).num < 0))) := WANT_34.cell 6
  have cWANT_34_7 : _ = some (Value.slice h2a h2n h2c) := WANT_34.cell 7
  have cWANT_34_8 : _ = some (Value.slice h2b h2m h2d) := WANT_34.cell 8
  have cWANT_34_9 : _ = some (Value.bool (decide ((o3).num < 0))) := WANT_34.cell 9
  have cWANT_34_10 : _ = some (Value.slice h3a h3n h3c) := WANT_34.cell 10
  have cWANT_34_11 : _ = some (Value.slice h3b h3m h3d) := WANT_34.cell 11
  have cWANT_34_12 : _ = some (Value.bool (decide ((o0).num < 0))) := WANT_34.cell 12
  have cWANT_34_13 : _ = some (Value.slice h4a h4n h4c) := WANT_34.cell 13
  have cWANT_34_14 : _ = some (Value.slice h4b h4m h4d) := WANT_34.cell 14
  have cWANT_34_15 : _ = some (Value.bool (decide ((o1).num < 0))) := WANT_34.cell 15
  have cWANT_34_16 : _ = some (Value.slice h5a h5n h5c) := WANT_34.cell 16
  have cWANT_34_17 : _ = some (Value.slice h5b h5m h5d) := WANT_34.cell 17
  have cWANT_34_18 : _ = some (Value.bool (decide ((o6).num < 0))) := WANT_34.cell 18
  have cWANT_34_19 : _ = some (Value.slice h6a h6n h6c) := WANT_34.cell 19
  have cWANT_34_20 : _ = some (Value.slice h6b h6m h6d) := WANT_34.cell 20
  have cWANT_34_21 : _ = some (Value.bool (decide ((o3).num < 0))) := WANT_34.cell 21
  have cWANT_34_22 : _ = some (Value.slice h7a h7n h7c) := WANT_34.cell 22
  have cWANT_34_23 : _ = some (Value.slice h7b h7m h7d) := WANT_34.cell 23
  have cWANT_34_24 : _ = some (Value.bool (decide ((o8).num < 0))) := WANT_34.cell 24
  have cWANT_34_25 : _ = some (Value.slice h8a h8n h8c) := WANT_34.cell 25
  have cWANT_34_26 : _ = some (Value.slice h8b h8m h8d) := WANT_34.cell 26
  have cWANT_34_27 : _ = some (Value.bool (decide ((o9).num < 0))) := WANT_34.cell 27
  have cWANT_34_28 : _ = some (Value.slice h9a h9n h9c) := WANT_34.cell 28
  have cWANT_34_29 : _ = some (Value.slice h9b h9m h9d) := WANT_34.cell 29
  have EM_34 := EM_33.below hB_34
  have hbM_34 := hbM_33.next hB_34
  have QX_34 := QX_33.below hB_34
  have QP_34 := QP_33.below hB_34
  have QY_34 := QY_33.below hB_34
  have QR_34 := QR_33.below hB_34
  have RG_34 := RG_33.below hB_34
  have RW_34 := RW_33.below hB_34
  have hbel_34 := hbel_33.next hB_34
  have hsz_34 := hB_34.size
  clear X_33 cX_33_0 fX_33_0 cX_33_1 fX_33_1 cX_33_2 fX_33_2 Y_33 cY_33_0 fY_33_0 cY_33_1 fY_33_1 cY_33_2 fY_33_2 P_33 cP_33_0 cP_33_1 cP_33_2 R_33 cR_33_0 cR_33_1 cR_33_2 E_33 G_33 GOT_33 cGOT_33_0 cGOT_33_1 cGOT_33_2 cGOT_33_3 cGOT_33_4 cGOT_33_5 cGOT_33_6 cGOT_33_7 cGOT_33_8 cGOT_33_9 cGOT_33_10 cGOT_33_11 cGOT_33_12 cGOT_33_13 cGOT_33_14 cGOT_33_15 cGOT_33_16 cGOT_33_17 cGOT_33_18 cGOT_33_19 cGOT_33_20 cGOT_33_21 cGOT_33_22 cGOT_33_23 cGOT_33_24 cGOT_33_25 cGOT_33_26 cGOT_33_27 cGOT_33_28 cGOT_33_29 WANT_33 cWANT_33_0 cWANT_33_1 cWANT_33_2 cWANT_33_3 cWANT_33_4 cWANT_33_5 cWANT_33_6 cWANT_33_7 cWANT_33_8 cWANT_33_9 cWANT_33_10 cWANT_33_11 cWANT_33_12 cWANT_33_13 cWANT_33_14 cWANT_33_15 cWANT_33_16 cWANT_33_17 cWANT_33_18 cWANT_33_19 cWANT_33_20 cWANT_33_21 cWANT_33_22 cWANT_33_23 cWANT_33_24 cWANT_33_25 cWANT_33_26 cWANT_33_27 cWANT_33_28 cWANT_33_29 EM_33 hbM_33 QX_33 QP_33 QY_33 QR_33 RG_33 RW_33 hbel_33 hB_34
  have pEM_34 := EM_34.pt0
  (try clear pEM_33)
  try clear hB
  go_wp2_with fail
  refine (ksame QP_34 (by omega) QR_34 (by omega)).mono ?_
  rw [hsm.out]
  rintro e w35 ⟨rfl, hB⟩
  have hBT : Below w34.heap.size w34 w35 := (bl.next hB)
  have T_35 := hid (T_34.out.below hBT)
  have hbT_35 := hbT_34.next hBT
  clear T_34 hbT_34 hBT
  have hB_35 : Below w34.heap.size w34 w35 := (bl.next hB)
  have X_35 := X_34.next hB_35
  have cX_35_0 : _ = some (Value.bool s) := X_35.cell 0
  have fX_35_0 := X_35.free 0
  have cX_35_1 : _ = some (Value.slice a n1 c) := X_35.cell 1
  have fX_35_1 := X_35.free 1
  have cX_35_2 : _ = some (Value.slice b m1 d) := X_35.cell 2
  have fX_35_2 := X_35.free 2
  have Y_35 := Y_34.next hB_35
  have cY_35_0 : _ = some (Value.bool t) := Y_35.cell 0
  have fY_35_0 := Y_35.free 0
  have cY_35_1 : _ = some (Value.slice a' n2 c') := Y_35.cell 1
  have fY_35_1 := Y_35.free 1
  have cY_35_2 : _ = some (Value.slice b' m2 d') := Y_35.cell 2
  have fY_35_2 := Y_35.free 2
  have P_35 := P_34.next hB_35
  have cP_35_0 : _ = some (Value.bool s) := P_35.cell 0
  have cP_35_1 : _ = some (Value.slice pa n1 pc) := P_35.cell 1
  have cP_35_2 : _ = some (Value.slice pb m1 pd) := P_35.cell 2
  have R_35 := R_34.next hB_35
  have cR_35_0 : _ = some (Value.bool t) := R_35.cell 0
  have cR_35_1 : _ = some (Value.slice ra n2 rc) := R_35.cell 1
  have cR_35_2 : _ = some (Value.slice rb m2 rd) := R_35.cell 2
  have E_35 := E_34.next hB_35
  have G_35 := G_34.next hB_35
  have GOT_35 := GOT_34.next hB_35
  have cGOT_35_0 : _ = some (Value.bool (decide ((o0).num < 0))) := GOT_35.cell 0
  have cGOT_35_1 : _ = some (Value.slice g0a g0n g0c) := GOT_35.cell 1
  have cGOT_35_2 : _ = some (Value.slice g0b g0m g0d) := GOT_35.cell 2
  have cGOT_35_3 : _ = some (Value.bool (decide ((o1).num < 0))) := GOT_35.cell 3
  have cGOT_35_4 : _ = some (Value.slice g1a g1n g1c) := GOT_35.cell 4
  have cGOT_35_5 : _ = some (Value.slice g1b g1m g1d) := GOT_35.cell 5
  have cGOT_35_6 : _ = some (Value.bool (decide ((o2).num < 0))) := GOT_35.cell 6
  have cGOT_35_7 : _ = some (Value.slice g2a g2n g2c) := GOT_35.cell 7
  have cGOT_35_8 : _ = some (Value.slice g2b g2m g2d) := GOT_35.cell 8
  have cGOT_35_9 : _ = some (Value.bool (decide ((o3).num < 0))) := GOT_35.cell 9
  have cGOT_35_10 : _ = some (Value.slice g3a g3n g3c) := GOT_35.cell 10
  have cGOT_35_11 : _ = some (Value.slice g3b g3m g3d) := GOT_35.cell 11
  have cGOT_35_12 : _ = some (Value.bool (decide ((o0).num < 0))) := GOT_35.cell 12
  have cGOT_35_13 : _ = some (Value.slice g4a g4n g4c) := GOT_35.cell 13
  have cGOT_35_14 : _ = some (Value.slice g4b g4m g4d) := GOT_35.cell 14
  have cGOT_35_15 : _ = some (Value.bool (decide ((o1).num < 0))) := GOT_35.cell 15
  have cGOT_35_16 : _ = some (Value.slice g5a g5n g5c) := GOT_35.cell 16
  have cGOT_35_17 : _ = some (Value.slice g5b g5m g5d) := GOT_35.cell 17
  have cGOT_35_18 : _ = some (Value.bool (decide ((o6).num < 0))) := GOT_35.cell 18
  have cGOT_35_19 : _ = some (Value.slice g6a g6n g6c) := GOT_35.cell 19
  have cGOT_35_20 : _ = some (Value.slice g6b g6m g6d) := GOT_35.cell 20
  have cGOT_35_21 : _ = some (Value.bool (decide ((o3).num < 0))) := GOT_35.cell 21
  have cGOT_35_22 : _ = some (Value.slice g7a g7n g7c) := GOT_35.cell 22
  have cGOT_35_23 : _ = some (Value.slice g7b g7m g7d) := GOT_35.cell 23
  have cGOT_35_24 : _ = some (Value.bool (decide ((o8).num < 0))) := GOT_35.cell 24
  have cGOT_35_25 : _ = some (Value.slice g8a g8n g8c) := GOT_35.cell 25
  have cGOT_35_26 : _ = some (Value.slice g8b g8m g8d) := GOT_35.cell 26
  have cGOT_35_27 : _ = some (Value.bool (decide ((o9).num < 0))) := GOT_35.cell 27
  have cGOT_35_28 : _ = some (Value.slice g9a g9n g9c) := GOT_35.cell 28
  have cGOT_35_29 : _ = some (Value.slice g9b g9m g9d) := GOT_35.cell 29
  have WANT_35 := WANT_34.next hB_35
  have cWANT_35_0 : _ = some (Value.bool (decide ((o0).num < 0))) := WANT_35.cell 0
  have cWANT_35_1 : _ = some (Value.slice h0a h0n h0c) := WANT_35.cell 1
  have cWANT_35_2 : _ = some (Value.slice h0b h0m h0d) := WANT_35.cell 2
  have cWANT_35_3 : _ = some (Value.bool (decide ((o1).num < 0))) := WANT_35.cell 3
  have cWANT_35_4 : _ = some (Value.slice h1a h1n h1c) := WANT_35.cell 4
  have cWANT_35_5 : _ = some (Value.slice h1b h1m h1d) := WANT_35.cell 5
  have cWANT_35_6 : _ = some (Value.bool (decide ((o2).num < 0))) := WANT_35.cell 6
  have cWANT_35_7 : _ = some (Value.slice h2a h2n h2c) := WANT_35.cell 7
  have cWANT_35_8 : _ = some (Value.slice h2b h2m h2d) := WANT_35.cell 8
  have cWANT_35_9 : _ = some (Value.bool (decide ((o3).num < 0))) := WANT_35.cell 9
  have cWANT_35_10 : _ = some (Value.slice h3a h3n h3c) := WANT_35.cell 10
  have cWANT_35_11 : _ = some (Value.slice h3b h3m h3d) := WANT_35.cell 11
  have cWANT_35_12 : _ = some (Value.bool (decide ((o0).num < 0))) := WANT_35.cell 12
  have cWANT_35_13 : _ = some (Value.slice h4a h4n h4c) := WANT_35.cell 13
  have cWANT_35_14 : _ = some (Value.slice h4b h4m h4d) := WANT_35.cell 14
  have cWANT_35_15 : _ = some (Value.bool (decide ((o1).num < 0))) := WANT_35.cell 15
  have cWANT_35_16 : _ = some (Value.slice h5a h5n h5c) := WANT_35.cell 16
  have cWANT_35_17 : _ = some (Value.slice h5b h5m h5d) := WANT_35.cell 17
  have cWANT_35_18 : _ = some (Value.bool (decide ((o6).num < 0))) := WANT_35.cell 18
  have cWANT_35_19 : _ = some (Value.slice h6a h6n h6c) := WANT_35.cell 19
  have cWANT_35_20 : _ = some (Value.slice h6b h6m h6d) := WANT_35.cell 20
  have cWANT_35_21 : _ = some (Value.bool (decide ((o3).num < 0))) := WANT_35.cell 21
  have cWANT_35_22 : _ = some (Value.slice h7a h7n h7c) := WANT_35.cell 22
  have cWANT_35_23 : _ = some (Value.slice h7b h7m h7d) := WANT_35.cell 23
  have cWANT_35_24 : _ = some (Value.bool (decide ((o8).num < 0))) := WANT_35.cell 24
  have cWANT_35_25 : _ = some (Value.slice h8a h8n h8c) := WANT_35.cell 25
  have cWANT_35_26 : _ = some (Value.slice h8b h8m h8d) := WANT_35.cell 26
  have cWANT_35_27 : _ = some (Value.bool (decide ((o9).num < 0))) := WANT_35.cell 27
  have cWANT_35_28 : _ = some (Value.slice h9a h9n h9c) := WANT_35.cell 28
  have cWANT_35_29 : _ = some (Value.slice h9b h9m h9d) := WANT_35.cell 29
  have EM_35 := EM_34.below hB_35
  have hbM_35 := hbM_34.next hB_35
  have QX_35 := QX_34.below hB_35
  have QP_35 := QP_34.below hB_35
  have QY_35 := QY_34.below hB_35
  have QR_35 := QR_34.below hB_35
  have RG_35 := RG_34.below hB_35
  have RW_35 := RW_34.below hB_35
  have hbel_35 := hbel_34.next hB_35
  have hsz_35 := hB_35.size
  clear X_34 cX_34_0 fX_34_0 cX_34_1 fX_34_1 cX_34_2 fX_34_2 Y_34 cY_34_0 fY_34_0 cY_34_1 fY_34_1 cY_34_2 fY_34_2 P_34 cP_34_0 cP_34_1 cP_34_2 R_34 cR_34_0 cR_34_1 cR_34_2 E_34 G_34 GOT_34 cGOT_34_0 cGOT_34_1 cGOT_34_2 cGOT_34_3 cGOT_34_4 cGOT_34_5 cGOT_34_6 cGOT_34_7 cGOT_34_8 cGOT_34_9 cGOT_34_10 cGOT_34_11 cGOT_34_12 cGOT_34_13 cGOT_34_14 cGOT_34_15 cGOT_34_16 cGOT_34_17 cGOT_34_18 cGOT_34_19 cGOT_34_20 cGOT_34_21 cGOT_34_22 cGOT_34_23 cGOT_34_24 cGOT_34_25 cGOT_34_26 cGOT_34_27 cGOT_34_28 cGOT_34_29 WANT_34 cWANT_34_0 cWANT_34_1 cWANT_34_2 cWANT_34_3 cWANT_34_4 cWANT_34_5 cWANT_34_6 cWANT_34_7 cWANT_34_8 cWANT_34_9 cWANT_34_10 cWANT_34_11 cWANT_34_12 cWANT_34_13 cWANT_34_14 cWANT_34_15 cWANT_34_16 cWANT_34_17 cWANT_34_18 cWANT_34_19 cWANT_34_20 cWANT_34_21 cWANT_34_22 cWANT_34_23 cWANT_34_24 cWANT_34_25 cWANT_34_26 cWANT_34_27 cWANT_34_28 cWANT_34_29 EM_34 hbM_34 QX_34 QP_34 QY_34 QR_34 RG_34 RW_34 hbel_34 hB_35
  have pEM_35 := EM_35.pt0
  (try clear pEM_34)
  try clear hB
  go_wp2_with fail
  refine (ksame QP_35 (by omega) QR_35 (by omega)).mono ?_
  rw [hsm.out]
  rintro e w36 ⟨rfl, hB⟩
  have hBT : Below w35.heap.size w35 w36 := (bl.next hB)
  have T_36 := hid (T_35.out.below hBT)
  have hbT_36 := hbT_35.next hBT
  clear T_35 hbT_35 hBT
  have hB_36 : Below w35.heap.size w35 w36 := (bl.next hB)
  have X_36 := X_35.next hB_36
  have cX_36_0 : _ = some (Value.bool s) := X_36.cell 0
  have fX_36_0 := X_36.free 0
  have cX_36_1 : _ = some (Value.slice a n1 c) := X_36.cell 1
  have fX_36_1 := X_36.free 1
  have cX_36_2 : _ = some (Value.slice b m1 d) := X_36.cell 2
  have fX_36_2 := X_36.free 2
  have Y_36 := Y_35.next hB_36
  have cY_36_0 : _ = some (Value.bool t) := Y_36.cell 0
  have fY_36_0 := Y_36.free 0
  have cY_36_1 : _ = some (Value.slice a' n2 c') := Y_36.cell 1
  have fY_36_1 := Y_36.free 1
  have cY_36_2 : _ = some (Value.slice b' m2 d') := Y_36.cell 2
  have fY_36_2 := Y_36.free 2
  have P_36 := P_35.next hB_36
  have cP_36_0 : _ = some (Value.bool s) := P_36.cell 0
  have cP_36_1 : _ = some (Value.slice pa n1 pc) := P_36.cell 1
  have cP_36_2 : _ = some (Value.slice pb m1 pd) := P_36.cell 2
  have R_36 := R_35.next hB_36
  have cR_36_0 : _ = some (Value.bool t) := R_36.cell 0
  have cR_36_1 : _ = some (Value.slice ra n2 rc) := R_36.cell 1
  have cR_36_2 : _ = some (Value.slice rb m2 rd) := R_36.cell 2
  have E_36 := E_35.next hB_36
  have G_36 := G_35.next hB_36
  have GOT_36 := GOT_35.next hB_36
  have cGOT_36_0 : _ = some (Value.bool (decide ((o0).num < 0))) := GOT_36.cell 0
  have cGOT_36_1 : _ = some (Value.slice g0a g0n g0c) := GOT_36.cell 1
  have cGOT_36_2 : _ = some (Value.slice g0b g0m g0d) := GOT_36.cell 2
  have cGOT_36_3 : _ = some (Value.bool (decide ((o1).num < 0))) := GOT_36.cell 3
  have cGOT_36_4 : _ = some (Value.slice g1a g1n g1c) := GOT_36.cell 4
  have cGOT_36_5 : _ = some (Value.slice g1b g1m g1d) := GOT_36.cell 5
  have cGOT_36_6 : _ = some (Value.bool (decide ((o2).num < 0))) := GOT_36.cell 6
  have cGOT_36_7 : _ = some (Value.slice g2a g2n g2c) := GOT_36.cell 7
  have cGOT_36_8 : _ = some (Value.slice g2b g2m g2d) := GOT_36.cell 8
  have cGOT_36_9 : _ = some (Value.bool (decide ((o3).num < 0))) := GOT_36.cell 9
  have cGOT_36_10 : _ = some (Value.slice g3a g3n g3c) := GOT_36.cell 10
  have cGOT_36_11 : _ = some (Value.slice g3b g3m g3d) := GOT_36.cell 11
  have cGOT_36_12 : _ = some (Value.bool (decide ((o0).num < 0))) := GOT_36.cell 12
  have cGOT_36_13 : _ = some (Value.slice g4a g4n g4c) := GOT_36.cell 13
  have cGOT_36_14 : _ = some (Value.slice g4b g4m g4d) := GOT_36.cell 14
  have cGOT_36_15 : _ = some (Value.bool (decide ((o1).num < 0))) := GOT_36.cell 15
  have cGOT_36_16 : _ = some (Value.slice g5a g5n g5c) := GOT_36.cell 16
  have cGOT_36_17 : _ = some (Value.slice g5b g5m g5d) := GOT_36.cell 17
  have cGOT_36_18 : _ = some (Value.bool (decide ((o6).num < 0))) := GOT_36.cell 18
  have cGOT_36_19 : _ = some (Value.slice g6a g6n g6c) := GOT_36.cell 19
  have cGOT_36_20 : _ = some (Value.slice g6b g6m g6d) := GOT_36.cell 20
  have cGOT_36_21 : _ = some (Value.bool (decide ((o3).num < 0))) := GOT_36.cell 21
  have cGOT_36_22 : _ = some (Value.slice g7a g7n g7c) := GOT_36.cell 22
  have cGOT_36_23 : _ = some (Value.slice g7b g7m g7d) := GOT_36.cell 23
  have cGOT_36_24 : _ = some (Value.bool (decide ((o8).num < 0))) := GOT_36.cell 24
  have cGOT_36_25 : _ = some (Value.slice g8a g8n g8c) := GOT_36.cell 25
  have cGOT_36_26 : _ = some (Value.slice g8b g8m g8d) := GOT_36.cell 26
  have cGOT_36_27 : _ = some (Value.bool (decide ((o9).num < 0))) := GOT_36.cell 27
  have cGOT_36_28 : _ = some (Value.slice g9a g9n g9c) := GOT_36.cell 28
  have cGOT_36_29 : _ = some (Value.slice g9b g9m g9d) := GOT_36.cell 29
  have WANT_36 := WANT_35.next hB_36
  have cWANT_36_0 : _ = some (Value.bool (decide ((o0).num < 0))) := WANT_36.cell 0
  have cWANT_36_1 : _ = some (Value.slice h0a h0n h0c) := WANT_36.cell 1
  have cWANT_36_2 : _ = some (Value.slice h0b h0m h0d) := WANT_36.cell 2
  have cWANT_36_3 : _ = some (Value.bool (decide ((o1).num < 0))) := WANT_36.cell 3
  have cWANT_36_4 : _ = some (Value.slice h1a h1n h1c) := WANT_36.cell 4
  have cWANT_36_5 : _ = some (Value.slice h1b h1m h1d) := WANT_36.cell 5
  have cWANT_36_6 : _ = some (Value.bool (decide ((o2).num < 0))) := WANT_36.cell 6
  have cWANT_36_7 : _ = some (Value.slice h2a h2n h2c) := WANT_36.cell 7
  have cWANT_36_8 : _ = some (Value.slice h2b h2m h2d) := WANT_36.cell 8
  have cWANT_36_9 : _ = some (Value.bool (decide ((o3).num < 0))) := WANT_36.cell 9
  have cWANT_36_10 : _ = some (Value.slice h3a h3n h3c) := WANT_36.cell 10
  have cWANT_36_11 : _ = some (Value.slice h3b h3m h3d) := WANT_36.cell 11
  have cWANT_36_12 : _ = some (Value.bool (decide ((o0).num < 0))) := WANT_36.cell 12
  have cWANT_36_13 : _ = some (Value.slice h4a h4n h4c) := WANT_36.cell 13
  have cWANT_36_14 : _ = some (Value.slice h4b h4m h4d) := WANT_36.cell 14
  have cWANT_36_15 : _ = some (Value.bool (decide ((o1).num < 0))) := WANT_36.cell 15
  have cWANT_36_16 : _ = some (Value.slice h5a h5n h5c) := WANT_36.cell 16
  have cWANT_36_17 : _ = some (Value.slice h5b h5m h5d) := WANT_36.cell 17
  have cWANT_36_18 : _ = some (Value.bool (decide ((o6).num < 0))) := WANT_36.cell 18
  have cWANT_36_19 : _ = some (Value.slice h6a h6n h6c) := WANT_36.cell 19
  have cWANT_36_20 : _ = some (Value.slice h6b h6m h6d) := WANT_36.cell 20
  have cWANT_36_21 : _ = some (Value.bool (decide ((o3).num < 0))) := WANT_36.cell 21
  have cWANT_36_22 : _ = some (Value.slice h7a h7n h7c) := WANT_36.cell 22
  have cWANT_36_23 : _ = some (Value.slice h7b h7m h7d) := WANT_36.cell 23
  have cWANT_36_24 : _ = some (Value.bool (decide ((o8).num < 0))) := WANT_36.cell 24
  have cWANT_36_25 : _ = some (Value.slice h8a h8n h8c) := WANT_36.cell 25
  have cWANT_36_26 : _ = some (Value.slice h8b h8m h8d) := WANT_36.cell 26
  have cWANT_36_27 : _ = some (Value.bool (decide ((o9).num < 0))) := WANT_36.cell 27
  have cWANT_36_28 : _ = some (Value.slice h9a h9n h9c) := WANT_36.cell 28
  have cWANT_36_29 : _ = some (Value.slice h9b h9m h9d) := WANT_36.cell 29
  have EM_36 := EM_35.below hB_36
  have hbM_36 := hbM_35.next hB_36
  have QX_36 := QX_35.below hB_36
  have QP_36 := QP_35.below hB_36
  have QY_36 := QY_35.below hB_36
  have QR_36 := QR_35.below hB_36
  have RG_36 := RG_35.below hB_36
  have RW_36 := RW_35.below hB_36
  have hbel_36 := hbel_35.next hB_36
  have hsz_36 := hB_36.size
  clear X_35 cX_35_0 fX_35_0 cX_35_1 fX_35_1 cX_35_2 fX_35_2 Y_35 cY_35_0 fY_35_0 cY_35_1 fY_35_1 cY_35_2 fY_35_2 P_35 cP_35_0 cP_35_1 cP_35_2 R_35 cR_35_0 cR_35_1 cR_35_2 E_35 G_35 GOT_35 cGOT_35_0 cGOT_35_1 cGOT_35_2 cGOT_35_3 cGOT_35_4 cGOT_35_5 cGOT_35_6 cGOT_35_7 cGOT_35_8 cGOT_35_9 cGOT_35_10 cGOT_35_11 cGOT_35_12 cGOT_35_13 cGOT_35_14 cGOT_35_15 cGOT_35_16 cGOT_35_17 cGOT_35_18 cGOT_35_19 cGOT_35_20 cGOT_35_21 cGOT_35_22 cGOT_35_23 cGOT_35_24 cGOT_35_25 cGOT_35_26 cGOT_35_27 cGOT_35_28 cGOT_35_29 WANT_35 cWANT_35_0 cWANT_35_1 cWANT_35_2 cWANT_35_3 cWANT_35_4 cWANT_35_5 cWANT_35_6 cWANT_35_7 cWANT_35_8 cWANT_35_9 cWANT_35_10 cWANT_35_11 cWANT_35_12 cWANT_35_13 cWANT_35_14 cWANT_35_15 cWANT_35_16 cWANT_35_17 cWANT_35_18 cWANT_35_19 cWANT_35_20 cWANT_35_21 cWANT_35_22 cWANT_35_23 cWANT_35_24 cWANT_35_25 cWANT_35_26 cWANT_35_27 cWANT_35_28 cWANT_35_29 EM_35 hbM_35 QX_35 QP_35 QY_35 QR_35 RG_35 RW_35 hbel_35 hB_36
  have pEM_36 := EM_36.pt0
  (try clear pEM_35)
  try clear hB
  go_wp2_with fail
  refine (ksame_t QP_36 (by omega) QP_36 (by omega) rfl).mono ?_
  rintro e w37 ⟨rfl, hB⟩
  have hBT : Below w36.heap.size w36 w37 := (bl.next hB)
  have T_37 := hid (T_36.out.below hBT)
  have hbT_37 := hbT_36.next hBT
  clear T_36 hbT_36 hBT
  have hB_37 : Below w36.heap.size w36 w37 := (bl.next hB)
  have X_37 := X_36.next hB_37
  have cX_37_0 : _ = some (Value.bool s) := X_37.cell 0
  have fX_37_0 := X_37.free 0
  have cX_37_1 : _ = some (Value.slice a n1 c) := X_37.cell 1
  have fX_37_1 := X_37.free 1
  have cX_37_2 : _ = some (Value.slice b m1 d) := X_37.cell 2
  have fX_37_2 := X_37.free 2
  have Y_37 := Y_36.next hB_37
  have cY_37_0 : _ = some (Value.bool t) := Y_37.cell 0
  have fY_37_0 := Y_37.free 0
  have cY_37_1 : _ = some (Value.slice a' n2 c') := Y_37.cell 1
  have fY_37_1 := Y_37.free 1
  have cY_37_2 : _ = some (Value.slice b' m2 d') := Y_37.cell 2
  have fY_37_2 := Y_37.free 2
  have P_37 := P_36.next hB_37
  have cP_37_0 : _ = some (Value.bool s) := P_37.cell 0
  have cP_37_1 : _ = some (Value.slice pa n1 pc) := P_37.cell 1
  have cP_37_2 : _ = some (Value.slice pb m1 pd) := P_37.cell 2
  have R_37 := R_36.next hB_37
  have cR_37_0 : _ = some (Value.bool t) := R_37.cell 0
  have cR_37_1 : _ = some (Value.slice ra n2 rc) := R_37.cell 1
  have cR_37_2 : _ = some (Value.slice rb m2 rd) := R_37.cell 2
  have E_37 := E_36.next hB_37
  have G_37 := G_36.next hB_37
  have GOT_37 := GOT_36.next hB_37
  have cGOT_37_0 : _ = some (Value.bool (decide ((o0).num < 0))) := GOT_37.cell 0
  have cGOT_37_1 : _ = some (Value.slice g0a g0n g0c) := GOT_37.cell 1
  have cGOT_37_2 : _ = some (Value.slice g0b g0m g0d) := GOT_37.cell 2
  have cGOT_37_3 : _ = some (Value.bool (decide ((o1).num < 0))) := GOT_37.cell 3
  have cGOT_37_4 : _ = some (Value.slice g1a g1n g1c) := GOT_37.cell 4
  have cGOT_37_5 : _ = some (Value.slice g1b g1m g1d) := GOT_37.cell 5
  have cGOT_37_6 : _ = some (Value.bool (decide ((o2).num < 0))) := GOT_37.cell 6
  have cGOT_37_7 : _ = some (Value.slice g2a g2n g2c) := GOT_37.cell 7
  have cGOT_37_8 : _ = some (Value.slice g2b g2m g2d) := GOT_37.cell 8
  have cGOT_37_9 : _ = some (Value.bool (decide ((o3).num < 0))) := GOT_37.cell 9
  have cGOT_37_10 : _ = some (Value.slice g3a g3n g3c) := GOT_37.cell 10
  have cGOT_37_11 : _ = some (Value.slice g3b g3m g3d) := GOT_37.cell 11
  have cGOT_37_12 : _ = some (Value.bool (decide ((o0).num < 0))) := GOT_37.cell 12
  have cGOT_37_13 : _ = some (Value.slice g4a g4n g4c) := GOT_37.cell 13
  have cGOT_37_14 : _ = some (Value.slice g4b g4m g4d) := GOT_37.cell 14
  have cGOT_37_15 : _ = some (Value.bool (decide ((o1).num < 0))) := GOT_37.cell 15
  have cGOT_37_16 : _ = some (Value.slice g5a g5n g5c) := GOT_37.cell 16
  have cGOT_37_17 : _ = some (Value.slice g5b g5m g5d) := GOT_37.cell 17
  have cGOT_37_18 : _ = some (Value.bool (decide ((o6).num < 0))) := GOT_37.cell 18
  have cGOT_37_19 : _ = some (Value.slice g6a g6n g6c) := GOT_37.cell 19
  have cGOT_37_20 : _ = some (Value.slice g6b g6m g6d) := GOT_37.cell 20
  have cGOT_37_21 : _ = some (Value.bool (decide ((o3).num < 0))) := GOT_37.cell 21
  have cGOT_37_22 : _ = some (Value.slice g7a g7n g7c) := GOT_37.cell 22
  have cGOT_37_23 : _ = some (Value.slice g7b g7m g7d) := GOT_37.cell 23
  have cGOT_37_24 : _ = some (Value.bool (decide ((o8).num < 0))) := GOT_37.cell 24
  have cGOT_37_25 : _ = some (Value.slice g8a g8n g8c) := GOT_37.cell 25
  have cGOT_37_26 : _ = some (Value.slice g8b g8m g8d) := GOT_37.cell 26
  have cGOT_37_27 : _ = some (Value.bool (decide ((o9).num < 0))) := GOT_37.cell 27
  have cGOT_37_28 : _ = some (Value.slice g9a g9n g9c) := GOT_37.cell 28
  have cGOT_37_29 : _ = some (Value.slice g9b g9m g9d) := GOT_37.cell 29
  have WANT_37 := WANT_36.next hB_37
  have cWANT_37_0 : _ = some (Value.bool (decide ((o0).num < 0))) := WANT_37.cell 0
  have cWANT_37_1 : _ = some (Value.slice h0a h0n h0c) := WANT_37.cell 1
  have cWANT_37_2 : _ = some (Value.slice h0b h0m h0d) := WANT_37.cell 2
  have cWANT_37_3 : _ = some (Value.bool (decide ((o1).num < 0))) := WANT_37.cell 3
  have cWANT_37_4 : _ = some (Value.slice h1a h1n h1c) := WANT_37.cell 4
  have cWANT_37_5 : _ = some (Value.slice h1b h1m h1d) := WANT_37.cell 5
  have cWANT_37_6 : _ = some (Value.bool (decide ((o2).num < 0))) := WANT_37.cell 6
  have cWANT_37_7 : _ = some (Value.slice h2a h2n h2c) := WANT_37.cell 7
  have cWANT_37_8 : _ = some (Value.slice h2b h2m h2d) := WANT_37.cell 8
  have cWANT_37_9 : _ = some (Value.bool (decide ((o3).num < 0))) := WANT_37.cell 9
  have cWANT_37_10 : _ = some (Value.slice h3a h3n h3c) := WANT_37.cell 10
  have cWANT_37_11 : _ = some (Value.slice h3b h3m h3d) := WANT_37.cell 11
  have cWANT_37_12 : _ = some (Value.bool (decide ((o0).num < 0))) := WANT_37.cell 12
  have cWANT_37_13 : _ = some (Value.slice h4a h4n h4c) := WANT_37.cell 13
  have cWANT_37_14 : _ = some (Value.slice h4b h4m h4d) := WANT_37.cell 14
  have cWANT_37_15 : _ = some (Value.bool (decide ((o1).num < 0))) := WANT_37.cell 15
  have cWANT_37_16 : _ = some (Value.slice h5a h5n h5c) := WANT_37.cell 16
  have cWANT_37_17 : _ = some (Value.slice h5b h5m h5d) := WANT_37.cell 17
  have cWANT_37_18 : _ = some (Value.bool (decide ((o6).num < 0))) := WANT_37.cell 18
  have cWANT_37_19 : _ = some (Value.slice h6a h6n h6c) := WANT_37.cell 19
  have cWANT_37_20 : _ = some (Value.slice h6b h6m h6d) := WANT_37.cell 20
  have cWANT_37_21 : _ = some (Value.bool (decide ((o3).num < 0))) := WANT_37.cell 21
  have cWANT_37_22 : _ = some (Value.slice h7a h7n h7c) := WANT_37.cell 22
  have cWANT_37_23 : _ = some (Value.slice h7b h7m h7d) := WANT_37.cell 23
  have cWANT_37_24 : _ = some (Value.bool (decide ((o8).num < 0))) := WANT_37.cell 24
  have cWANT_37_25 : _ = some (Value.slice h8a h8n h8c) := WANT_37.cell 25
  have cWANT_37_26 : _ = some (Value.slice h8b h8m h8d) := WANT_37.cell 26
  have cWANT_37_27 : _ = some (Value.bool (decide ((o9).num < 0))) := WANT_37.cell 27
  have cWANT_37_28 : _ = some (Value.slice h9a h9n h9c) := WANT_37.cell 28
  have cWANT_37_29 : _ = some (Value.slice h9b h9m h9d) := WANT_37.cell 29
  have EM_37 := EM_36.below hB_37
  have hbM_37 := hbM_36.next hB_37
  have QX_37 := QX_36.below hB_37
  have QP_37 := QP_36.below hB_37
  have QY_37 := QY_36.below hB_37
  have QR_37 := QR_36.below hB_37
  have RG_37 := RG_36.below hB_37
  have RW_37 := RW_36.below hB_37
  have hbel_37 := hbel_36.next hB_37
  have hsz_37 := hB_37.size
  clear X_36 cX_36_0 fX_36_0 cX_36_1 fX_36_1 cX_36_2 fX_36_2 Y_36 cY_36_0 fY_36_0 cY_36_1 fY_36_1 cY_36_2 fY_36_2 P_36 cP_36_0 cP_36_1 cP_36_2 R_36 cR_36_0 cR_36_1 cR_36_2 E_36 G_36 GOT_36 cGOT_36_0 cGOT_36_1 cGOT_36_2 cGOT_36_3 cGOT_36_4 cGOT_36_5 cGOT_36_6 cGOT_36_7 cGOT_36_8 cGOT_36_9 cGOT_36_10 cGOT_36_11 cGOT_36_12 cGOT_36_13 cGOT_36_14 cGOT_36_15 cGOT_36_16 cGOT_36_17 cGOT_36_18 cGOT_36_19 cGOT_36_20 cGOT_36_21 cGOT_36_22 cGOT_36_23 cGOT_36_24 cGOT_36_25 cGOT_36_26 cGOT_36_27 cGOT_36_28 cGOT_36_29 WANT_36 cWANT_36_0 cWANT_36_1 cWANT_36_2 cWANT_36_3 cWANT_36_4 cWANT_36_5 cWANT_36_6 cWANT_36_7 cWANT_36_8 cWANT_36_9 cWANT_36_10 cWANT_36_11 cWANT_36_12 cWANT_36_13 cWANT_36_14 cWANT_36_15 cWANT_36_16 cWANT_36_17 cWANT_36_18 cWANT_36_19 cWANT_36_20 cWANT_36_21 cWANT_36_22 cWANT_36_23 cWANT_36_24 cWANT_36_25 cWANT_36_26 cWANT_36_27 cWANT_36_28 cWANT_36_29 EM_36 hbM_36 QX_36 QP_36 QY_36 QR_36 RG_36 RW_36 hbel_36 hB_37
  have pEM_37 := EM_37.pt0
  (try clear pEM_36)
  try clear hB
  go_wp2_with fail
  refine (ksame_t QR_37 (by omega) QR_37 (by omega) rfl).mono ?_
  rintro e w38 ⟨rfl, hB⟩
  have hBT : Below w37.heap.size w37 w38 := (bl.next hB)
  have T_38 := hid (T_37.out.below hBT)
  have hbT_38 := hbT_37.next hBT
  clear T_37 hbT_37 hBT
  have hB_38 : Below w37.heap.size w37 w38 := (bl.next hB)
  have X_38 := X_37.next hB_38
  have cX_38_0 : _ = some (Value.bool s) := X_38.cell 0
  have fX_38_0 := X_38.free 0
  have cX_38_1 : _ = some (Value.slice a n1 c) := X_38.cell 1
  have fX_38_1 := X_38.free 1
  have cX_38_2 : _ = some (Value.slice b m1 d) := X_38.cell 2
  have fX_38_2 := X_38.free 2
  have Y_38 := Y_37.next hB_38
  have cY_38_0 : _ = some (Value.bool t) := Y_38.cell 0
  have fY_38_0 := Y_38.free 0
  have cY_38_1 : _ = some (Value.slice a' n2 c') := Y_38.cell 1
  have fY_38_1 := Y_38.free 1
  have cY_38_2 : _ = some (Value.slice b' m2 d') := Y_38.cell 2
  have fY_38_2 := Y_38.free 2
  have P_38 := P_37.next hB_38
  have cP_38_0 : _ = some (Value.bool s) := P_38.cell 0
  have cP_38_1 : _ = some (Value.slice pa n1 pc) := P_38.cell 1
  have cP_38_2 : _ = some (Value.slice pb m1 pd) := P_38.cell 2
  have R_38 := R_37.next hB_38
  have cR_38_0 : _ = some (Value.bool t) := R_38.cell 0
  have cR_38_1 : _ = some (Value.slice ra n2 rc) := R_38.cell 1
  have cR_38_2 : _ = some (Value.slice rb m2 rd) := R_38.cell 2
  have E_38 := E_37.next hB_38
  have G_38 := G_37.next hB_38
  have GOT_38 := GOT_37.next hB_38
  have cGOT_38_0 : _ = some (Value.bool (decide ((o0).num < 0))) := GOT_38.cell 0
  have cGOT_38_1 : _ = some (Value.slice g0a g0n g0c) := GOT_38.cell 1
  have cGOT_38_2 : _ = some (Value.slice g0b g0m g0d) := GOT_38.cell 2
  have cGOT_38_3 : _ = some (Value.bool (decide ((o1).num < 0))) := GOT_38.cell 3
  have cGOT_38_4 : _ = some (Value.slice g1a g1n g1c) := GOT_38.cell 4
  have cGOT_38_5 : _ = some (Value.slice g1b g1m g1d) := GOT_38.cell 5
  have cGOT_38_6 : _ = some (Value.bool (decide ((o2).num < 0))) := GOT_38.cell 6
  have cGOT_38_7 : _ = some (Value.slice g2a g2n g2c) := GOT_38.cell 7
  have cGOT_38_8 : _ = some (Value.slice g2b g2m g2d) := GOT_38.cell 8
  have cGOT_38_9 : _ = some (Value.bool (decide ((o3).num < 0))) := GOT_38.cell 9
  have cGOT_38_10 : _ = some (Value.slice g3a g3n g3c) := GOT_38.cell 10
  have cGOT_38_11 : _ = some (Value.slice g3b g3m g3d) := GOT_38.cell 11
  have cGOT_38_12 : _ = some (Value.bool (decide ((o0).num < 0))) := GOT_38.cell 12
  have cGOT_38_13 : _ = some (Value.slice g4a g4n g4c) := GOT_38.cell 13
  have cGOT_38_14 : _ = some (Value.slice g4b g4m g4d) := GOT_38.cell 14
  have cGOT_38_15 : _ = some (Value.bool (decide ((o1).num < 0))) := GOT_38.cell 15
  have cGOT_38_16 : _ = some (Value.slice g5a g5n g5c) := GOT_38.cell 16
  have cGOT_38_17 : _ = some (Value.slice g5b g5m g5d) := GOT_38.cell 17
  have cGOT_38_18 : _ = some (Value.bool (decide ((o6).num < 0))) := GOT_38.cell 18
  have cGOT_38_19 : _ = some (Value.slice g6a g6n g6c) := GOT_38.cell 19
  have cGOT_38_20 : _ = some (Value.slice g6b g6m g6d) := GOT_38.cell 20
  have cGOT_38_21 : _ = some (Value.bool (decide ((o3).num < 0))) := GOT_38.cell 21
  have cGOT_38_22 : _ = some (Value.slice g7a g7n g7c) := GOT_38.cell 22
  have cGOT_38_23 : _ = some (Value.slice g7b g7m g7d) := GOT_38.cell 23
  have cGOT_38_24 : _ = some (Value.bool (decide ((o8).num < 0))) := GOT_38.cell 24
  have cGOT_38_25 : _ = some (Value.slice g8a g8n g8c) := GOT_38.cell 25
  have cGOT_38_26 : _ = some (Value.slice g8b g8m g8d) := GOT_38.cell 26
  have cGOT_38_27 : _ = some (Value.bool (decide ((o9).num < 0))) := GOT_38.cell 27
  have cGOT_38_28 : _ = some (Value.slice g9a g9n g9c) := GOT_38.cell 28
  have cGOT_38_29 : _ = some (Value.slice g9b g9m g9d) := GOT_38.cell 29
  have WANT_38 := WANT_37.next hB_38
  have cWANT_38_0 : _ = some (Value.bool (decide ((o0).num < 0))) := WANT_38.cell 0
  have cWANT_38_1 : _ = some (Value.slice h0a h0n h0c) := WANT_38.cell 1
  have cWANT_38_2 : _ = some (Value.slice h0b h0m h0d) := WANT_38.cell 2
  have cWANT_38_3 : _ = some (Value.bool (decide ((o1).num < 0))) := WANT_38.cell 3
  have cWANT_38_4 : _ = some (Value.slice h1a h1n h1c) := WANT_38.cell 4
  have cWANT_38_5 : _ = some (Value.slice h1b h1m h1d) := WANT_38.cell 5
  have cWANT_38_6 : _ = some (Value.bool (decide ((o2).num < 0))) := WANT_38.cell 6
  have cWANT_38_7 : _ = some (Value.slice h2a h2n h2c) := WANT_38.cell 7
  have cWANT_38_8 : _ = some (Value.slice h2b h2m h2d) := WANT_38.cell 8
  have cWANT_38_9 : _ = some (Value.bool (decide ((o3).num < 0))) := WANT_38.cell 9
  have cWANT_38_10 : _ = some (Value.slice h3a h3n h3c) := WANT_38.cell 10
  have cWANT_38_11 : _ = some (Value.slice h3b h3m h3d) := WANT_38.cell 11
  have cWANT_38_12 : _ = some (Value.bool (decide ((o0).num < 0))) := WANT_38.cell 12
  have cWANT_38_13 : _ = some (Value.slice h4a h4n h4c) := WANT_38.cell 13
  have cWANT_38_14 : _ = some (Value.slice h4b h4m h4d) := WANT_38.cell 14
  have cWANT_38_15 : _ = some (Value.bool (decide ((o1).num < 0))) := WANT_38.cell 15
  have cWANT_38_16 : _ = some (Value.slice h5a h5n h5c) := WANT_38.cell 16
  have cWANT_38_17 : _ = some (Value.slice h5b h5m h5d) := WANT_38.cell 17
  have cWANT_38_18 : _ = some (Value.bool (decide ((o6).num < 0))) := WANT_38.cell 18
  have cWANT_38_19 : _ = some (Value.slice h6a h6n h6c) := WANT_38.cell 19
  have cWANT_38_20 : _ = some (Value.slice h6b h6m h6d) := WANT_38.cell 20
  have cWANT_38_21 : _ = some (Value.bool (decide ((o3).num < 0))) := WANT_38.cell 21
  have cWANT_38_22 : _ = some (Value.slice h7a h7n h7c) := WANT_38.cell 22
  have cWANT_38_23 : _ = some (Value.slice h7b h7m h7d) := WANT_38.cell 23
  have cWANT_38_24 : _ = some (Value.bool (decide ((o8).num < 0))) := WANT_38.cell 24
  have cWANT_38_25 : _ = some (Value.slice h8a h8n h8c) := WANT_38.cell 25
  have cWANT_38_26 : _ = some (Value.slice h8b h8m h8d) := WANT_38.cell 26
  have cWANT_38_27 : _ = some (Value.bool (decide ((o9).num < 0))) := WANT_38.cell 27
  have cWANT_38_28 : _ = some (Value.slice h9a h9n h9c) := WANT_38.cell 28
  have cWANT_38_29 : _ = some (Value.slice h9b h9m h9d) := WANT_38.cell 29
  have EM_38 := EM_37.below hB_38
  have hbM_38 := hbM_37.next hB_38
  have QX_38 := QX_37.below hB_38
  have QP_38 := QP_37.below hB_38
  have QY_38 := QY_37.below hB_38
  have QR_38 := QR_37.below hB_38
  have RG_38 := RG_37.below hB_38
  have RW_38 := RW_37.below hB_38
  have hbel_38 := hbel_37.next hB_38
  have hsz_38 := hB_38.size
  clear X_37 cX_37_0 fX_37_0 cX_37_1 fX_37_1 cX_37_2 fX_37_2 Y_37 cY_37_0 fY_37_0 cY_37_1 fY_37_1 cY_37_2 fY_37_2 P_37 cP_37_0 cP_37_1 cP_37_2 R_37 cR_37_0 cR_37_1 cR_37_2 E_37 G_37 GOT_37 cGOT_37_0 cGOT_37_1 cGOT_37_2 cGOT_37_3 cGOT_37_4 cGOT_37_5 cGOT_37_6 cGOT_37_7 cGOT_37_8 cGOT_37_9 cGOT_37_10 cGOT_37_11 cGOT_37_12 cGOT_37_13 cGOT_37_14 cGOT_37_15 cGOT_37_16 cGOT_37_17 cGOT_37_18 cGOT_37_19 cGOT_37_20 cGOT_37_21 cGOT_37_22 cGOT_37_23 cGOT_37_24 cGOT_37_25 cGOT_37_26 cGOT_37_27 cGOT_37_28 cGOT_37_29 WANT_37 cWANT_37_0 cWANT_37_1 cWANT_37_2 cWANT_37_3 cWANT_37_4 cWANT_37_5 cWANT_37_6 cWANT_37_7 cWANT_37_8 cWANT_37_9 cWANT_37_10 cWANT_37_11 cWANT_37_12 cWANT_37_13 cWANT_37_14 cWANT_37_15 cWANT_37_16 cWANT_37_17 cWANT_37_18 cWANT_37_19 cWANT_37_20 cWANT_37_21 cWANT_37_22 cWANT_37_23 cWANT_37_24 cWANT_37_25 cWANT_37_26 cWANT_37_27 cWANT_37_28 cWANT_37_29 EM_37 hbM_37 QX_37 QP_37 QY_37 QR_37 RG_37 RW_37 hbel_37 hB_38
  have pEM_38 := EM_38.pt0
  (try clear pEM_37)
  try clear hB
  go_wp2_with fail
  refine (samelist RG_38 RW_38 hQS.out (by omega)).mono ?_
  rintro e w39 ⟨rfl, hB⟩
  have hBT : Below w38.heap.size w38 w39 := (bl.next hB)
  have T_39 := hid (T_38.out.below hBT)
  have hbT_39 := hbT_38.next hBT
  clear T_38 hbT_38 hBT
  have hB_39 : Below w38.heap.size w38 w39 := (bl.next hB)
  have X_39 := X_38.next hB_39
  have cX_39_0 : _ = some (Value.bool s) := X_39.cell 0
  have fX_39_0 := X_39.free 0
  have cX_39_1 : _ = some (Value.slice a n1 c) := X_39.cell 1
  have fX_39_1 := X_39.free 1
  have cX_39_2 : _ = some (Value.slice b m1 d) := X_39.cell 2
  have fX_39_2 := X_39.free 2
  have Y_39 := Y_38.next hB_39
  have cY_39_0 : _ = some (Value.bool t) := Y_39.cell 0
  have fY_39_0 := Y_39.free 0
  have cY_39_1 : _ = some (Value.slice a' n2 c') := Y_39.cell 1
  have fY_39_1 := Y_39.free 1
  have cY_39_2 : _ = some (Value.slice b' m2 d') := Y_39.cell 2
  have fY_39_2 := Y_39.free 2
  have P_39 := P_38.next hB_39
  have cP_39_0 : _ = some (Value.bool s) := P_39.cell 0
  have cP_39_1 : _ = some (Value.slice pa n1 pc) := P_39.cell 1
  have cP_39_2 : _ = some (Value.slice pb m1 pd) := P_39.cell 2
  have R_39 := R_38.next hB_39
  have cR_39_0 : _ = some (Value.bool t) := R_39.cell 0
  have cR_39_1 : _ = some (Value.slice ra n2 rc) := R_39.cell 1
  have cR_39_2 : _ = some (Value.slice rb m2 rd) := R_39.cell 2
  have E_39 := E_38.next hB_39
  have G_39 := G_38.next hB_39
  have GOT_39 := GOT_38.next hB_39
  have cGOT_39_0 : _ = some (Value.bool (decide ((o0).num < 0))) := GOT_39.cell 0
  have cGOT_39_1 : _ = some (Value.slice g0a g0n g0c) := GOT_39.cell 1
  have cGOT_39_2 : _ = some (Value.slice g0b g0m g0d) := GOT_39.cell 2
  have cGOT_39_3 : _ = some (Value.bool (decide ((o1).num < 0))) := GOT_39.cell 3
  have cGOT_39_4 : _ = some (Value.slice g1a g1n g1c) := GOT_39.cell 4
  have cGOT_39_5 : _ = some (Value.slice g1b g1m g1d) := GOT_39.cell 5
  have cGOT_39_6 : _ = some (Value.bool (decide ((o2).num < 0))) := GOT_39.cell 6
  have cGOT_39_7 : _ = some (Value.slice g2a g2n g2c) := GOT_39.cell 7
  have cGOT_39_8 : _ = some (Value.slice g2b g2m g2d) := GOT_39.cell 8
  have cGOT_39_9 : _ = some (Value.bool (decide ((o3).num < 0))) := GOT_39.cell 9
  have cGOT_39_10 : _ = some (Value.slice g3a g3n g3c) := GOT_39.cell 10
  have cGOT_39_11 : _ = some (Value.slice g3b g3m g3d) := GOT_39.cell 11
  have cGOT_39_12 : _ = some (Value.bool (decide ((o0).num < 0))) := GOT_39.cell 12
  have cGOT_39_13 : _ = some (Value.slice g4a g4n g4c) := GOT_39.cell 13
  have cGOT_39_14 : _ = some (Value.slice g4b g4m g4d) := GOT_39.cell 14
  have cGOT_39_15 : _ = some (Value.bool (decide ((o1).num < 0))) := GOT_39.cell 15
  have cGOT_39_16 : _ = some (Value.slice g5a g5n g5c) := GOT_39.cell 16
  have cGOT_39_17 : _ = some (Value.slice g5b g5m g5d) := GOT_39.cell 17
  have cGOT_39_18 : _ = some (Value.bool (decide ((o6).num < 0))) := GOT_39.cell 18
  have cGOT_39_19 : _ = some (Value.slice g6a g6n g6c) := GOT_39.cell 19
  have cGOT_39_20 : _ = some (Value.slice g6b g6m g6d) := GOT_39.cell 20
  have cGOT_39_21 : _ = some (Value.bool (decide ((o3).num < 0))) := GOT_39.cell 21
  have cGOT_39_22 : _ = some (Value.slice g7a g7n g7c) := GOT_39.cell 22
  have cGOT_39_23 : _ = some (Value.slice g7b g7m g7d) := GOT_39.cell 23
  have cGOT_39_24 : _ = some (Value.bool (decide ((o8).num < 0))) := GOT_39.cell 24
  have cGOT_39_25 : _ = some (Value.slice g8a g8n g8c) := GOT_39.cell 25
  have cGOT_39_26 : _ = some (Value.slice g8b g8m g8d) := GOT_39.cell 26
  have cGOT_39_27 : _ = some (Value.bool (decide ((o9).num < 0))) := GOT_39.cell 27
  have cGOT_39_28 : _ = some (Value.slice g9a g9n g9c) := GOT_39.cell 28
  have cGOT_39_29 : _ = some (Value.slice g9b g9m g9d) := GOT_39.cell 29
  have WANT_39 := WANT_38.next hB_39
  have cWANT_39_0 : _ = some (Value.bool (decide ((o0).num < 0))) := WANT_39.cell 0
  have cWANT_39_1 : _ = some (Value.slice h0a h0n h0c) := WANT_39.cell 1
  have cWANT_39_2 : _ = some (Value.slice h0b h0m h0d) := WANT_39.cell 2
  have cWANT_39_3 : _ = some (Value.bool (decide ((o1).num < 0))) := WANT_39.cell 3
  have cWANT_39_4 : _ = some (Value.slice h1a h1n h1c) := WANT_39.cell 4
  have cWANT_39_5 : _ = some (Value.slice h1b h1m h1d) := WANT_39.cell 5
  have cWANT_39_6 : _ = some (Value.bool (decide ((o2).num < 0))) := WANT_39.cell 6
  have cWANT_39_7 : _ = some (Value.slice h2a h2n h2c) := WANT_39.cell 7
  have cWANT_39_8 : _ = some (Value.slice h2b h2m h2d) := WANT_39.cell 8
  have cWANT_39_9 : _ = some (Value.bool (decide ((o3).num < 0))) := WANT_39.cell 9
  have cWANT_39_10 : _ = some (Value.slice h3a h3n h3c) := WANT_39.cell 10
  have cWANT_39_11 : _ = some (Value.slice h3b h3m h3d) := WANT_39.cell 11
  have cWANT_39_12 : _ = some (Value.bool (decide ((o0).num < 0))) := WANT_39.cell 12
  have cWANT_39_13 : _ = some (Value.slice h4a h4n h4c) := WANT_39.cell 13
  have cWANT_39_14 : _ = some (Value.slice h4b h4m h4d) := WANT_39.cell 14
  have cWANT_39_15 : _ = some (Value.bool (decide ((o1).num < 0))) := WANT_39.cell 15
  have cWANT_39_16 : _ = some (Value.slice h5a h5n h5c) := WANT_39.cell 16
  have cWANT_39_17 : _ = some (Value.slice h5b h5m h5d) := WANT_39.cell 17
  have cWANT_39_18 : _ = some (Value.bool (decide ((o6).num < 0))) := WANT_39.cell 18
  have cWANT_39_19 : _ = some (Value.slice h6a h6n h6c) := WANT_39.cell 19
  have cWANT_39_20 : _ = some (Value.slice h6b h6m h6d) := WANT_39.cell 20
  have cWANT_39_21 : _ = some (Value.bool (decide ((o3).num < 0))) := WANT_39.cell 21
  have cWANT_39_22 : _ = some (Value.slice h7a h7n h7c) := WANT_39.cell 22
  have cWANT_39_23 : _ = some (Value.slice h7b h7m h7d) := WANT_39.cell 23
  have cWANT_39_24 : _ = some (Value.bool (decide ((o8).num < 0))) := WANT_39.cell 24
  have cWANT_39_25 : _ = some (Value.slice h8a h8n h8c) := WANT_39.cell 25
  have cWANT_39_26 : _ = some (Value.slice h8b h8m h8d) := WANT_39.cell 26
  have cWANT_39_27 : _ = some (Value.bool (decide ((o9).num < 0))) := WANT_39.cell 27
  have cWANT_39_28 : _ = some (Value.slice h9a h9n h9c) := WANT_39.cell 28
  have cWANT_39_29 : _ = some (Value.slice h9b h9m h9d) := WANT_39.cell 29
  have EM_39 := EM_38.below hB_39
  have hbM_39 := hbM_38.next hB_39
  have QX_39 := QX_38.below hB_39
  have QP_39 := QP_38.below hB_39
  have QY_39 := QY_38.below hB_39
  have QR_39 := QR_38.below hB_39
  have RG_39 := RG_38.below hB_39
  have RW_39 := RW_38.below hB_39
  have hbel_39 := hbel_38.next hB_39
  have hsz_39 := hB_39.size
  clear X_38 cX_38_0 fX_38_0 cX_38_1 fX_38_1 cX_38_2 fX_38_2 Y_38 cY_38_0 fY_38_0 cY_38_1 fY_38_1 cY_38_2 fY_38_2 P_38 cP_38_0 cP_38_1 cP_38_2 R_38 cR_38_0 cR_38_1 cR_38_2 E_38 G_38 GOT_38 cGOT_38_0 cGOT_38_1 cGOT_38_2 cGOT_38_3 cGOT_38_4 cGOT_38_5 cGOT_38_6 cGOT_38_7 cGOT_38_8 cGOT_38_9 cGOT_38_10 cGOT_38_11 cGOT_38_12 cGOT_38_13 cGOT_38_14 cGOT_38_15 cGOT_38_16 cGOT_38_17 cGOT_38_18 cGOT_38_19 cGOT_38_20 cGOT_38_21 cGOT_38_22 cGOT_38_23 cGOT_38_24 cGOT_38_25 cGOT_38_26 cGOT_38_27 cGOT_38_28 cGOT_38_29 WANT_38 cWANT_38_0 cWANT_38_1 cWANT_38_2 cWANT_38_3 cWANT_38_4 cWANT_38_5 cWANT_38_6 cWANT_38_7 cWANT_38_8 cWANT_38_9 cWANT_38_10 cWANT_38_11 cWANT_38_12 cWANT_38_13 cWANT_38_14 cWANT_38_15 cWANT_38_16 cWANT_38_17 cWANT_38_18 cWANT_38_19 cWANT_38_20 cWANT_38_21 cWANT_38_22 cWANT_38_23 cWANT_38_24 cWANT_38_25 cWANT_38_26 cWANT_38_27 cWANT_38_28 cWANT_38_29 EM_38 hbM_38 QX_38 QP_38 QY_38 QR_38 RG_38 RW_38 hbel_38 hB_39
  have pEM_39 := EM_39.pt0
  (try clear pEM_38)
  try clear hB
  clear hQS
  obtain ⟨TL, hTL⟩ : ∃ l : List It, l = [⟨g9b, g9m, g9d, lm o9.den⟩, ⟨g9a, g9n, g9c, lm o9.num.natAbs⟩, ⟨g8b, g8m, g8d, lm o8.den⟩, ⟨g8a, g8n, g8c, lm o8.num.natAbs⟩, ⟨g7b, g7m, g7d, lm o3.den⟩, ⟨g7a, g7n, g7c, lm o3.num.natAbs⟩, ⟨g6b, g6m, g6d, lm o6.den⟩, ⟨g6a, g6n, g6c, lm o6.num.natAbs⟩, ⟨g5b, g5m, g5d, lm o1.den⟩, ⟨g5a, g5n, g5c, lm o1.num.natAbs⟩, ⟨g4b, g4m, g4d, lm o0.den⟩, ⟨g4a, g4n, g4c, lm o0.num.natAbs⟩, ⟨g3b, g3m, g3d, lm o3.den⟩, ⟨g3a, g3n, g3c, lm o3.num.natAbs⟩, ⟨g2b, g2m, g2d, lm o2.den⟩, ⟨g2a, g2n, g2c, lm o2.num.natAbs⟩, ⟨g1b, g1m, g1d, lm o1.den⟩, ⟨g1a, g1n, g1c, lm o1.num.natAbs⟩, ⟨g0b, g0m, g0d, lm o0.den⟩, ⟨g0a, g0n, g0c, lm o0.num.natAbs⟩] := ⟨_, rfl⟩
  have HT := hid (show Told2 vM.heap.size w39 TL from hTL ▸ T_39.out)
  have hm2 : ∀ i ∈ ([19, 18, 17, 16, 15, 14, 13, 12, 11, 10, 9, 8, 7, 6, 5, 4, 3, 2, 1, 0] : List Nat), i < TL.length := by rw [hTL]; show ∀ i ∈ ([19, 18, 17, 16, 15, 14, 13, 12, 11, 10, 9, 8, 7, 6, 5, 4, 3, 2, 1, 0] : List Nat), i < 20; decide
  have hRG := rgot_told HT.out.1 ([19, 18, 17, 16, 15, 14, 13, 12, 11, 10, 9, 8, 7, 6, 5, 4, 3, 2, 1, 0] : List Nat) (K := 10) rfl (by decide) hm2 (Below.refl _ _) GOT_39 (by
    subst hTL; intro i hi
    rcases (by omega : i = 0 ∨ i = 1 ∨ i = 2 ∨ i = 3 ∨ i = 4 ∨ i = 5 ∨ i = 6 ∨ i = 7 ∨ i = 8 ∨ i = 9) with rfl | rfl | rfl | rfl | rfl | rfl | rfl | rfl | rfl | rfl
    · exact ⟨rfl, rfl⟩
    · exact ⟨rfl, rfl⟩
    · exact ⟨rfl, rfl⟩
    · exact ⟨rfl, rfl⟩
    · exact ⟨rfl, rfl⟩
    · exact ⟨rfl, rfl⟩
    · exact ⟨rfl, rfl⟩
    · exact ⟨rfl, rfl⟩
    · exact ⟨rfl, rfl⟩
    · exact ⟨rfl, rfl⟩)
  have HN : ∀ i, i < 2 * 10 → (TL.getD (([19, 18, 17, 16, 15, 14, 13, 12, 11, 10, 9, 8, 7, 6, 5, 4, 3, 2, 1, 0] : List Nat).getD i 0) It.d).n ≤ 268435456 := told_n HT.out ([19, 18, 17, 16, 15, 14, 13, 12, 11, 10, 9, 8, 7, 6, 5, 4, 3, 2, 1, 0] : List Nat) (K := 10) rfl hm2
  have hBK := hid (fun (w' : World) (hk : Kp (fun b => ∃ i, i < 2 * 10 ∧ (TL.getD (([19, 18, 17, 16, 15, 14, 13, 12, 11, 10, 9, 8, 7, 6, 5, 4, 3, 2, 1, 0] : List Nat).getD i 0) It.d).a = some ⟨b, 0, none⟩) w39 w') => below_told hbM_39 HT.out.1 ([19, 18, 17, 16, 15, 14, 13, 12, 11, 10, 9, 8, 7, 6, 5, 4, 3, 2, 1, 0] : List Nat) (K := 10) rfl hm2 hk)
  clear hTL hm2 HT
  go_wp2_with fail
  refine (ownrats_any (c := 10) hRG (by omega) (by omega) (by omega) (by unfold maxLen; omega) HN).mono ?_
  rintro e wo ⟨rfl, hK⟩
  have hM := hBK.out _ hK
  clear hRG hK HN hBK T_39 hbT_39
  have hbM_40 := hM
  have X_40 := mX.out.next hbM_40
  have Y_40 := mY.out.next hbM_40
  have P_40 := mP.out.next hbM_40
  have R_40 := mR.out.next hbM_40
  have E_40 := mE.out.next hbM_40
  have G_40 := mG.out.next hbM_40
  have A_40 := mA.out.below hbM_40
  have B_40 := mB.out.below hbM_40
  have C_40 := mC.out.below hbM_40
  have D_40 := mD.out.below hbM_40
  have L_40 := mL.out.below hbM_40
  have M_40 := mM.out.below hbM_40
  have N_40 := mN.out.below hbM_40
  have O_40 := mO.out.below hbM_40
  have EM_40 := mEM.out.below hbM_40
  have hbel_40 := mhbel.out.next hbM_40
  have hsz_40 := hbM_40.size
  clear X_39 Y_39 P_39 R_39 E_39 G_39 GOT_39 WANT_39 cX_39_0 fX_39_0 cX_39_1 fX_39_1 cX_39_2 fX_39_2 cY_39_0 fY_39_0 cY_39_1 fY_39_1 cY_39_2 fY_39_2 cP_39_0 cP_39_1 cP_39_2 cR_39_0 cR_39_1 cR_39_2 cGOT_39_0 cGOT_39_1 cGOT_39_2 cGOT_39_3 cGOT_39_4 cGOT_39_5 cGOT_39_6 cGOT_39_7 cGOT_39_8 cGOT_39_9 cGOT_39_10 cGOT_39_11 cGOT_39_12 cGOT_39_13 cGOT_39_14 cGOT_39_15 cGOT_39_16 cGOT_39_17 cGOT_39_18 cGOT_39_19 cGOT_39_20 cGOT_39_21 cGOT_39_22 cGOT_39_23 cGOT_39_24 cGOT_39_25 cGOT_39_26 cGOT_39_27 cGOT_39_28 cGOT_39_29 cWANT_39_0 cWANT_39_1 cWANT_39_2 cWANT_39_3 cWANT_39_4 cWANT_39_5 cWANT_39_6 cWANT_39_7 cWANT_39_8 cWANT_39_9 cWANT_39_10 cWANT_39_11 cWANT_39_12 cWANT_39_13 cWANT_39_14 cWANT_39_15 cWANT_39_16 cWANT_39_17 cWANT_39_18 cWANT_39_19 cWANT_39_20 cWANT_39_21 cWANT_39_22 cWANT_39_23 cWANT_39_24 cWANT_39_25 cWANT_39_26 cWANT_39_27 cWANT_39_28 cWANT_39_29 EM_39 hbM_39 QX_39 QP_39 QY_39 QR_39 RG_39 RW_39 hbel_39
  have cX_40_0 : _ = some (Value.bool s) := X_40.cell 0
  have fX_40_0 := X_40.free 0
  have cX_40_1 : _ = some (Value.slice a n1 c) := X_40.cell 1
  have fX_40_1 := X_40.free 1
  have cX_40_2 : _ = some (Value.slice b m1 d) := X_40.cell 2
  have fX_40_2 := X_40.free 2
  have cY_40_0 : _ = some (Value.bool t) := Y_40.cell 0
  have fY_40_0 := Y_40.free 0
  have cY_40_1 : _ = some (Value.slice a' n2 c') := Y_40.cell 1
  have fY_40_1 := Y_40.free 1
  have cY_40_2 : _ = some (Value.slice b' m2 d') := Y_40.cell 2
  have fY_40_2 := Y_40.free 2
  have cP_40_0 : _ = some (Value.bool s) := P_40.cell 0
  have cP_40_1 : _ = some (Value.slice pa n1 pc) := P_40.cell 1
  have cP_40_2 : _ = some (Value.slice pb m1 pd) := P_40.cell 2
  have cR_40_0 : _ = some (Value.bool t) := R_40.cell 0
  have cR_40_1 : _ = some (Value.slice ra n2 rc) := R_40.cell 1
  have cR_40_2 : _ = some (Value.slice rb m2 rd) := R_40.cell 2
  clear hM
  go_wp2_with fail
  refine (fkept L_40 M_40 A_40 B_40).mono ?_
  rintro e w41 ⟨rfl, hB⟩
  have hB_41 : Below wo.heap.size wo w41 := (bl.next hB)
  have X_41 := X_40.next hB_41
  have cX_41_0 : _ = some (Value.bool s) := X_41.cell 0
  have fX_41_0 := X_41.free 0
  have cX_41_1 : _ = some (Value.slice a n1 c) := X_41.cell 1
  have fX_41_1 := X_41.free 1
  have cX_41_2 : _ = some (Value.slice b m1 d) := X_41.cell 2
  have fX_41_2 := X_41.free 2
  have Y_41 := Y_40.next hB_41
  have cY_41_0 : _ = some (Value.bool t) := Y_41.cell 0
  have fY_41_0 := Y_41.free 0
  have cY_41_1 : _ = some (Value.slice a' n2 c') := Y_41.cell 1
  have fY_41_1 := Y_41.free 1
  have cY_41_2 : _ = some (Value.slice b' m2 d') := Y_41.cell 2
  have fY_41_2 := Y_41.free 2
  have P_41 := P_40.next hB_41
  have cP_41_0 : _ = some (Value.bool s) := P_41.cell 0
  have cP_41_1 : _ = some (Value.slice pa n1 pc) := P_41.cell 1
  have cP_41_2 : _ = some (Value.slice pb m1 pd) := P_41.cell 2
  have R_41 := R_40.next hB_41
  have cR_41_0 : _ = some (Value.bool t) := R_41.cell 0
  have cR_41_1 : _ = some (Value.slice ra n2 rc) := R_41.cell 1
  have cR_41_2 : _ = some (Value.slice rb m2 rd) := R_41.cell 2
  have E_41 := E_40.next hB_41
  have G_41 := G_40.next hB_41
  have A_41 := A_40.below hB_41
  have B_41 := B_40.below hB_41
  have C_41 := C_40.below hB_41
  have D_41 := D_40.below hB_41
  have L_41 := L_40.below hB_41
  have M_41 := M_40.below hB_41
  have N_41 := N_40.below hB_41
  have O_41 := O_40.below hB_41
  have EM_41 := EM_40.below hB_41
  have hbM_41 := hbM_40.next hB_41
  have hbel_41 := hbel_40.next hB_41
  have hsz_41 := hB_41.size
  clear X_40 cX_40_0 fX_40_0 cX_40_1 fX_40_1 cX_40_2 fX_40_2 Y_40 cY_40_0 fY_40_0 cY_40_1 fY_40_1 cY_40_2 fY_40_2 P_40 cP_40_0 cP_40_1 cP_40_2 R_40 cR_40_0 cR_40_1 cR_40_2 E_40 G_40 A_40 B_40 C_40 D_40 L_40 M_40 N_40 O_40 EM_40 hbM_40 hbel_40 hB_41
  have pEM_41 := EM_41.pt0
  (try clear pEM_40)
  try clear hB
  go_wp2_with fail
  refine (fkept N_41 O_41 C_41 D_41).mono ?_
  rintro e w42 ⟨rfl, hB⟩
  have hB_42 : Below w41.heap.size w41 w42 := (bl.next hB)
  have X_42 := X_41.next hB_42
  have cX_42_0 : _ = some (Value.bool s) := X_42.cell 0
  have fX_42_0 := X_42.free 0
  have cX_42_1 : _ = some (Value.slice a n1 c) := X_42.cell 1
  have fX_42_1 := X_42.free 1
  have cX_42_2 : _ = some (Value.slice b m1 d) := X_42.cell 2
  have fX_42_2 := X_42.free 2
  have Y_42 := Y_41.next hB_42
  have cY_42_0 : _ = some (Value.bool t) := Y_42.cell 0
  have fY_42_0 := Y_42.free 0
  have cY_42_1 : _ = some (Value.slice a' n2 c') := Y_42.cell 1
  have fY_42_1 := Y_42.free 1
  have cY_42_2 : _ = some (Value.slice b' m2 d') := Y_42.cell 2
  have fY_42_2 := Y_42.free 2
  have P_42 := P_41.next hB_42
  have cP_42_0 : _ = some (Value.bool s) := P_42.cell 0
  have cP_42_1 : _ = some (Value.slice pa n1 pc) := P_42.cell 1
  have cP_42_2 : _ = some (Value.slice pb m1 pd) := P_42.cell 2
  have R_42 := R_41.next hB_42
  have cR_42_0 : _ = some (Value.bool t) := R_42.cell 0
  have cR_42_1 : _ = some (Value.slice ra n2 rc) := R_42.cell 1
  have cR_42_2 : _ = some (Value.slice rb m2 rd) := R_42.cell 2
  have E_42 := E_41.next hB_42
  have G_42 := G_41.next hB_42
  have A_42 := A_41.below hB_42
  have B_42 := B_41.below hB_42
  have C_42 := C_41.below hB_42
  have D_42 := D_41.below hB_42
  have L_42 := L_41.below hB_42
  have M_42 := M_41.below hB_42
  have N_42 := N_41.below hB_42
  have O_42 := O_41.below hB_42
  have EM_42 := EM_41.below hB_42
  have hbM_42 := hbM_41.next hB_42
  have hbel_42 := hbel_41.next hB_42
  have hsz_42 := hB_42.size
  clear X_41 cX_41_0 fX_41_0 cX_41_1 fX_41_1 cX_41_2 fX_41_2 Y_41 cY_41_0 fY_41_0 cY_41_1 fY_41_1 cY_41_2 fY_41_2 P_41 cP_41_0 cP_41_1 cP_41_2 R_41 cR_41_0 cR_41_1 cR_41_2 E_41 G_41 A_41 B_41 C_41 D_41 L_41 M_41 N_41 O_41 EM_41 hbM_41 hbel_41 hB_42
  have pEM_42 := EM_42.pt0
  (try clear pEM_41)
  try clear hB
  go_wp2
  go_ret
  exact ⟨rfl, hbel_42⟩

end Go.Proofs.YtgddnmmllchndaaGreat
