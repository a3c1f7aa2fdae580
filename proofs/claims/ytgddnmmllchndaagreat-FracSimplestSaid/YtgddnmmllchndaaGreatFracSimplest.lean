/- THE WALK OF credencelaw03.FracSimplest: of any two fractions the simplest from the one to the other, or the error. -/
import Derived.Test.YtgddnmmllchndaaGreatQn
import Derived.Test.YtgddnmmllchndaaGreatRd3
import Derived.Test.YtgddnmmllchndaaGreatRb3
namespace Go.Proofs.YtgddnmmllchndaaGreat
set_option linter.unusedVariables false
set_option linter.unusedSimpArgs false
open Go.ChangeShapes Go.WideShapes Go.ChangeAt Go.RowKit Go.NatP

theorem spl_er {a b : Rat} {J : Nat} (hJ : 1 ≤ J) (ha : QS a J) (hb : QS b J) : (qnl (spl a b) (spE a b)).length ≤ J ∧ (qdl (spl a b) (spE a b)).length ≤ J := by
  unfold spE
  by_cases h : b < a
  · rw [if_pos h]; exact ⟨Nat.zero_le _, Nat.zero_le _⟩
  · rw [if_neg h]
    have := spl_qs hJ (Rat.not_lt.1 h) ha hb
    exact ⟨this.len1, this.len2⟩

set_option maxRecDepth 100000 in
set_option maxHeartbeats 32000000 in
theorem fracSimplest_walk {w : World} {a b a' b' : Option Addr} {n c m d n' c' m' d' : Nat} {la lb la' lb' : List Nat} (s : Bool) (ha : Rd w a n c la) (hb : Rd w b m d lb) (t : Bool) (ha' : Rd w a' n' c' la') (hb' : Rd w b' m' d' lb') :
    Calls Tryz.prog 12 #[.agg #[.bool s, .slice a n c, .slice b m d], .agg #[.bool t, .slice a' n' c', .slice b' m' d']] w (fun e w' => e = .returned (.bool true) ∧ Below w.heap.size w w') := by
  have HA := hid ha
  have HB := hid hb
  have HC := hid ha'
  have HD := hid hb'
  have hent := ent2 w #[Value.bool s, Value.slice a n c, Value.slice b m d] #[Value.bool t, Value.slice a' n' c', Value.slice b' m' d'] 38 38
  go_enter Tryz.func12, Tryz.ntmps12
  go_wp2_with fail
  generalize ((w.alloc (.cells #[Value.bool s, Value.slice a n c, Value.slice b m d] 38)).alloc (.cells #[Value.bool t, Value.slice a' n' c', Value.slice b' m' d'] 38)) = W0 at hent ⊢
  obtain ⟨X_0, Y_0, hbel_0, hsz_0⟩ := hent
  have cX_0_0 : _ = some (Value.bool s) := X_0.cell 0
  have fX_0_0 := X_0.free 0
  have cX_0_1 : _ = some (Value.slice a n c) := X_0.cell 1
  have fX_0_1 := X_0.free 1
  have cX_0_2 : _ = some (Value.slice b m d) := X_0.cell 2
  have fX_0_2 := X_0.free 2
  have cY_0_0 : _ = some (Value.bool t) := Y_0.cell 0
  have fY_0_0 := Y_0.free 0
  have cY_0_1 : _ = some (Value.slice a' n' c') := Y_0.cell 1
  have fY_0_1 := Y_0.free 1
  have cY_0_2 : _ = some (Value.slice b' m' d') := Y_0.cell 2
  have fY_0_2 := Y_0.free 2
  have ha_0 := ha.below hbel_0
  clear ha
  have hb_0 := hb.below hbel_0
  clear hb
  have ha'_0 := ha'.below hbel_0
  clear ha'
  have hb'_0 := hb'.below hbel_0
  clear hb'
  go_wp2_with fail
  refine (fawake).mono ?_
  rintro e w1 ⟨rfl, hB⟩
  have hB_1 : Below W0.heap.size W0 w1 := (bl.next hB)
  have X_1 := X_0.next hB_1
  have cX_1_0 : _ = some (Value.bool s) := X_1.cell 0
  have fX_1_0 := X_1.free 0
  have cX_1_1 : _ = some (Value.slice a n c) := X_1.cell 1
  have fX_1_1 := X_1.free 1
  have cX_1_2 : _ = some (Value.slice b m d) := X_1.cell 2
  have fX_1_2 := X_1.free 2
  have Y_1 := Y_0.next hB_1
  have cY_1_0 : _ = some (Value.bool t) := Y_1.cell 0
  have fY_1_0 := Y_1.free 0
  have cY_1_1 : _ = some (Value.slice a' n' c') := Y_1.cell 1
  have fY_1_1 := Y_1.free 1
  have cY_1_2 : _ = some (Value.slice b' m' d') := Y_1.cell 2
  have fY_1_2 := Y_1.free 2
  have ha_1 := ha_0.below hB_1
  have hb_1 := hb_0.below hB_1
  have ha'_1 := ha'_0.below hB_1
  have hb'_1 := hb'_0.below hB_1
  have hbel_1 := hbel_0.next hB_1
  have hsz_1 := hB_1.size
  clear X_0 cX_0_0 fX_0_0 cX_0_1 fX_0_1 cX_0_2 fX_0_2 Y_0 cY_0_0 fY_0_0 cY_0_1 fY_0_1 cY_0_2 fY_0_2 ha_0 hb_0 ha'_0 hb'_0 hbel_0 hB_1
  try clear hB
  go_wp2_with fail
  refine (fcut 8 (by omega) ha_1 hb_1).mono ?_
  rintro e w2 ⟨n1, l1, m1, k1, rfl, hn1, hm1, hln1, hlm1, hR, hR', hB⟩
  have hB_2 : Below w1.heap.size w1 w2 := (bl.next hB)
  have X_2 := X_1.next hB_2
  have cX_2_0 : _ = some (Value.bool s) := X_2.cell 0
  have fX_2_0 := X_2.free 0
  have cX_2_1 : _ = some (Value.slice a n c) := X_2.cell 1
  have fX_2_1 := X_2.free 1
  have cX_2_2 : _ = some (Value.slice b m d) := X_2.cell 2
  have fX_2_2 := X_2.free 2
  have Y_2 := Y_1.next hB_2
  have cY_2_0 : _ = some (Value.bool t) := Y_2.cell 0
  have fY_2_0 := Y_2.free 0
  have cY_2_1 : _ = some (Value.slice a' n' c') := Y_2.cell 1
  have fY_2_1 := Y_2.free 1
  have cY_2_2 : _ = some (Value.slice b' m' d') := Y_2.cell 2
  have fY_2_2 := Y_2.free 2
  have ha_2 := ha_1.below hB_2
  have hb_2 := hb_1.below hB_2
  have ha'_2 := ha'_1.below hB_2
  have hb'_2 := hb'_1.below hB_2
  have hbel_2 := hbel_1.next hB_2
  have hsz_2 := hB_2.size
  clear X_1 cX_1_0 fX_1_0 cX_1_1 fX_1_1 cX_1_2 fX_1_2 Y_1 cY_1_0 fY_1_0 cY_1_1 fY_1_1 cY_1_2 fY_1_2 ha_1 hb_1 ha'_1 hb'_1 hbel_1 hB_2
  have A_2 := hR
  have B_2 := hR'
  clear hR hR'
  try clear hB
  have hkp := kp_set3 w2 (w.heap.size) (Value.bool s) (Value.slice a n1 c) (Value.slice b m1 d)
  have X_3 := (show Blk _ _ #[Value.bool s, Value.slice a n1 c, Value.slice b m1 d] from (((X_2).setCell (i := 0) (v := Value.bool s) (by simp)).setCell (i := 1) (v := Value.slice a n1 c) (by simp)).setCell (i := 2) (v := Value.slice b m1 d) (by simp))
  have Y_3 := Y_2.set3 (show w.heap.size + 1 ≠ w.heap.size by omega) (Value.bool s) (Value.slice a n1 c) (Value.slice b m1 d)
  have A_3 := HA.out.kp_old hln1 A_2 hkp (fun b hb => by show ¬ (b = _); omega)
  have B_3 := HB.out.kp_old hlm1 B_2 hkp (fun b hb => by show ¬ (b = _); omega)
  have ha'_3 := HC.out.kp_old (Nat.le_refl _) ha'_2 hkp (fun b hb => by show ¬ (b = _); omega)
  have hb'_3 := HD.out.kp_old (Nat.le_refl _) hb'_2 hkp (fun b hb => by show ¬ (b = _); omega)
  have hbel_3 := Below.set3 hbel_2 (show w.heap.size ≤ w.heap.size by omega) (Value.bool s) (Value.slice a n1 c) (Value.slice b m1 d)
  have hsz_3 := hkp.size
  have cX_3_0 : _ = some (Value.bool s) := X_3.cell 0
  have fX_3_0 := X_3.free 0
  have cX_3_1 : _ = some (Value.slice a n1 c) := X_3.cell 1
  have fX_3_1 := X_3.free 1
  have cX_3_2 : _ = some (Value.slice b m1 d) := X_3.cell 2
  have fX_3_2 := X_3.free 2
  have cY_3_0 : _ = some (Value.bool t) := Y_3.cell 0
  have fY_3_0 := Y_3.free 0
  have cY_3_1 : _ = some (Value.slice a' n' c') := Y_3.cell 1
  have fY_3_1 := Y_3.free 1
  have cY_3_2 : _ = some (Value.slice b' m' d') := Y_3.cell 2
  have fY_3_2 := Y_3.free 2
  go_wp2_with fail
  clear X_2 Y_2 cX_2_0 fX_2_0 cX_2_1 fX_2_1 cX_2_2 fX_2_2 cY_2_0 fY_2_0 cY_2_1 fY_2_1 cY_2_2 fY_2_2 ha_2 hb_2 ha'_2 hb'_2 A_2 B_2 hbel_2 hkp
  generalize (((w2.setCell ⟨w.heap.size, 0, none⟩ (Value.bool s)).setCell ⟨w.heap.size, 1, none⟩ (Value.slice a n1 c)).setCell ⟨w.heap.size, 2, none⟩ (Value.slice b m1 d)) = v3 at *
  go_wp2_with fail
  refine (fcut 8 (by omega) ha'_3 hb'_3).mono ?_
  rintro e w4 ⟨n2, l2, m2, k2, rfl, hn2, hm2, hln2, hlm2, hR, hR', hB⟩
  have hB_4 : Below v3.heap.size v3 w4 := (bl.next hB)
  have X_4 := X_3.next hB_4
  have cX_4_0 : _ = some (Value.bool s) := X_4.cell 0
  have fX_4_0 := X_4.free 0
  have cX_4_1 : _ = some (Value.slice a n1 c) := X_4.cell 1
  have fX_4_1 := X_4.free 1
  have cX_4_2 : _ = some (Value.slice b m1 d) := X_4.cell 2
  have fX_4_2 := X_4.free 2
  have Y_4 := Y_3.next hB_4
  have cY_4_0 : _ = some (Value.bool t) := Y_4.cell 0
  have fY_4_0 := Y_4.free 0
  have cY_4_1 : _ = some (Value.slice a' n' c') := Y_4.cell 1
  have fY_4_1 := Y_4.free 1
  have cY_4_2 : _ = some (Value.slice b' m' d') := Y_4.cell 2
  have fY_4_2 := Y_4.free 2
  have A_4 := A_3.below hB_4
  have B_4 := B_3.below hB_4
  have ha'_4 := ha'_3.below hB_4
  have hb'_4 := hb'_3.below hB_4
  have hbel_4 := hbel_3.next hB_4
  have hsz_4 := hB_4.size
  clear X_3 cX_3_0 fX_3_0 cX_3_1 fX_3_1 cX_3_2 fX_3_2 Y_3 cY_3_0 fY_3_0 cY_3_1 fY_3_1 cY_3_2 fY_3_2 A_3 B_3 ha'_3 hb'_3 hbel_3 hB_4
  have C_4 := hR
  have D_4 := hR'
  clear hR hR'
  try clear hB
  have hkp := kp_set3 w4 (w.heap.size + 1) (Value.bool t) (Value.slice a' n2 c') (Value.slice b' m2 d')
  have Y_5 := (show Blk _ _ #[Value.bool t, Value.slice a' n2 c', Value.slice b' m2 d'] from (((Y_4).setCell (i := 0) (v := Value.bool t) (by simp)).setCell (i := 1) (v := Value.slice a' n2 c') (by simp)).setCell (i := 2) (v := Value.slice b' m2 d') (by simp))
  have X_5 := X_4.set3 (show w.heap.size ≠ w.heap.size + 1 by omega) (Value.bool t) (Value.slice a' n2 c') (Value.slice b' m2 d')
  have A_5 := HA.out.kp_old hln1 A_4 hkp (fun b hb => by show ¬ (b = _); omega)
  have B_5 := HB.out.kp_old hlm1 B_4 hkp (fun b hb => by show ¬ (b = _); omega)
  have C_5 := HC.out.kp_old hln2 C_4 hkp (fun b hb => by show ¬ (b = _); omega)
  have D_5 := HD.out.kp_old hlm2 D_4 hkp (fun b hb => by show ¬ (b = _); omega)
  have hbel_5 := Below.set3 hbel_4 (show w.heap.size ≤ w.heap.size + 1 by omega) (Value.bool t) (Value.slice a' n2 c') (Value.slice b' m2 d')
  have hsz_5 := hkp.size
  have cX_5_0 : _ = some (Value.bool s) := X_5.cell 0
  have fX_5_0 := X_5.free 0
  have cX_5_1 : _ = some (Value.slice a n1 c) := X_5.cell 1
  have fX_5_1 := X_5.free 1
  have cX_5_2 : _ = some (Value.slice b m1 d) := X_5.cell 2
  have fX_5_2 := X_5.free 2
  have cY_5_0 : _ = some (Value.bool t) := Y_5.cell 0
  have fY_5_0 := Y_5.free 0
  have cY_5_1 : _ = some (Value.slice a' n2 c') := Y_5.cell 1
  have fY_5_1 := Y_5.free 1
  have cY_5_2 : _ = some (Value.slice b' m2 d') := Y_5.cell 2
  have fY_5_2 := Y_5.free 2
  go_wp2_with fail
  clear X_4 Y_4 cX_4_0 fX_4_0 cX_4_1 fX_4_1 cX_4_2 fX_4_2 cY_4_0 fY_4_0 cY_4_1 fY_4_1 cY_4_2 fY_4_2 A_4 B_4 ha'_4 hb'_4 C_4 D_4 hbel_4 hkp
  generalize (((w4.setCell ⟨w.heap.size + 1, 0, none⟩ (Value.bool t)).setCell ⟨w.heap.size + 1, 1, none⟩ (Value.slice a' n2 c')).setCell ⟨w.heap.size + 1, 2, none⟩ (Value.slice b' m2 d')) = v5 at *
  clear HA HB HC HD
  have QX_5 := rdq_of s A_5 hn1 B_5 hm1
  have QY_5 := rdq_of t C_5 hn2 D_5 hm2
  go_wp2_with fail
  refine (flend A_5 B_5 (by omega) (by omega)).mono ?_
  rintro e w6 ⟨pa, pc, ra, rc, rfl, hL, hM, hB⟩
  have hB_6 : Below v5.heap.size v5 w6 := (bl.next hB)
  have X_6 := X_5.next hB_6
  have cX_6_0 : _ = some (Value.bool s) := X_6.cell 0
  have fX_6_0 := X_6.free 0
  have cX_6_1 : _ = some (Value.slice a n1 c) := X_6.cell 1
  have fX_6_1 := X_6.free 1
  have cX_6_2 : _ = some (Value.slice b m1 d) := X_6.cell 2
  have fX_6_2 := X_6.free 2
  have Y_6 := Y_5.next hB_6
  have cY_6_0 : _ = some (Value.bool t) := Y_6.cell 0
  have fY_6_0 := Y_6.free 0
  have cY_6_1 : _ = some (Value.slice a' n2 c') := Y_6.cell 1
  have fY_6_1 := Y_6.free 1
  have cY_6_2 : _ = some (Value.slice b' m2 d') := Y_6.cell 2
  have fY_6_2 := Y_6.free 2
  have A_6 := A_5.below hB_6
  have B_6 := B_5.below hB_6
  have C_6 := C_5.below hB_6
  have D_6 := D_5.below hB_6
  have QX_6 := QX_5.below hB_6
  have QY_6 := QY_5.below hB_6
  have hbel_6 := hbel_5.next hB_6
  have hsz_6 := hB_6.size
  clear X_5 cX_5_0 fX_5_0 cX_5_1 fX_5_1 cX_5_2 fX_5_2 Y_5 cY_5_0 fY_5_0 cY_5_1 fY_5_1 cY_5_2 fY_5_2 A_5 B_5 C_5 D_5 QX_5 QY_5 hbel_5 hB_6
  have LA_6 := hL
  have LB_6 := hM
  clear hL hM
  try clear hB
  have hbx := blk_new w6 #[Value.bool s, Value.slice pa n1 pc, Value.slice ra m1 rc] 38
  have hbB := (Below.refl w6.heap.size w6).alloc (Nat.le_refl _) (.cells #[Value.bool s, Value.slice pa n1 pc, Value.slice ra m1 rc] 38)
  have hltP := hbx.lt
  have hB_7 : Below w6.heap.size w6 (w6.alloc (.cells #[Value.bool s, Value.slice pa n1 pc, Value.slice ra m1 rc] 38)) := hbB
  have X_7 := X_6.next hB_7
  have cX_7_0 : _ = some (Value.bool s) := X_7.cell 0
  have fX_7_0 := X_7.free 0
  have cX_7_1 : _ = some (Value.slice a n1 c) := X_7.cell 1
  have fX_7_1 := X_7.free 1
  have cX_7_2 : _ = some (Value.slice b m1 d) := X_7.cell 2
  have fX_7_2 := X_7.free 2
  have Y_7 := Y_6.next hB_7
  have cY_7_0 : _ = some (Value.bool t) := Y_7.cell 0
  have fY_7_0 := Y_7.free 0
  have cY_7_1 : _ = some (Value.slice a' n2 c') := Y_7.cell 1
  have fY_7_1 := Y_7.free 1
  have cY_7_2 : _ = some (Value.slice b' m2 d') := Y_7.cell 2
  have fY_7_2 := Y_7.free 2
  have A_7 := A_6.below hB_7
  have B_7 := B_6.below hB_7
  have C_7 := C_6.below hB_7
  have D_7 := D_6.below hB_7
  have QX_7 := QX_6.below hB_7
  have QY_7 := QY_6.below hB_7
  have LA_7 := LA_6.below hB_7
  have LB_7 := LB_6.below hB_7
  have hbel_7 := hbel_6.next hB_7
  have hsz_7 := hB_7.size
  clear hB_7
  have P_7 := hbx
  clear hbx hbB
  have cP_7_0 : _ = some (Value.bool s) := P_7.cell 0
  have cP_7_1 : _ = some (Value.slice pa n1 pc) := P_7.cell 1
  have cP_7_2 : _ = some (Value.slice ra m1 rc) := P_7.cell 2
  go_wp2_with fail
  clear X_6 cX_6_0 fX_6_0 cX_6_1 fX_6_1 cX_6_2 fX_6_2 Y_6 cY_6_0 fY_6_0 cY_6_1 fY_6_1 cY_6_2 fY_6_2 A_6 B_6 C_6 D_6 QX_6 QY_6 LA_6 LB_6 hbel_6
  generalize (w6.alloc (.cells #[Value.bool s, Value.slice pa n1 pc, Value.slice ra m1 rc] 38)) = v7 at *
  go_wp2_with fail
  refine (flend C_7 D_7 (by omega) (by omega)).mono ?_
  rintro e w8 ⟨qa, qc, sa, sc, rfl, hL, hM, hB⟩
  have hB_8 : Below v7.heap.size v7 w8 := (bl.next hB)
  have X_8 := X_7.next hB_8
  have cX_8_0 : _ = some (Value.bool s) := X_8.cell 0
  have fX_8_0 := X_8.free 0
  have cX_8_1 : _ = some (Value.slice a n1 c) := X_8.cell 1
  have fX_8_1 := X_8.free 1
  have cX_8_2 : _ = some (Value.slice b m1 d) := X_8.cell 2
  have fX_8_2 := X_8.free 2
  have Y_8 := Y_7.next hB_8
  have cY_8_0 : _ = some (Value.bool t) := Y_8.cell 0
  have fY_8_0 := Y_8.free 0
  have cY_8_1 : _ = some (Value.slice a' n2 c') := Y_8.cell 1
  have fY_8_1 := Y_8.free 1
  have cY_8_2 : _ = some (Value.slice b' m2 d') := Y_8.cell 2
  have fY_8_2 := Y_8.free 2
  have P_8 := P_7.next hB_8
  have cP_8_0 : _ = some (Value.bool s) := P_8.cell 0
  have cP_8_1 : _ = some (Value.slice pa n1 pc) := P_8.cell 1
  have cP_8_2 : _ = some (Value.slice ra m1 rc) := P_8.cell 2
  have A_8 := A_7.below hB_8
  have B_8 := B_7.below hB_8
  have C_8 := C_7.below hB_8
  have D_8 := D_7.below hB_8
  have QX_8 := QX_7.below hB_8
  have QY_8 := QY_7.below hB_8
  have LA_8 := LA_7.below hB_8
  have LB_8 := LB_7.below hB_8
  have hbel_8 := hbel_7.next hB_8
  have hsz_8 := hB_8.size
  clear X_7 cX_7_0 fX_7_0 cX_7_1 fX_7_1 cX_7_2 fX_7_2 Y_7 cY_7_0 fY_7_0 cY_7_1 fY_7_1 cY_7_2 fY_7_2 P_7 cP_7_0 cP_7_1 cP_7_2 A_7 B_7 C_7 D_7 QX_7 QY_7 LA_7 LB_7 hbel_7 hB_8
  have LC_8 := hL
  have LD_8 := hM
  clear hL hM
  try clear hB
  have hbx := blk_new w8 #[Value.bool t, Value.slice qa n2 qc, Value.slice sa m2 sc] 38
  have hbB := (Below.refl w8.heap.size w8).alloc (Nat.le_refl _) (.cells #[Value.bool t, Value.slice qa n2 qc, Value.slice sa m2 sc] 38)
  have hltQ := hbx.lt
  have hB_9 : Below w8.heap.size w8 (w8.alloc (.cells #[Value.bool t, Value.slice qa n2 qc, Value.slice sa m2 sc] 38)) := hbB
  have X_9 := X_8.next hB_9
  have cX_9_0 : _ = some (Value.bool s) := X_9.cell 0
  have fX_9_0 := X_9.free 0
  have cX_9_1 : _ = some (Value.slice a n1 c) := X_9.cell 1
  have fX_9_1 := X_9.free 1
  have cX_9_2 : _ = some (Value.slice b m1 d) := X_9.cell 2
  have fX_9_2 := X_9.free 2
  have Y_9 := Y_8.next hB_9
  have cY_9_0 : _ = some (Value.bool t) := Y_9.cell 0
  have fY_9_0 := Y_9.free 0
  have cY_9_1 : _ = some (Value.slice a' n2 c') := Y_9.cell 1
  have fY_9_1 := Y_9.free 1
  have cY_9_2 : _ = some (Value.slice b' m2 d') := Y_9.cell 2
  have fY_9_2 := Y_9.free 2
  have P_9 := P_8.next hB_9
  have cP_9_0 : _ = some (Value.bool s) := P_9.cell 0
  have cP_9_1 : _ = some (Value.slice pa n1 pc) := P_9.cell 1
  have cP_9_2 : _ = some (Value.slice ra m1 rc) := P_9.cell 2
  have A_9 := A_8.below hB_9
  have B_9 := B_8.below hB_9
  have C_9 := C_8.below hB_9
  have D_9 := D_8.below hB_9
  have QX_9 := QX_8.below hB_9
  have QY_9 := QY_8.below hB_9
  have LA_9 := LA_8.below hB_9
  have LB_9 := LB_8.below hB_9
  have LC_9 := LC_8.below hB_9
  have LD_9 := LD_8.below hB_9
  have hbel_9 := hbel_8.next hB_9
  have hsz_9 := hB_9.size
  clear hB_9
  have Q_9 := hbx
  clear hbx hbB
  have cQ_9_0 : _ = some (Value.bool t) := Q_9.cell 0
  have cQ_9_1 : _ = some (Value.slice qa n2 qc) := Q_9.cell 1
  have cQ_9_2 : _ = some (Value.slice sa m2 sc) := Q_9.cell 2
  go_wp2_with fail
  clear X_8 cX_8_0 fX_8_0 cX_8_1 fX_8_1 cX_8_2 fX_8_2 Y_8 cY_8_0 fY_8_0 cY_8_1 fY_8_1 cY_8_2 fY_8_2 P_8 cP_8_0 cP_8_1 cP_8_2 A_8 B_8 C_8 D_8 QX_8 QY_8 LA_8 LB_8 LC_8 LD_8 hbel_8
  generalize (w8.alloc (.cells #[Value.bool t, Value.slice qa n2 qc, Value.slice sa m2 sc] 38)) = v9 at *
  have QP_9 := rdq_of s LA_9.2 hn1 LB_9.2 hm1
  have QQ_9 := rdq_of t LC_9.2 hn2 LD_9.2 hm2
  have mX := hid X_9
  have mY := hid Y_9
  have mP := hid P_9
  have mQ := hid Q_9
  have mA := hid A_9
  have mB := hid B_9
  have mC := hid C_9
  have mD := hid D_9
  have mQX := hid QX_9
  have mQY := hid QY_9
  have mLA := hid LA_9
  have mLB := hid LB_9
  have mLC := hid LC_9
  have mLD := hid LD_9
  have mQP := hid QP_9
  have mQQ := hid QQ_9
  have mhbel := hid hbel_9
  have hbM_9 : Below v9.heap.size v9 v9 := Below.refl _ _
  generalize hu : qv s (val l1) (val k1) = u at *
  generalize hv : qv t (val l2) (val k2) = v at *
  clear hu hv
  have le1 := hid (spl_er (by omega) (QX_9.qs (by omega)) (QY_9.qs (by omega)))
  have le2 := hid (spl_er (by omega) (QY_9.qs (by omega)) (QX_9.qs (by omega)))
  generalize hq10 : spl u v = q1 at *
  have hq1 := hid hq10
  clear hq10
  generalize he10 : spE u v = e1 at *
  have he1 := hid he10
  clear he10
  generalize hq20 : spl v u = q2 at *
  have hq2 := hid hq20
  clear hq20
  generalize he20 : spE v u = e2 at *
  have he2 := hid he20
  clear he20
  go_wp2_with fail
  refine (qsimp (by omega) (by omega) QP_9 QQ_9).mono ?_
  rw [hq1.out, he1.out]
  rintro e w10 ⟨xa, xn, xc, xb, xm, xd, rfl, hO, hO', hDx, hB⟩
  have hB_10 : Below v9.heap.size v9 w10 := (bl.next hB)
  have X_10 := X_9.next hB_10
  have cX_10_0 : _ = some (Value.bool s) := X_10.cell 0
  have fX_10_0 := X_10.free 0
  have cX_10_1 : _ = some (Value.slice a n1 c) := X_10.cell 1
  have fX_10_1 := X_10.free 1
  have cX_10_2 : _ = some (Value.slice b m1 d) := X_10.cell 2
  have fX_10_2 := X_10.free 2
  have Y_10 := Y_9.next hB_10
  have cY_10_0 : _ = some (Value.bool t) := Y_10.cell 0
  have fY_10_0 := Y_10.free 0
  have cY_10_1 : _ = some (Value.slice a' n2 c') := Y_10.cell 1
  have fY_10_1 := Y_10.free 1
  have cY_10_2 : _ = some (Value.slice b' m2 d') := Y_10.cell 2
  have fY_10_2 := Y_10.free 2
  have P_10 := P_9.next hB_10
  have cP_10_0 : _ = some (Value.bool s) := P_10.cell 0
  have cP_10_1 : _ = some (Value.slice pa n1 pc) := P_10.cell 1
  have cP_10_2 : _ = some (Value.slice ra m1 rc) := P_10.cell 2
  have Q_10 := Q_9.next hB_10
  have cQ_10_0 : _ = some (Value.bool t) := Q_10.cell 0
  have cQ_10_1 : _ = some (Value.slice qa n2 qc) := Q_10.cell 1
  have cQ_10_2 : _ = some (Value.slice sa m2 sc) := Q_10.cell 2
  have A_10 := A_9.below hB_10
  have B_10 := B_9.below hB_10
  have C_10 := C_9.below hB_10
  have D_10 := D_9.below hB_10
  have QX_10 := QX_9.below hB_10
  have QY_10 := QY_9.below hB_10
  have LA_10 := LA_9.below hB_10
  have LB_10 := LB_9.below hB_10
  have LC_10 := LC_9.below hB_10
  have LD_10 := LD_9.below hB_10
  have QP_10 := QP_9.below hB_10
  have QQ_10 := QQ_9.below hB_10
  have hbM_10 := hbM_9.next hB_10
  have hbel_10 := hbel_9.next hB_10
  have hsz_10 := hB_10.size
  clear X_9 cX_9_0 fX_9_0 cX_9_1 fX_9_1 cX_9_2 fX_9_2 Y_9 cY_9_0 fY_9_0 cY_9_1 fY_9_1 cY_9_2 fY_9_2 P_9 cP_9_0 cP_9_1 cP_9_2 Q_9 cQ_9_0 cQ_9_1 cQ_9_2 A_9 B_9 C_9 D_9 QX_9 QY_9 LA_9 LB_9 LC_9 LD_9 QP_9 QQ_9 hbM_9 hbel_9 hB_10
  have Ox_10 := hO
  have ltOx := hO.ltB
  have Px_10 := hO'
  have ltPx := hO'.ltB
  clear hO hO'
  try clear hB
  have hbx := blk_new w10 #[Value.bool (qsg q1 e1), Value.slice xa xn xc, Value.slice xb xm xd] 38
  have hbB := (Below.refl w10.heap.size w10).alloc (Nat.le_refl _) (.cells #[Value.bool (qsg q1 e1), Value.slice xa xn xc, Value.slice xb xm xd] 38)
  have hltU := hbx.lt
  have hB_11 : Below w10.heap.size w10 (w10.alloc (.cells #[Value.bool (qsg q1 e1), Value.slice xa xn xc, Value.slice xb xm xd] 38)) := hbB
  have X_11 := X_10.next hB_11
  have cX_11_0 : _ = some (Value.bool s) := X_11.cell 0
  have fX_11_0 := X_11.free 0
  have cX_11_1 : _ = some (Value.slice a n1 c) := X_11.cell 1
  have fX_11_1 := X_11.free 1
  have cX_11_2 : _ = some (Value.slice b m1 d) := X_11.cell 2
  have fX_11_2 := X_11.free 2
  have Y_11 := Y_10.next hB_11
  have cY_11_0 : _ = some (Value.bool t) := Y_11.cell 0
  have fY_11_0 := Y_11.free 0
  have cY_11_1 : _ = some (Value.slice a' n2 c') := Y_11.cell 1
  have fY_11_1 := Y_11.free 1
  have cY_11_2 : _ = some (Value.slice b' m2 d') := Y_11.cell 2
  have fY_11_2 := Y_11.free 2
  have P_11 := P_10.next hB_11
  have cP_11_0 : _ = some (Value.bool s) := P_11.cell 0
  have cP_11_1 : _ = some (Value.slice pa n1 pc) := P_11.cell 1
  have cP_11_2 : _ = some (Value.slice ra m1 rc) := P_11.cell 2
  have Q_11 := Q_10.next hB_11
  have cQ_11_0 : _ = some (Value.bool t) := Q_11.cell 0
  have cQ_11_1 : _ = some (Value.slice qa n2 qc) := Q_11.cell 1
  have cQ_11_2 : _ = some (Value.slice sa m2 sc) := Q_11.cell 2
  have A_11 := A_10.below hB_11
  have B_11 := B_10.below hB_11
  have C_11 := C_10.below hB_11
  have D_11 := D_10.below hB_11
  have QX_11 := QX_10.below hB_11
  have QY_11 := QY_10.below hB_11
  have LA_11 := LA_10.below hB_11
  have LB_11 := LB_10.below hB_11
  have LC_11 := LC_10.below hB_11
  have LD_11 := LD_10.below hB_11
  have QP_11 := QP_10.below hB_11
  have QQ_11 := QQ_10.below hB_11
  have hbM_11 := hbM_10.next hB_11
  have Ox_11 := Ox_10.below hB_11
  have Px_11 := Px_10.below hB_11
  have hbel_11 := hbel_10.next hB_11
  have hsz_11 := hB_11.size
  clear hB_11
  have U_11 := hbx
  clear hbx hbB
  have cU_11_0 : _ = some (Value.bool (qsg q1 e1)) := U_11.cell 0
  have cU_11_1 : _ = some (Value.slice xa xn xc) := U_11.cell 1
  have cU_11_2 : _ = some (Value.slice xb xm xd) := U_11.cell 2
  go_wp2_with fail
  clear X_10 cX_10_0 fX_10_0 cX_10_1 fX_10_1 cX_10_2 fX_10_2 Y_10 cY_10_0 fY_10_0 cY_10_1 fY_10_1 cY_10_2 fY_10_2 P_10 cP_10_0 cP_10_1 cP_10_2 Q_10 cQ_10_0 cQ_10_1 cQ_10_2 A_10 B_10 C_10 D_10 QX_10 QY_10 LA_10 LB_10 LC_10 LD_10 QP_10 QQ_10 hbM_10 Ox_10 Px_10 hbel_10
  generalize (w10.alloc (.cells #[Value.bool (qsg q1 e1), Value.slice xa xn xc, Value.slice xb xm xd] 38)) = v11 at *
  go_wp2_with fail
  refine (qsimp (by omega) (by omega) QQ_11 QP_11).mono ?_
  rw [hq2.out, he2.out]
  rintro e w12 ⟨za, zn, zc, zb, zm, zd, rfl, hO, hO', hDz, hB⟩
  have hB_12 : Below v11.heap.size v11 w12 := (bl.next hB)
  have X_12 := X_11.next hB_12
  have cX_12_0 : _ = some (Value.bool s) := X_12.cell 0
  have fX_12_0 := X_12.free 0
  have cX_12_1 : _ = some (Value.slice a n1 c) := X_12.cell 1
  have fX_12_1 := X_12.free 1
  have cX_12_2 : _ = some (Value.slice b m1 d) := X_12.cell 2
  have fX_12_2 := X_12.free 2
  have Y_12 := Y_11.next hB_12
  have cY_12_0 : _ = some (Value.bool t) := Y_12.cell 0
  have fY_12_0 := Y_12.free 0
  have cY_12_1 : _ = some (Value.slice a' n2 c') := Y_12.cell 1
  have fY_12_1 := Y_12.free 1
  have cY_12_2 : _ = some (Value.slice b' m2 d') := Y_12.cell 2
  have fY_12_2 := Y_12.free 2
  have P_12 := P_11.next hB_12
  have cP_12_0 : _ = some (Value.bool s) := P_12.cell 0
  have cP_12_1 : _ = some (Value.slice pa n1 pc) := P_12.cell 1
  have cP_12_2 : _ = some (Value.slice ra m1 rc) := P_12.cell 2
  have Q_12 := Q_11.next hB_12
  have cQ_12_0 : _ = some (Value.bool t) := Q_12.cell 0
  have cQ_12_1 : _ = some (Value.slice qa n2 qc) := Q_12.cell 1
  have cQ_12_2 : _ = some (Value.slice sa m2 sc) := Q_12.cell 2
  have U_12 := U_11.next hB_12
  have cU_12_0 : _ = some (Value.bool (qsg q1 e1)) := U_12.cell 0
  have cU_12_1 : _ = some (Value.slice xa xn xc) := U_12.cell 1
  have cU_12_2 : _ = some (Value.slice xb xm xd) := U_12.cell 2
  have A_12 := A_11.below hB_12
  have B_12 := B_11.below hB_12
  have C_12 := C_11.below hB_12
  have D_12 := D_11.below hB_12
  have QX_12 := QX_11.below hB_12
  have QY_12 := QY_11.below hB_12
  have LA_12 := LA_11.below hB_12
  have LB_12 := LB_11.below hB_12
  have LC_12 := LC_11.below hB_12
  have LD_12 := LD_11.below hB_12
  have QP_12 := QP_11.below hB_12
  have QQ_12 := QQ_11.below hB_12
  have hbM_12 := hbM_11.next hB_12
  have Ox_12 := Ox_11.below hB_12
  have Px_12 := Px_11.below hB_12
  have hbel_12 := hbel_11.next hB_12
  have hsz_12 := hB_12.size
  clear X_11 cX_11_0 fX_11_0 cX_11_1 fX_11_1 cX_11_2 fX_11_2 Y_11 cY_11_0 fY_11_0 cY_11_1 fY_11_1 cY_11_2 fY_11_2 P_11 cP_11_0 cP_11_1 cP_11_2 Q_11 cQ_11_0 cQ_11_1 cQ_11_2 U_11 cU_11_0 cU_11_1 cU_11_2 A_11 B_11 C_11 D_11 QX_11 QY_11 LA_11 LB_11 LC_11 LD_11 QP_11 QQ_11 hbM_11 Ox_11 Px_11 hbel_11 hB_12
  have Oz_12 := hO
  have ltOz := hO.ltB
  have Pz_12 := hO'
  have ltPz := hO'.ltB
  clear hO hO'
  try clear hB
  have hbx := blk_new w12 #[Value.bool (qsg q2 e2), Value.slice za zn zc, Value.slice zb zm zd] 38
  have hbB := (Below.refl w12.heap.size w12).alloc (Nat.le_refl _) (.cells #[Value.bool (qsg q2 e2), Value.slice za zn zc, Value.slice zb zm zd] 38)
  have hltV := hbx.lt
  have hB_13 : Below w12.heap.size w12 (w12.alloc (.cells #[Value.bool (qsg q2 e2), Value.slice za zn zc, Value.slice zb zm zd] 38)) := hbB
  have X_13 := X_12.next hB_13
  have cX_13_0 : _ = some (Value.bool s) := X_13.cell 0
  have fX_13_0 := X_13.free 0
  have cX_13_1 : _ = some (Value.slice a n1 c) := X_13.cell 1
  have fX_13_1 := X_13.free 1
  have cX_13_2 : _ = some (Value.slice b m1 d) := X_13.cell 2
  have fX_13_2 := X_13.free 2
  have Y_13 := Y_12.next hB_13
  have cY_13_0 : _ = some (Value.bool t) := Y_13.cell 0
  have fY_13_0 := Y_13.free 0
  have cY_13_1 : _ = some (Value.slice a' n2 c') := Y_13.cell 1
  have fY_13_1 := Y_13.free 1
  have cY_13_2 : _ = some (Value.slice b' m2 d') := Y_13.cell 2
  have fY_13_2 := Y_13.free 2
  have P_13 := P_12.next hB_13
  have cP_13_0 : _ = some (Value.bool s) := P_13.cell 0
  have cP_13_1 : _ = some (Value.slice pa n1 pc) := P_13.cell 1
  have cP_13_2 : _ = some (Value.slice ra m1 rc) := P_13.cell 2
  have Q_13 := Q_12.next hB_13
  have cQ_13_0 : _ = some (Value.bool t) := Q_13.cell 0
  have cQ_13_1 : _ = some (Value.slice qa n2 qc) := Q_13.cell 1
  have cQ_13_2 : _ = some (Value.slice sa m2 sc) := Q_13.cell 2
  have U_13 := U_12.next hB_13
  have cU_13_0 : _ = some (Value.bool (qsg q1 e1)) := U_13.cell 0
  have cU_13_1 : _ = some (Value.slice xa xn xc) := U_13.cell 1
  have cU_13_2 : _ = some (Value.slice xb xm xd) := U_13.cell 2
  have A_13 := A_12.below hB_13
  have B_13 := B_12.below hB_13
  have C_13 := C_12.below hB_13
  have D_13 := D_12.below hB_13
  have QX_13 := QX_12.below hB_13
  have QY_13 := QY_12.below hB_13
  have LA_13 := LA_12.below hB_13
  have LB_13 := LB_12.below hB_13
  have LC_13 := LC_12.below hB_13
  have LD_13 := LD_12.below hB_13
  have QP_13 := QP_12.below hB_13
  have QQ_13 := QQ_12.below hB_13
  have hbM_13 := hbM_12.next hB_13
  have Ox_13 := Ox_12.below hB_13
  have Px_13 := Px_12.below hB_13
  have Oz_13 := Oz_12.below hB_13
  have Pz_13 := Pz_12.below hB_13
  have hbel_13 := hbel_12.next hB_13
  have hsz_13 := hB_13.size
  clear hB_13
  have V_13 := hbx
  clear hbx hbB
  have cV_13_0 : _ = some (Value.bool (qsg q2 e2)) := V_13.cell 0
  have cV_13_1 : _ = some (Value.slice za zn zc) := V_13.cell 1
  have cV_13_2 : _ = some (Value.slice zb zm zd) := V_13.cell 2
  go_wp2_with fail
  clear X_12 cX_12_0 fX_12_0 cX_12_1 fX_12_1 cX_12_2 fX_12_2 Y_12 cY_12_0 fY_12_0 cY_12_1 fY_12_1 cY_12_2 fY_12_2 P_12 cP_12_0 cP_12_1 cP_12_2 Q_12 cQ_12_0 cQ_12_1 cQ_12_2 U_12 cU_12_0 cU_12_1 cU_12_2 A_12 B_12 C_12 D_12 QX_12 QY_12 LA_12 LB_12 LC_12 LD_12 QP_12 QQ_12 hbM_12 Ox_12 Px_12 Oz_12 Pz_12 hbel_12
  generalize (w12.alloc (.cells #[Value.bool (qsg q2 e2), Value.slice za zn zc, Value.slice zb zm zd] 38)) = v13 at *
  go_wp2_with fail
  refine (rqsimp (by omega) (by omega) QX_13 QY_13).mono ?_
  rw [hq1.out, he1.out]
  rintro e w14 ⟨ya, yn, yc, yb, ym, yd, rfl, hO, hO', hDy, hB⟩
  have hB_14 : Below v13.heap.size v13 w14 := (bl.next hB)
  have X_14 := X_13.next hB_14
  have cX_14_0 : _ = some (Value.bool s) := X_14.cell 0
  have fX_14_0 := X_14.free 0
  have cX_14_1 : _ = some (Value.slice a n1 c) := X_14.cell 1
  have fX_14_1 := X_14.free 1
  have cX_14_2 : _ = some (Value.slice b m1 d) := X_14.cell 2
  have fX_14_2 := X_14.free 2
  have Y_14 := Y_13.next hB_14
  have cY_14_0 : _ = some (Value.bool t) := Y_14.cell 0
  have fY_14_0 := Y_14.free 0
  have cY_14_1 : _ = some (Value.slice a' n2 c') := Y_14.cell 1
  have fY_14_1 := Y_14.free 1
  have cY_14_2 : _ = some (Value.slice b' m2 d') := Y_14.cell 2
  have fY_14_2 := Y_14.free 2
  have P_14 := P_13.next hB_14
  have cP_14_0 : _ = some (Value.bool s) := P_14.cell 0
  have cP_14_1 : _ = some (Value.slice pa n1 pc) := P_14.cell 1
  have cP_14_2 : _ = some (Value.slice ra m1 rc) := P_14.cell 2
  have Q_14 := Q_13.next hB_14
  have cQ_14_0 : _ = some (Value.bool t) := Q_14.cell 0
  have cQ_14_1 : _ = some (Value.slice qa n2 qc) := Q_14.cell 1
  have cQ_14_2 : _ = some (Value.slice sa m2 sc) := Q_14.cell 2
  have U_14 := U_13.next hB_14
  have cU_14_0 : _ = some (Value.bool (qsg q1 e1)) := U_14.cell 0
  have cU_14_1 : _ = some (Value.slice xa xn xc) := U_14.cell 1
  have cU_14_2 : _ = some (Value.slice xb xm xd) := U_14.cell 2
  have V_14 := V_13.next hB_14
  have cV_14_0 : _ = some (Value.bool (qsg q2 e2)) := V_14.cell 0
  have cV_14_1 : _ = some (Value.slice za zn zc) := V_14.cell 1
  have cV_14_2 : _ = some (Value.slice zb zm zd) := V_14.cell 2
  have A_14 := A_13.below hB_14
  have B_14 := B_13.below hB_14
  have C_14 := C_13.below hB_14
  have D_14 := D_13.below hB_14
  have QX_14 := QX_13.below hB_14
  have QY_14 := QY_13.below hB_14
  have LA_14 := LA_13.below hB_14
  have LB_14 := LB_13.below hB_14
  have LC_14 := LC_13.below hB_14
  have LD_14 := LD_13.below hB_14
  have QP_14 := QP_13.below hB_14
  have QQ_14 := QQ_13.below hB_14
  have hbM_14 := hbM_13.next hB_14
  have Ox_14 := Ox_13.below hB_14
  have Px_14 := Px_13.below hB_14
  have Oz_14 := Oz_13.below hB_14
  have Pz_14 := Pz_13.below hB_14
  have hbel_14 := hbel_13.next hB_14
  have hsz_14 := hB_14.size
  clear X_13 cX_13_0 fX_13_0 cX_13_1 fX_13_1 cX_13_2 fX_13_2 Y_13 cY_13_0 fY_13_0 cY_13_1 fY_13_1 cY_13_2 fY_13_2 P_13 cP_13_0 cP_13_1 cP_13_2 Q_13 cQ_13_0 cQ_13_1 cQ_13_2 U_13 cU_13_0 cU_13_1 cU_13_2 V_13 cV_13_0 cV_13_1 cV_13_2 A_13 B_13 C_13 D_13 QX_13 QY_13 LA_13 LB_13 LC_13 LD_13 QP_13 QQ_13 hbM_13 Ox_13 Px_13 Oz_13 Pz_13 hbel_13 hB_14
  have Oy_14 := hO
  have ltOy := hO.ltB
  have Py_14 := hO'
  have ltPy := hO'.ltB
  clear hO hO'
  try clear hB
  have hbx := blk_new w14 #[Value.bool (qsg q1 e1), Value.slice ya yn yc, Value.slice yb ym yd] 38
  have hbB := (Below.refl w14.heap.size w14).alloc (Nat.le_refl _) (.cells #[Value.bool (qsg q1 e1), Value.slice ya yn yc, Value.slice yb ym yd] 38)
  have hltS := hbx.lt
  have hB_15 : Below w14.heap.size w14 (w14.alloc (.cells #[Value.bool (qsg q1 e1), Value.slice ya yn yc, Value.slice yb ym yd] 38)) := hbB
  have X_15 := X_14.next hB_15
  have cX_15_0 : _ = some (Value.bool s) := X_15.cell 0
  have fX_15_0 := X_15.free 0
  have cX_15_1 : _ = some (Value.slice a n1 c) := X_15.cell 1
  have fX_15_1 := X_15.free 1
  have cX_15_2 : _ = some (Value.slice b m1 d) := X_15.cell 2
  have fX_15_2 := X_15.free 2
  have Y_15 := Y_14.next hB_15
  have cY_15_0 : _ = some (Value.bool t) := Y_15.cell 0
  have fY_15_0 := Y_15.free 0
  have cY_15_1 : _ = some (Value.slice a' n2 c') := Y_15.cell 1
  have fY_15_1 := Y_15.free 1
  have cY_15_2 : _ = some (Value.slice b' m2 d') := Y_15.cell 2
  have fY_15_2 := Y_15.free 2
  have P_15 := P_14.next hB_15
  have cP_15_0 : _ = some (Value.bool s) := P_15.cell 0
  have cP_15_1 : _ = some (Value.slice pa n1 pc) := P_15.cell 1
  have cP_15_2 : _ = some (Value.slice ra m1 rc) := P_15.cell 2
  have Q_15 := Q_14.next hB_15
  have cQ_15_0 : _ = some (Value.bool t) := Q_15.cell 0
  have cQ_15_1 : _ = some (Value.slice qa n2 qc) := Q_15.cell 1
  have cQ_15_2 : _ = some (Value.slice sa m2 sc) := Q_15.cell 2
  have U_15 := U_14.next hB_15
  have cU_15_0 : _ = some (Value.bool (qsg q1 e1)) := U_15.cell 0
  have cU_15_1 : _ = some (Value.slice xa xn xc) := U_15.cell 1
  have cU_15_2 : _ = some (Value.slice xb xm xd) := U_15.cell 2
  have V_15 := V_14.next hB_15
  have cV_15_0 : _ = some (Value.bool (qsg q2 e2)) := V_15.cell 0
  have cV_15_1 : _ = some (Value.slice za zn zc) := V_15.cell 1
  have cV_15_2 : _ = some (Value.slice zb zm zd) := V_15.cell 2
  have A_15 := A_14.below hB_15
  have B_15 := B_14.below hB_15
  have C_15 := C_14.below hB_15
  have D_15 := D_14.below hB_15
  have QX_15 := QX_14.below hB_15
  have QY_15 := QY_14.below hB_15
  have LA_15 := LA_14.below hB_15
  have LB_15 := LB_14.below hB_15
  have LC_15 := LC_14.below hB_15
  have LD_15 := LD_14.below hB_15
  have QP_15 := QP_14.below hB_15
  have QQ_15 := QQ_14.below hB_15
  have hbM_15 := hbM_14.next hB_15
  have Ox_15 := Ox_14.below hB_15
  have Px_15 := Px_14.below hB_15
  have Oz_15 := Oz_14.below hB_15
  have Pz_15 := Pz_14.below hB_15
  have Oy_15 := Oy_14.below hB_15
  have Py_15 := Py_14.below hB_15
  have hbel_15 := hbel_14.next hB_15
  have hsz_15 := hB_15.size
  clear hB_15
  have S_15 := hbx
  clear hbx hbB
  have cS_15_0 : _ = some (Value.bool (qsg q1 e1)) := S_15.cell 0
  have cS_15_1 : _ = some (Value.slice ya yn yc) := S_15.cell 1
  have cS_15_2 : _ = some (Value.slice yb ym yd) := S_15.cell 2
  go_wp2_with fail
  clear X_14 cX_14_0 fX_14_0 cX_14_1 fX_14_1 cX_14_2 fX_14_2 Y_14 cY_14_0 fY_14_0 cY_14_1 fY_14_1 cY_14_2 fY_14_2 P_14 cP_14_0 cP_14_1 cP_14_2 Q_14 cQ_14_0 cQ_14_1 cQ_14_2 U_14 cU_14_0 cU_14_1 cU_14_2 V_14 cV_14_0 cV_14_1 cV_14_2 A_14 B_14 C_14 D_14 QX_14 QY_14 LA_14 LB_14 LC_14 LD_14 QP_14 QQ_14 hbM_14 Ox_14 Px_14 Oz_14 Pz_14 Oy_14 Py_14 hbel_14
  generalize (w14.alloc (.cells #[Value.bool (qsg q1 e1), Value.slice ya yn yc, Value.slice yb ym yd] 38)) = v15 at *
  go_wp2_with fail
  refine (rqsimp (by omega) (by omega) QY_15 QX_15).mono ?_
  rw [hq2.out, he2.out]
  rintro e w16 ⟨oa, on, oc, ob, om, od, rfl, hO, hO', hDo, hB⟩
  have hB_16 : Below v15.heap.size v15 w16 := (bl.next hB)
  have X_16 := X_15.next hB_16
  have cX_16_0 : _ = some (Value.bool s) := X_16.cell 0
  have fX_16_0 := X_16.free 0
  have cX_16_1 : _ = some (Value.slice a n1 c) := X_16.cell 1
  have fX_16_1 := X_16.free 1
  have cX_16_2 : _ = some (Value.slice b m1 d) := X_16.cell 2
  have fX_16_2 := X_16.free 2
  have Y_16 := Y_15.next hB_16
  have cY_16_0 : _ = some (Value.bool t) := Y_16.cell 0
  have fY_16_0 := Y_16.free 0
  have cY_16_1 : _ = some (Value.slice a' n2 c') := Y_16.cell 1
  have fY_16_1 := Y_16.free 1
  have cY_16_2 : _ = some (Value.slice b' m2 d') := Y_16.cell 2
  have fY_16_2 := Y_16.free 2
  have P_16 := P_15.next hB_16
  have cP_16_0 : _ = some (Value.bool s) := P_16.cell 0
  have cP_16_1 : _ = some (Value.slice pa n1 pc) := P_16.cell 1
  have cP_16_2 : _ = some (Value.slice ra m1 rc) := P_16.cell 2
  have Q_16 := Q_15.next hB_16
  have cQ_16_0 : _ = some (Value.bool t) := Q_16.cell 0
  have cQ_16_1 : _ = some (Value.slice qa n2 qc) := Q_16.cell 1
  have cQ_16_2 : _ = some (Value.slice sa m2 sc) := Q_16.cell 2
  have U_16 := U_15.next hB_16
  have cU_16_0 : _ = some (Value.bool (qsg q1 e1)) := U_16.cell 0
  have cU_16_1 : _ = some (Value.slice xa xn xc) := U_16.cell 1
  have cU_16_2 : _ = some (Value.slice xb xm xd) := U_16.cell 2
  have V_16 := V_15.next hB_16
  have cV_16_0 : _ = some (Value.bool (qsg q2 e2)) := V_16.cell 0
  have cV_16_1 : _ = some (Value.slice za zn zc) := V_16.cell 1
  have cV_16_2 : _ = some (Value.slice zb zm zd) := V_16.cell 2
  have S_16 := S_15.next hB_16
  have cS_16_0 : _ = some (Value.bool (qsg q1 e1)) := S_16.cell 0
  have cS_16_1 : _ = some (Value.slice ya yn yc) := S_16.cell 1
  have cS_16_2 : _ = some (Value.slice yb ym yd) := S_16.cell 2
  have A_16 := A_15.below hB_16
  have B_16 := B_15.below hB_16
  have C_16 := C_15.below hB_16
  have D_16 := D_15.below hB_16
  have QX_16 := QX_15.below hB_16
  have QY_16 := QY_15.below hB_16
  have LA_16 := LA_15.below hB_16
  have LB_16 := LB_15.below hB_16
  have LC_16 := LC_15.below hB_16
  have LD_16 := LD_15.below hB_16
  have QP_16 := QP_15.below hB_16
  have QQ_16 := QQ_15.below hB_16
  have hbM_16 := hbM_15.next hB_16
  have Ox_16 := Ox_15.below hB_16
  have Px_16 := Px_15.below hB_16
  have Oz_16 := Oz_15.below hB_16
  have Pz_16 := Pz_15.below hB_16
  have Oy_16 := Oy_15.below hB_16
  have Py_16 := Py_15.below hB_16
  have hbel_16 := hbel_15.next hB_16
  have hsz_16 := hB_16.size
  clear X_15 cX_15_0 fX_15_0 cX_15_1 fX_15_1 cX_15_2 fX_15_2 Y_15 cY_15_0 fY_15_0 cY_15_1 fY_15_1 cY_15_2 fY_15_2 P_15 cP_15_0 cP_15_1 cP_15_2 Q_15 cQ_15_0 cQ_15_1 cQ_15_2 U_15 cU_15_0 cU_15_1 cU_15_2 V_15 cV_15_0 cV_15_1 cV_15_2 S_15 cS_15_0 cS_15_1 cS_15_2 A_15 B_15 C_15 D_15 QX_15 QY_15 LA_15 LB_15 LC_15 LD_15 QP_15 QQ_15 hbM_15 Ox_15 Px_15 Oz_15 Pz_15 Oy_15 Py_15 hbel_15 hB_16
  have Oo_16 := hO
  have ltOo := hO.ltB
  have Po_16 := hO'
  have ltPo := hO'.ltB
  clear hO hO'
  try clear hB
  have hbx := blk_new w16 #[Value.bool (qsg q2 e2), Value.slice oa on oc, Value.slice ob om od] 38
  have hbB := (Below.refl w16.heap.size w16).alloc (Nat.le_refl _) (.cells #[Value.bool (qsg q2 e2), Value.slice oa on oc, Value.slice ob om od] 38)
  have hltT := hbx.lt
  have hB_17 : Below w16.heap.size w16 (w16.alloc (.cells #[Value.bool (qsg q2 e2), Value.slice oa on oc, Value.slice ob om od] 38)) := hbB
  have X_17 := X_16.next hB_17
  have cX_17_0 : _ = some (Value.bool s) := X_17.cell 0
  have fX_17_0 := X_17.free 0
  have cX_17_1 : _ = some (Value.slice a n1 c) := X_17.cell 1
  have fX_17_1 := X_17.free 1
  have cX_17_2 : _ = some (Value.slice b m1 d) := X_17.cell 2
  have fX_17_2 := X_17.free 2
  have Y_17 := Y_16.next hB_17
  have cY_17_0 : _ = some (Value.bool t) := Y_17.cell 0
  have fY_17_0 := Y_17.free 0
  have cY_17_1 : _ = some (Value.slice a' n2 c') := Y_17.cell 1
  have fY_17_1 := Y_17.free 1
  have cY_17_2 : _ = some (Value.slice b' m2 d') := Y_17.cell 2
  have fY_17_2 := Y_17.free 2
  have P_17 := P_16.next hB_17
  have cP_17_0 : _ = some (Value.bool s) := P_17.cell 0
  have cP_17_1 : _ = some (Value.slice pa n1 pc) := P_17.cell 1
  have cP_17_2 : _ = some (Value.slice ra m1 rc) := P_17.cell 2
  have Q_17 := Q_16.next hB_17
  have cQ_17_0 : _ = some (Value.bool t) := Q_17.cell 0
  have cQ_17_1 : _ = some (Value.slice qa n2 qc) := Q_17.cell 1
  have cQ_17_2 : _ = some (Value.slice sa m2 sc) := Q_17.cell 2
  have U_17 := U_16.next hB_17
  have cU_17_0 : _ = some (Value.bool (qsg q1 e1)) := U_17.cell 0
  have cU_17_1 : _ = some (Value.slice xa xn xc) := U_17.cell 1
  have cU_17_2 : _ = some (Value.slice xb xm xd) := U_17.cell 2
  have V_17 := V_16.next hB_17
  have cV_17_0 : _ = some (Value.bool (qsg q2 e2)) := V_17.cell 0
  have cV_17_1 : _ = some (Value.slice za zn zc) := V_17.cell 1
  have cV_17_2 : _ = some (Value.slice zb zm zd) := V_17.cell 2
  have S_17 := S_16.next hB_17
  have cS_17_0 : _ = some (Value.bool (qsg q1 e1)) := S_17.cell 0
  have cS_17_1 : _ = some (Value.slice ya yn yc) := S_17.cell 1
  have cS_17_2 : _ = some (Value.slice yb ym yd) := S_17.cell 2
  have A_17 := A_16.below hB_17
  have B_17 := B_16.below hB_17
  have C_17 := C_16.below hB_17
  have D_17 := D_16.below hB_17
  have QX_17 := QX_16.below hB_17
  have QY_17 := QY_16.below hB_17
  have LA_17 := LA_16.below hB_17
  have LB_17 := LB_16.below hB_17
  have LC_17 := LC_16.below hB_17
  have LD_17 := LD_16.below hB_17
  have QP_17 := QP_16.below hB_17
  have QQ_17 := QQ_16.below hB_17
  have hbM_17 := hbM_16.next hB_17
  have Ox_17 := Ox_16.below hB_17
  have Px_17 := Px_16.below hB_17
  have Oz_17 := Oz_16.below hB_17
  have Pz_17 := Pz_16.below hB_17
  have Oy_17 := Oy_16.below hB_17
  have Py_17 := Py_16.below hB_17
  have Oo_17 := Oo_16.below hB_17
  have Po_17 := Po_16.below hB_17
  have hbel_17 := hbel_16.next hB_17
  have hsz_17 := hB_17.size
  clear hB_17
  have T_17 := hbx
  clear hbx hbB
  have cT_17_0 : _ = some (Value.bool (qsg q2 e2)) := T_17.cell 0
  have cT_17_1 : _ = some (Value.slice oa on oc) := T_17.cell 1
  have cT_17_2 : _ = some (Value.slice ob om od) := T_17.cell 2
  go_wp2_with fail
  clear X_16 cX_16_0 fX_16_0 cX_16_1 fX_16_1 cX_16_2 fX_16_2 Y_16 cY_16_0 fY_16_0 cY_16_1 fY_16_1 cY_16_2 fY_16_2 P_16 cP_16_0 cP_16_1 cP_16_2 Q_16 cQ_16_0 cQ_16_1 cQ_16_2 U_16 cU_16_0 cU_16_1 cU_16_2 V_16 cV_16_0 cV_16_1 cV_16_2 S_16 cS_16_0 cS_16_1 cS_16_2 A_16 B_16 C_16 D_16 QX_16 QY_16 LA_16 LB_16 LC_16 LD_16 QP_16 QQ_16 hbM_16 Ox_16 Px_16 Oz_16 Pz_16 Oy_16 Py_16 Oo_16 Po_16 hbel_16
  generalize (w16.alloc (.cells #[Value.bool (qsg q2 e2), Value.slice oa on oc, Value.slice ob om od] 38)) = v17 at *
  go_wp2_with fail
  refine (qsame_true Ox_17.rd Px_17.rd Oy_17.rd Py_17.rd).mono ?_
  rintro e w18 ⟨rfl, hB⟩
  have hB_18 : Below v17.heap.size v17 w18 := (bl.next hB)
  have X_18 := X_17.next hB_18
  have cX_18_0 : _ = some (Value.bool s) := X_18.cell 0
  have fX_18_0 := X_18.free 0
  have cX_18_1 : _ = some (Value.slice a n1 c) := X_18.cell 1
  have fX_18_1 := X_18.free 1
  have cX_18_2 : _ = some (Value.slice b m1 d) := X_18.cell 2
  have fX_18_2 := X_18.free 2
  have Y_18 := Y_17.next hB_18
  have cY_18_0 : _ = some (Value.bool t) := Y_18.cell 0
  have fY_18_0 := Y_18.free 0
  have cY_18_1 : _ = some (Value.slice a' n2 c') := Y_18.cell 1
  have fY_18_1 := Y_18.free 1
  have cY_18_2 : _ = some (Value.slice b' m2 d') := Y_18.cell 2
  have fY_18_2 := Y_18.free 2
  have P_18 := P_17.next hB_18
  have cP_18_0 : _ = some (Value.bool s) := P_18.cell 0
  have cP_18_1 : _ = some (Value.slice pa n1 pc) := P_18.cell 1
  have cP_18_2 : _ = some (Value.slice ra m1 rc) := P_18.cell 2
  have Q_18 := Q_17.next hB_18
  have cQ_18_0 : _ = some (Value.bool t) := Q_18.cell 0
  have cQ_18_1 : _ = some (Value.slice qa n2 qc) := Q_18.cell 1
  have cQ_18_2 : _ = some (Value.slice sa m2 sc) := Q_18.cell 2
  have U_18 := U_17.next hB_18
  have cU_18_0 : _ = some (Value.bool (qsg q1 e1)) := U_18.cell 0
  have cU_18_1 : _ = some (Value.slice xa xn xc) := U_18.cell 1
  have cU_18_2 : _ = some (Value.slice xb xm xd) := U_18.cell 2
  have V_18 := V_17.next hB_18
  have cV_18_0 : _ = some (Value.bool (qsg q2 e2)) := V_18.cell 0
  have cV_18_1 : _ = some (Value.slice za zn zc) := V_18.cell 1
  have cV_18_2 : _ = some (Value.slice zb zm zd) := V_18.cell 2
  have S_18 := S_17.next hB_18
  have cS_18_0 : _ = some (Value.bool (qsg q1 e1)) := S_18.cell 0
  have cS_18_1 : _ = some (Value.slice ya yn yc) := S_18.cell 1
  have cS_18_2 : _ = some (Value.slice yb ym yd) := S_18.cell 2
  have T_18 := T_17.next hB_18
  have cT_18_0 : _ = some (Value.bool (qsg q2 e2)) := T_18.cell 0
  have cT_18_1 : _ = some (Value.slice oa on oc) := T_18.cell 1
  have cT_18_2 : _ = some (Value.slice ob om od) := T_18.cell 2
  have A_18 := A_17.below hB_18
  have B_18 := B_17.below hB_18
  have C_18 := C_17.below hB_18
  have D_18 := D_17.below hB_18
  have QX_18 := QX_17.below hB_18
  have QY_18 := QY_17.below hB_18
  have LA_18 := LA_17.below hB_18
  have LB_18 := LB_17.below hB_18
  have LC_18 := LC_17.below hB_18
  have LD_18 := LD_17.below hB_18
  have QP_18 := QP_17.below hB_18
  have QQ_18 := QQ_17.below hB_18
  have hbM_18 := hbM_17.next hB_18
  have Ox_18 := Ox_17.below hB_18
  have Px_18 := Px_17.below hB_18
  have Oz_18 := Oz_17.below hB_18
  have Pz_18 := Pz_17.below hB_18
  have Oy_18 := Oy_17.below hB_18
  have Py_18 := Py_17.below hB_18
  have Oo_18 := Oo_17.below hB_18
  have Po_18 := Po_17.below hB_18
  have hbel_18 := hbel_17.next hB_18
  have hsz_18 := hB_18.size
  clear X_17 cX_17_0 fX_17_0 cX_17_1 fX_17_1 cX_17_2 fX_17_2 Y_17 cY_17_0 fY_17_0 cY_17_1 fY_17_1 cY_17_2 fY_17_2 P_17 cP_17_0 cP_17_1 cP_17_2 Q_17 cQ_17_0 cQ_17_1 cQ_17_2 U_17 cU_17_0 cU_17_1 cU_17_2 V_17 cV_17_0 cV_17_1 cV_17_2 S_17 cS_17_0 cS_17_1 cS_17_2 T_17 cT_17_0 cT_17_1 cT_17_2 A_17 B_17 C_17 D_17 QX_17 QY_17 LA_17 LB_17 LC_17 LD_17 QP_17 QQ_17 hbM_17 Ox_17 Px_17 Oz_17 Pz_17 Oy_17 Py_17 Oo_17 Po_17 hbel_17 hB_18
  try clear hB
  go_wp2_with fail
  refine (qsame_true Oz_18.rd Pz_18.rd Oo_18.rd Po_18.rd).mono ?_
  rintro e w19 ⟨rfl, hB⟩
  have hB_19 : Below w18.heap.size w18 w19 := (bl.next hB)
  have X_19 := X_18.next hB_19
  have cX_19_0 : _ = some (Value.bool s) := X_19.cell 0
  have fX_19_0 := X_19.free 0
  have cX_19_1 : _ = some (Value.slice a n1 c) := X_19.cell 1
  have fX_19_1 := X_19.free 1
  have cX_19_2 : _ = some (Value.slice b m1 d) := X_19.cell 2
  have fX_19_2 := X_19.free 2
  have Y_19 := Y_18.next hB_19
  have cY_19_0 : _ = some (Value.bool t) := Y_19.cell 0
  have fY_19_0 := Y_19.free 0
  have cY_19_1 : _ = some (Value.slice a' n2 c') := Y_19.cell 1
  have fY_19_1 := Y_19.free 1
  have cY_19_2 : _ = some (Value.slice b' m2 d') := Y_19.cell 2
  have fY_19_2 := Y_19.free 2
  have P_19 := P_18.next hB_19
  have cP_19_0 : _ = some (Value.bool s) := P_19.cell 0
  have cP_19_1 : _ = some (Value.slice pa n1 pc) := P_19.cell 1
  have cP_19_2 : _ = some (Value.slice ra m1 rc) := P_19.cell 2
  have Q_19 := Q_18.next hB_19
  have cQ_19_0 : _ = some (Value.bool t) := Q_19.cell 0
  have cQ_19_1 : _ = some (Value.slice qa n2 qc) := Q_19.cell 1
  have cQ_19_2 : _ = some (Value.slice sa m2 sc) := Q_19.cell 2
  have U_19 := U_18.next hB_19
  have cU_19_0 : _ = some (Value.bool (qsg q1 e1)) := U_19.cell 0
  have cU_19_1 : _ = some (Value.slice xa xn xc) := U_19.cell 1
  have cU_19_2 : _ = some (Value.slice xb xm xd) := U_19.cell 2
  have V_19 := V_18.next hB_19
  have cV_19_0 : _ = some (Value.bool (qsg q2 e2)) := V_19.cell 0
  have cV_19_1 : _ = some (Value.slice za zn zc) := V_19.cell 1
  have cV_19_2 : _ = some (Value.slice zb zm zd) := V_19.cell 2
  have S_19 := S_18.next hB_19
  have cS_19_0 : _ = some (Value.bool (qsg q1 e1)) := S_19.cell 0
  have cS_19_1 : _ = some (Value.slice ya yn yc) := S_19.cell 1
  have cS_19_2 : _ = some (Value.slice yb ym yd) := S_19.cell 2
  have T_19 := T_18.next hB_19
  have cT_19_0 : _ = some (Value.bool (qsg q2 e2)) := T_19.cell 0
  have cT_19_1 : _ = some (Value.slice oa on oc) := T_19.cell 1
  have cT_19_2 : _ = some (Value.slice ob om od) := T_19.cell 2
  have A_19 := A_18.below hB_19
  have B_19 := B_18.below hB_19
  have C_19 := C_18.below hB_19
  have D_19 := D_18.below hB_19
  have QX_19 := QX_18.below hB_19
  have QY_19 := QY_18.below hB_19
  have LA_19 := LA_18.below hB_19
  have LB_19 := LB_18.below hB_19
  have LC_19 := LC_18.below hB_19
  have LD_19 := LD_18.below hB_19
  have QP_19 := QP_18.below hB_19
  have QQ_19 := QQ_18.below hB_19
  have hbM_19 := hbM_18.next hB_19
  have Ox_19 := Ox_18.below hB_19
  have Px_19 := Px_18.below hB_19
  have Oz_19 := Oz_18.below hB_19
  have Pz_19 := Pz_18.below hB_19
  have Oy_19 := Oy_18.below hB_19
  have Py_19 := Py_18.below hB_19
  have Oo_19 := Oo_18.below hB_19
  have Po_19 := Po_18.below hB_19
  have hbel_19 := hbel_18.next hB_19
  have hsz_19 := hB_19.size
  clear X_18 cX_18_0 fX_18_0 cX_18_1 fX_18_1 cX_18_2 fX_18_2 Y_18 cY_18_0 fY_18_0 cY_18_1 fY_18_1 cY_18_2 fY_18_2 P_18 cP_18_0 cP_18_1 cP_18_2 Q_18 cQ_18_0 cQ_18_1 cQ_18_2 U_18 cU_18_0 cU_18_1 cU_18_2 V_18 cV_18_0 cV_18_1 cV_18_2 S_18 cS_18_0 cS_18_1 cS_18_2 T_18 cT_18_0 cT_18_1 cT_18_2 A_18 B_18 C_18 D_18 QX_18 QY_18 LA_18 LB_18 LC_18 LD_18 QP_18 QQ_18 hbM_18 Ox_18 Px_18 Oz_18 Pz_18 Oy_18 Py_18 Oo_18 Po_18 hbel_18 hB_19
  try clear hB
  have hbx := blk_new w19 #[Value.bool (qsg q1 e1), Value.slice xa xn xc, Value.slice xb xm xd, Value.bool (qsg q2 e2), Value.slice za zn zc, Value.slice zb zm zd] 38
  have hbB := (Below.refl w19.heap.size w19).alloc (Nat.le_refl _) (.cells #[Value.bool (qsg q1 e1), Value.slice xa xn xc, Value.slice xb xm xd, Value.bool (qsg q2 e2), Value.slice za zn zc, Value.slice zb zm zd] 38)
  have hltROW := hbx.lt
  have hB_20 : Below w19.heap.size w19 (w19.alloc (.cells #[Value.bool (qsg q1 e1), Value.slice xa xn xc, Value.slice xb xm xd, Value.bool (qsg q2 e2), Value.slice za zn zc, Value.slice zb zm zd] 38)) := hbB
  have X_20 := X_19.next hB_20
  have cX_20_0 : _ = some (Value.bool s) := X_20.cell 0
  have fX_20_0 := X_20.free 0
  have cX_20_1 : _ = some (Value.slice a n1 c) := X_20.cell 1
  have fX_20_1 := X_20.free 1
  have cX_20_2 : _ = some (Value.slice b m1 d) := X_20.cell 2
  have fX_20_2 := X_20.free 2
  have Y_20 := Y_19.next hB_20
  have cY_20_0 : _ = some (Value.bool t) := Y_20.cell 0
  have fY_20_0 := Y_20.free 0
  have cY_20_1 : _ = some (Value.slice a' n2 c') := Y_20.cell 1
  have fY_20_1 := Y_20.free 1
  have cY_20_2 : _ = some (Value.slice b' m2 d') := Y_20.cell 2
  have fY_20_2 := Y_20.free 2
  have P_20 := P_19.next hB_20
  have cP_20_0 : _ = some (Value.bool s) := P_20.cell 0
  have cP_20_1 : _ = some (Value.slice pa n1 pc) := P_20.cell 1
  have cP_20_2 : _ = some (Value.slice ra m1 rc) := P_20.cell 2
  have Q_20 := Q_19.next hB_20
  have cQ_20_0 : _ = some (Value.bool t) := Q_20.cell 0
  have cQ_20_1 : _ = some (Value.slice qa n2 qc) := Q_20.cell 1
  have cQ_20_2 : _ = some (Value.slice sa m2 sc) := Q_20.cell 2
  have U_20 := U_19.next hB_20
  have cU_20_0 : _ = some (Value.bool (qsg q1 e1)) := U_20.cell 0
  have cU_20_1 : _ = some (Value.slice xa xn xc) := U_20.cell 1
  have cU_20_2 : _ = some (Value.slice xb xm xd) := U_20.cell 2
  have V_20 := V_19.next hB_20
  have cV_20_0 : _ = some (Value.bool (qsg q2 e2)) := V_20.cell 0
  have cV_20_1 : _ = some (Value.slice za zn zc) := V_20.cell 1
  have cV_20_2 : _ = some (Value.slice zb zm zd) := V_20.cell 2
  have S_20 := S_19.next hB_20
  have cS_20_0 : _ = some (Value.bool (qsg q1 e1)) := S_20.cell 0
  have cS_20_1 : _ = some (Value.slice ya yn yc) := S_20.cell 1
  have cS_20_2 : _ = some (Value.slice yb ym yd) := S_20.cell 2
  have T_20 := T_19.next hB_20
  have cT_20_0 : _ = some (Value.bool (qsg q2 e2)) := T_20.cell 0
  have cT_20_1 : _ = some (Value.slice oa on oc) := T_20.cell 1
  have cT_20_2 : _ = some (Value.slice ob om od) := T_20.cell 2
  have A_20 := A_19.below hB_20
  have B_20 := B_19.below hB_20
  have C_20 := C_19.below hB_20
  have D_20 := D_19.below hB_20
  have QX_20 := QX_19.below hB_20
  have QY_20 := QY_19.below hB_20
  have LA_20 := LA_19.below hB_20
  have LB_20 := LB_19.below hB_20
  have LC_20 := LC_19.below hB_20
  have LD_20 := LD_19.below hB_20
  have QP_20 := QP_19.below hB_20
  have QQ_20 := QQ_19.below hB_20
  have hbM_20 := hbM_19.next hB_20
  have Ox_20 := Ox_19.below hB_20
  have Px_20 := Px_19.below hB_20
  have Oz_20 := Oz_19.below hB_20
  have Pz_20 := Pz_19.below hB_20
  have Oy_20 := Oy_19.below hB_20
  have Py_20 := Py_19.below hB_20
  have Oo_20 := Oo_19.below hB_20
  have Po_20 := Po_19.below hB_20
  have hbel_20 := hbel_19.next hB_20
  have hsz_20 := hB_20.size
  clear hB_20
  have ROW_20 := hbx
  clear hbx hbB
  have cROW_20_0 : _ = some (Value.bool (qsg q1 e1)) := ROW_20.cell 0
  have cROW_20_1 : _ = some (Value.slice xa xn xc) := ROW_20.cell 1
  have cROW_20_2 : _ = some (Value.slice xb xm xd) := ROW_20.cell 2
  have cROW_20_3 : _ = some (Value.bool (qsg q2 e2)) := ROW_20.cell 3
  have cROW_20_4 : _ = some (Value.slice za zn zc) := ROW_20.cell 4
  have cROW_20_5 : _ = some (Value.slice zb zm zd) := ROW_20.cell 5
  go_wp2_with fail
  clear X_19 cX_19_0 fX_19_0 cX_19_1 fX_19_1 cX_19_2 fX_19_2 Y_19 cY_19_0 fY_19_0 cY_19_1 fY_19_1 cY_19_2 fY_19_2 P_19 cP_19_0 cP_19_1 cP_19_2 Q_19 cQ_19_0 cQ_19_1 cQ_19_2 U_19 cU_19_0 cU_19_1 cU_19_2 V_19 cV_19_0 cV_19_1 cV_19_2 S_19 cS_19_0 cS_19_1 cS_19_2 T_19 cT_19_0 cT_19_1 cT_19_2 A_19 B_19 C_19 D_19 QX_19 QY_19 LA_19 LB_19 LC_19 LD_19 QP_19 QQ_19 hbM_19 Ox_19 Px_19 Oz_19 Pz_19 Oy_19 Py_19 Oo_19 Po_19 hbel_19
  generalize (w19.alloc (.cells #[Value.bool (qsg q1 e1), Value.slice xa xn xc, Value.slice xb xm xd, Value.bool (qsg q2 e2), Value.slice za zn zc, Value.slice zb zm zd] 38)) = v20 at *
  have hl1 : xn ≤ 268435456 := by have := Ox_20.len; have := le1.out; omega
  have hl2 : xm ≤ 268435456 := by have := Px_20.len; have := le1.out; omega
  have hl3 : zn ≤ 268435456 := by have := Oz_20.len; have := le2.out; omega
  have hl4 : zm ≤ 268435456 := by have := Pz_20.len; have := le2.out; omega
  have hRG := rgot2 ROW_20 Ox_20 Px_20 Oz_20 Pz_20 hDx (ltOx.diff Oz_20 (by omega)).symm (ltOx.diff Pz_20 (by omega)).symm (ltPx.diff Oz_20 (by omega)).symm (ltPx.diff Pz_20 (by omega)).symm hDz
  go_wp2_with fail
  refine (ownrats_any (c := 2) hRG (by omega) (by omega) (by omega) (by unfold maxLen; omega) (fun i _ => pick4_le hl1 hl2 hl3 hl4 i)).mono ?_
  rintro e wo ⟨rfl, hK⟩
  have hM := below_own2 hbM_20 hK Ox_20 Px_20 Oz_20 Pz_20 (by omega) (by omega) (by omega) (by omega)
  clear hRG hK
  have hbM_21 := hM
  have X_21 := mX.out.next hbM_21
  have Y_21 := mY.out.next hbM_21
  have P_21 := mP.out.next hbM_21
  have Q_21 := mQ.out.next hbM_21
  have A_21 := mA.out.below hbM_21
  have B_21 := mB.out.below hbM_21
  have C_21 := mC.out.below hbM_21
  have D_21 := mD.out.below hbM_21
  have QX_21 := mQX.out.below hbM_21
  have QY_21 := mQY.out.below hbM_21
  have LA_21 := mLA.out.below hbM_21
  have LB_21 := mLB.out.below hbM_21
  have LC_21 := mLC.out.below hbM_21
  have LD_21 := mLD.out.below hbM_21
  have QP_21 := mQP.out.below hbM_21
  have QQ_21 := mQQ.out.below hbM_21
  have hbel_21 := mhbel.out.next hbM_21
  have hsz_21 := hbM_21.size
  clear X_20 Y_20 P_20 Q_20 U_20 V_20 S_20 T_20 ROW_20 cX_20_0 fX_20_0 cX_20_1 fX_20_1 cX_20_2 fX_20_2 cY_20_0 fY_20_0 cY_20_1 fY_20_1 cY_20_2 fY_20_2 cP_20_0 cP_20_1 cP_20_2 cQ_20_0 cQ_20_1 cQ_20_2 cU_20_0 cU_20_1 cU_20_2 cV_20_0 cV_20_1 cV_20_2 cS_20_0 cS_20_1 cS_20_2 cT_20_0 cT_20_1 cT_20_2 cROW_20_0 cROW_20_1 cROW_20_2 cROW_20_3 cROW_20_4 cROW_20_5 A_20 B_20 C_20 D_20 QX_20 QY_20 LA_20 LB_20 LC_20 LD_20 QP_20 QQ_20 hbM_20 Ox_20 Px_20 Oz_20 Pz_20 Oy_20 Py_20 Oo_20 Po_20 hbel_20
  have cX_21_0 : _ = some (Value.bool s) := X_21.cell 0
  have fX_21_0 := X_21.free 0
  have cX_21_1 : _ = some (Value.slice a n1 c) := X_21.cell 1
  have fX_21_1 := X_21.free 1
  have cX_21_2 : _ = some (Value.slice b m1 d) := X_21.cell 2
  have fX_21_2 := X_21.free 2
  have cY_21_0 : _ = some (Value.bool t) := Y_21.cell 0
  have fY_21_0 := Y_21.free 0
  have cY_21_1 : _ = some (Value.slice a' n2 c') := Y_21.cell 1
  have fY_21_1 := Y_21.free 1
  have cY_21_2 : _ = some (Value.slice b' m2 d') := Y_21.cell 2
  have fY_21_2 := Y_21.free 2
  have cP_21_0 : _ = some (Value.bool s) := P_21.cell 0
  have cP_21_1 : _ = some (Value.slice pa n1 pc) := P_21.cell 1
  have cP_21_2 : _ = some (Value.slice ra m1 rc) := P_21.cell 2
  have cQ_21_0 : _ = some (Value.bool t) := Q_21.cell 0
  have cQ_21_1 : _ = some (Value.slice qa n2 qc) := Q_21.cell 1
  have cQ_21_2 : _ = some (Value.slice sa m2 sc) := Q_21.cell 2
  clear hM
  go_wp2_with fail
  refine (fkept LA_21 LB_21 A_21 B_21).mono ?_
  rintro e w22 ⟨rfl, hB⟩
  have hB_22 : Below wo.heap.size wo w22 := (bl.next hB)
  have X_22 := X_21.next hB_22
  have cX_22_0 : _ = some (Value.bool s) := X_22.cell 0
  have fX_22_0 := X_22.free 0
  have cX_22_1 : _ = some (Value.slice a n1 c) := X_22.cell 1
  have fX_22_1 := X_22.free 1
  have cX_22_2 : _ = some (Value.slice b m1 d) := X_22.cell 2
  have fX_22_2 := X_22.free 2
  have Y_22 := Y_21.next hB_22
  have cY_22_0 : _ = some (Value.bool t) := Y_22.cell 0
  have fY_22_0 := Y_22.free 0
  have cY_22_1 : _ = some (Value.slice a' n2 c') := Y_22.cell 1
  have fY_22_1 := Y_22.free 1
  have cY_22_2 : _ = some (Value.slice b' m2 d') := Y_22.cell 2
  have fY_22_2 := Y_22.free 2
  have P_22 := P_21.next hB_22
  have cP_22_0 : _ = some (Value.bool s) := P_22.cell 0
  have cP_22_1 : _ = some (Value.slice pa n1 pc) := P_22.cell 1
  have cP_22_2 : _ = some (Value.slice ra m1 rc) := P_22.cell 2
  have Q_22 := Q_21.next hB_22
  have cQ_22_0 : _ = some (Value.bool t) := Q_22.cell 0
  have cQ_22_1 : _ = some (Value.slice qa n2 qc) := Q_22.cell 1
  have cQ_22_2 : _ = some (Value.slice sa m2 sc) := Q_22.cell 2
  have A_22 := A_21.below hB_22
  have B_22 := B_21.below hB_22
  have C_22 := C_21.below hB_22
  have D_22 := D_21.below hB_22
  have QX_22 := QX_21.below hB_22
  have QY_22 := QY_21.below hB_22
  have LA_22 := LA_21.below hB_22
  have LB_22 := LB_21.below hB_22
  have LC_22 := LC_21.below hB_22
  have LD_22 := LD_21.below hB_22
  have QP_22 := QP_21.below hB_22
  have QQ_22 := QQ_21.below hB_22
  have hbM_22 := hbM_21.next hB_22
  have hbel_22 := hbel_21.next hB_22
  have hsz_22 := hB_22.size
  clear X_21 cX_21_0 fX_21_0 cX_21_1 fX_21_1 cX_21_2 fX_21_2 Y_21 cY_21_0 fY_21_0 cY_21_1 fY_21_1 cY_21_2 fY_21_2 P_21 cP_21_0 cP_21_1 cP_21_2 Q_21 cQ_21_0 cQ_21_1 cQ_21_2 A_21 B_21 C_21 D_21 QX_21 QY_21 LA_21 LB_21 LC_21 LD_21 QP_21 QQ_21 hbM_21 hbel_21 hB_22
  try clear hB
  go_wp2_with fail
  refine (fkept LC_22 LD_22 C_22 D_22).mono ?_
  rintro e w23 ⟨rfl, hB⟩
  have hB_23 : Below w22.heap.size w22 w23 := (bl.next hB)
  have X_23 := X_22.next hB_23
  have cX_23_0 : _ = some (Value.bool s) := X_23.cell 0
  have fX_23_0 := X_23.free 0
  have cX_23_1 : _ = some (Value.slice a n1 c) := X_23.cell 1
  have fX_23_1 := X_23.free 1
  have cX_23_2 : _ = some (Value.slice b m1 d) := X_23.cell 2
  have fX_23_2 := X_23.free 2
  have Y_23 := Y_22.next hB_23
  have cY_23_0 : _ = some (Value.bool t) := Y_23.cell 0
  have fY_23_0 := Y_23.free 0
  have cY_23_1 : _ = some (Value.slice a' n2 c') := Y_23.cell 1
  have fY_23_1 := Y_23.free 1
  have cY_23_2 : _ = some (Value.slice b' m2 d') := Y_23.cell 2
  have fY_23_2 := Y_23.free 2
  have P_23 := P_22.next hB_23
  have cP_23_0 : _ = some (Value.bool s) := P_23.cell 0
  have cP_23_1 : _ = some (Value.slice pa n1 pc) := P_23.cell 1
  have cP_23_2 : _ = some (Value.slice ra m1 rc) := P_23.cell 2
  have Q_23 := Q_22.next hB_23
  have cQ_23_0 : _ = some (Value.bool t) := Q_23.cell 0
  have cQ_23_1 : _ = some (Value.slice qa n2 qc) := Q_23.cell 1
  have cQ_23_2 : _ = some (Value.slice sa m2 sc) := Q_23.cell 2
  have A_23 := A_22.below hB_23
  have B_23 := B_22.below hB_23
  have C_23 := C_22.below hB_23
  have D_23 := D_22.below hB_23
  have QX_23 := QX_22.below hB_23
  have QY_23 := QY_22.below hB_23
  have LA_23 := LA_22.below hB_23
  have LB_23 := LB_22.below hB_23
  have LC_23 := LC_22.below hB_23
  have LD_23 := LD_22.below hB_23
  have QP_23 := QP_22.below hB_23
  have QQ_23 := QQ_22.below hB_23
  have hbM_23 := hbM_22.next hB_23
  have hbel_23 := hbel_22.next hB_23
  have hsz_23 := hB_23.size
  clear X_22 cX_22_0 fX_22_0 cX_22_1 fX_22_1 cX_22_2 fX_22_2 Y_22 cY_22_0 fY_22_0 cY_22_1 fY_22_1 cY_22_2 fY_22_2 P_22 cP_22_0 cP_22_1 cP_22_2 Q_22 cQ_22_0 cQ_22_1 cQ_22_2 A_22 B_22 C_22 D_22 QX_22 QY_22 LA_22 LB_22 LC_22 LD_22 QP_22 QQ_22 hbM_22 hbel_22 hB_23
  try clear hB
  go_wp2
  go_ret
  exact ⟨rfl, hbel_23⟩

end Go.Proofs.YtgddnmmllchndaaGreat
