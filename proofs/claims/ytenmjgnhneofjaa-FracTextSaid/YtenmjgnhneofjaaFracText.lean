/- THE WALK OF credencelaw03.FracText: of any fraction its text, of any text its fraction, or the error. -/
import Derived.Test.YtenmjgnhneofjaaQn
import Derived.Test.YtenmjgnhneofjaaQr
namespace Go.Proofs.Ytenmjgnhneofjaa
set_option linter.unusedVariables false
set_option linter.unusedSimpArgs false
open Go.ChangeShapes Go.WideShapes Go.ChangeAt Go.RowKit Go.NatP

theorem fp_sz {s : ByteArray} {K : Nat} (h : s.size ≤ K) (hK : 1 ≤ K) : QS (fpQ s) K := by
  have h1 : Sz (fpD s) K := by
    unfold fpD; split
    · exact (paN_sz (cutB s) (Nat.le_refl _)).mono (Nat.le_refl _) (Nat.le_trans (cutB_size s) h)
    · exact sz_one hK
  have h2 := divInt_sz (pz_sz (Nat.le_trans (cutA_size s) h)) h1 (decide (pzZ (cutA s) < 0)) false hK
  rw [zv_self] at h2
  exact h2

set_option maxRecDepth 100000 in
set_option maxHeartbeats 8000000 in
theorem fracText1 {w : World} {a b : Option Addr} {n c m d : Nat} {la lb : List Nat} (s : Bool) (ha : Rd w a n c la) (hb : Rd w b m d lb) (t : ByteArray) (ht : t.size ≤ maxLen) (hg : 400 < t.size) :
    Calls Try.prog 6 #[.agg #[.bool s, .slice a n c, .slice b m d], .string t] w (fun e w' => e = .returned (.bool true) ∧ Below w.heap.size w w') := by
  have hd : decide (400 < t.size) = true := decide_eq_true hg
  unfold maxLen at ht
  obtain ⟨u, hu⟩ : ∃ u, (t.extract 0 400) = u := ⟨_, rfl⟩
  have hus : u.size ≤ 400 := by rw [← hu]; rw [ByteArray.size_extract]; omega
  obtain ⟨K, hK⟩ : ∃ K, K = 401 := ⟨_, rfl⟩
  have hqu := hid (fp_sz (s := u) (K := K) (by omega) (by omega))
  have HP := hid (fun w => qparse (w := w) u (by omega))
  have HR := hid (fun w => rqparse (w := w) u (by omega))
  generalize fpQ u = q at *
  generalize fpE u = er at *
  have hee : (er == er) = true := beq_self_eq_true _
  have HA := hid ha
  have HB := hid hb
  have hent := ent1 w #[Value.bool s, Value.slice a n c, Value.slice b m d] 32
  go_enter Try.func6, Try.ntmps6
  go_wp2_with fail
  generalize (w.alloc (.cells #[Value.bool s, Value.slice a n c, Value.slice b m d] 32)) = W0 at hent ⊢
  obtain ⟨X_0, hbel_0, hsz_0⟩ := hent
  have cX_0_0 : _ = some (Value.bool s) := X_0.cell 0
  have fX_0_0 := X_0.free 0
  have cX_0_1 : _ = some (Value.slice a n c) := X_0.cell 1
  have fX_0_1 := X_0.free 1
  have cX_0_2 : _ = some (Value.slice b m d) := X_0.cell 2
  have fX_0_2 := X_0.free 2
  have ha_0 := ha.below hbel_0
  clear ha
  have hb_0 := hb.below hbel_0
  clear hb
  go_wp2_with fail
  refine (fawake).mono ?_
  rintro e w1 ⟨rfl, hB⟩
  have hB_1 : Below W0.heap.size W0 w1 := (by first | exact hB | exact below_drew hB | exact bel_alloc hB | exact below_drew (bel_alloc hB) | exact bel_alloc (below_drew hB) | exact bel_alloc (bel_alloc hB))
  have X_1 := X_0.next hB_1
  have cX_1_0 : _ = some (Value.bool s) := X_1.cell 0
  have fX_1_0 := X_1.free 0
  have cX_1_1 : _ = some (Value.slice a n c) := X_1.cell 1
  have fX_1_1 := X_1.free 1
  have cX_1_2 : _ = some (Value.slice b m d) := X_1.cell 2
  have fX_1_2 := X_1.free 2
  have ha_1 := ha_0.below hB_1
  have hb_1 := hb_0.below hB_1
  have hbel_1 := hbel_0.next hB_1
  have hsz_1 := hB_1.size
  clear X_0 cX_0_0 fX_0_0 cX_0_1 fX_0_1 cX_0_2 fX_0_2 ha_0 hb_0 hbel_0 hB_1
  try clear hB
  go_wp2_with fail
  refine (fcut 40 (by omega) ha_1 hb_1).mono ?_
  rintro e w2 ⟨n', l1, m', l2, rfl, hn', hm', hln, hlm, hR, hR', hB⟩
  have hB_2 : Below w1.heap.size w1 w2 := (by first | exact hB | exact below_drew hB | exact bel_alloc hB | exact below_drew (bel_alloc hB) | exact bel_alloc (below_drew hB) | exact bel_alloc (bel_alloc hB))
  have X_2 := X_1.next hB_2
  have cX_2_0 : _ = some (Value.bool s) := X_2.cell 0
  have fX_2_0 := X_2.free 0
  have cX_2_1 : _ = some (Value.slice a n c) := X_2.cell 1
  have fX_2_1 := X_2.free 1
  have cX_2_2 : _ = some (Value.slice b m d) := X_2.cell 2
  have fX_2_2 := X_2.free 2
  have ha_2 := ha_1.below hB_2
  have hb_2 := hb_1.below hB_2
  have hbel_2 := hbel_1.next hB_2
  have hsz_2 := hB_2.size
  clear X_1 cX_1_0 fX_1_0 cX_1_1 fX_1_1 cX_1_2 fX_1_2 ha_1 hb_1 hbel_1 hB_2
  have A_2 := hR
  have B_2 := hR'
  clear hR hR'
  try clear hB
  have hkp := kp_set3 w2 (w.heap.size) (Value.bool s) (Value.slice a n' c) (Value.slice b m' d)
  have X_3 := (show Blk _ _ #[Value.bool s, Value.slice a n' c, Value.slice b m' d] from (((X_2).setCell (i := 0) (v := Value.bool s) (by simp)).setCell (i := 1) (v := Value.slice a n' c) (by simp)).setCell (i := 2) (v := Value.slice b m' d) (by simp))
  have A_3 := HA.out.kp_old hln A_2 hkp (fun b hb => by show ¬ (b = _); omega)
  have B_3 := HB.out.kp_old hlm B_2 hkp (fun b hb => by show ¬ (b = _); omega)
  have hbel_3 := Below.set3 hbel_2 (show w.heap.size ≤ w.heap.size by omega) (Value.bool s) (Value.slice a n' c) (Value.slice b m' d)
  have hsz_3 := hkp.size
  have cX_3_0 : _ = some (Value.bool s) := X_3.cell 0
  have fX_3_0 := X_3.free 0
  have cX_3_1 : _ = some (Value.slice a n' c) := X_3.cell 1
  have fX_3_1 := X_3.free 1
  have cX_3_2 : _ = some (Value.slice b m' d) := X_3.cell 2
  have fX_3_2 := X_3.free 2
  go_wp2_with fail
  clear X_2 cX_2_0 fX_2_0 cX_2_1 fX_2_1 cX_2_2 fX_2_2 ha_2 hb_2 A_2 B_2 hbel_2 hkp
  generalize (((w2.setCell ⟨w.heap.size, 0, none⟩ (Value.bool s)).setCell ⟨w.heap.size, 1, none⟩ (Value.slice a n' c)).setCell ⟨w.heap.size, 2, none⟩ (Value.slice b m' d)) = v3 at *
  clear HA HB
  try rw [hu]
  clear hu
  go_wp2_with fail
  refine (flend A_3 B_3 (by omega) (by omega)).mono ?_
  rintro e w4 ⟨pa, pc, pb, pd, rfl, hL, hL', hB⟩
  have hB_4 : Below v3.heap.size v3 w4 := (by first | exact hB | exact below_drew hB | exact bel_alloc hB | exact below_drew (bel_alloc hB) | exact bel_alloc (below_drew hB) | exact bel_alloc (bel_alloc hB))
  have X_4 := X_3.next hB_4
  have cX_4_0 : _ = some (Value.bool s) := X_4.cell 0
  have fX_4_0 := X_4.free 0
  have cX_4_1 : _ = some (Value.slice a n' c) := X_4.cell 1
  have fX_4_1 := X_4.free 1
  have cX_4_2 : _ = some (Value.slice b m' d) := X_4.cell 2
  have fX_4_2 := X_4.free 2
  have A_4 := A_3.below hB_4
  have B_4 := B_3.below hB_4
  have hbel_4 := hbel_3.next hB_4
  have hsz_4 := hB_4.size
  clear X_3 cX_3_0 fX_3_0 cX_3_1 fX_3_1 cX_3_2 fX_3_2 A_3 B_3 hbel_3 hB_4
  have L_4 := hL
  have M_4 := hL'
  clear hL hL'
  try clear hB
  have hbx := blk_new w4 #[Value.bool s, Value.slice pa n' pc, Value.slice pb m' pd] 32
  have hbB := (Below.refl w4.heap.size w4).alloc (Nat.le_refl _) (.cells #[Value.bool s, Value.slice pa n' pc, Value.slice pb m' pd] 32)
  have hltP := hbx.lt
  have hB_5 : Below w4.heap.size w4 (w4.alloc (.cells #[Value.bool s, Value.slice pa n' pc, Value.slice pb m' pd] 32)) := hbB
  have X_5 := X_4.next hB_5
  have cX_5_0 : _ = some (Value.bool s) := X_5.cell 0
  have fX_5_0 := X_5.free 0
  have cX_5_1 : _ = some (Value.slice a n' c) := X_5.cell 1
  have fX_5_1 := X_5.free 1
  have cX_5_2 : _ = some (Value.slice b m' d) := X_5.cell 2
  have fX_5_2 := X_5.free 2
  have A_5 := A_4.below hB_5
  have B_5 := B_4.below hB_5
  have L_5 := L_4.below hB_5
  have M_5 := M_4.below hB_5
  have hbel_5 := hbel_4.next hB_5
  have hsz_5 := hB_5.size
  clear hB_5
  have P_5 := hbx
  clear hbx hbB
  have cP_5_0 : _ = some (Value.bool s) := P_5.cell 0
  have cP_5_1 : _ = some (Value.slice pa n' pc) := P_5.cell 1
  have cP_5_2 : _ = some (Value.slice pb m' pd) := P_5.cell 2
  go_wp2_with fail
  clear X_4 cX_4_0 fX_4_0 cX_4_1 fX_4_1 cX_4_2 fX_4_2 A_4 B_4 L_4 M_4 hbel_4
  generalize (w4.alloc (.cells #[Value.bool s, Value.slice pa n' pc, Value.slice pb m' pd] 32)) = v5 at *
  have mX := hid X_5
  have mP := hid P_5
  have mA := hid A_5
  have mB := hid B_5
  have mL := hid L_5
  have mM := hid M_5
  have mhbel := hid hbel_5
  have hbM_5 : Below v5.heap.size v5 v5 := Below.refl _ _
  have QA_5 := rdq_of (K := 40) s A_5 hn' B_5 hm'
  have QP_5 := rdq_of (K := 40) s L_5.2 hn' M_5.2 hm'
  generalize qv s (val l1) (val l2) = y at *
  have htt2 : ((qtx y).toList == (qtx y).toList) = true := beq_self_eq_true _
  go_wp2_with fail
  refine (qtext QP_5 (by omega)).mono ?_
  rintro e w6 ⟨rfl, hB⟩
  have hB_6 : Below v5.heap.size v5 w6 := (by first | exact hB | exact below_drew hB | exact bel_alloc hB | exact below_drew (bel_alloc hB) | exact bel_alloc (below_drew hB) | exact bel_alloc (bel_alloc hB))
  have X_6 := X_5.next hB_6
  have cX_6_0 : _ = some (Value.bool s) := X_6.cell 0
  have fX_6_0 := X_6.free 0
  have cX_6_1 : _ = some (Value.slice a n' c) := X_6.cell 1
  have fX_6_1 := X_6.free 1
  have cX_6_2 : _ = some (Value.slice b m' d) := X_6.cell 2
  have fX_6_2 := X_6.free 2
  have P_6 := P_5.next hB_6
  have cP_6_0 : _ = some (Value.bool s) := P_6.cell 0
  have cP_6_1 : _ = some (Value.slice pa n' pc) := P_6.cell 1
  have cP_6_2 : _ = some (Value.slice pb m' pd) := P_6.cell 2
  have A_6 := A_5.below hB_6
  have B_6 := B_5.below hB_6
  have L_6 := L_5.below hB_6
  have M_6 := M_5.below hB_6
  have hbM_6 := hbM_5.next hB_6
  have QA_6 := QA_5.below hB_6
  have QP_6 := QP_5.below hB_6
  have hbel_6 := hbel_5.next hB_6
  have hsz_6 := hB_6.size
  clear X_5 cX_5_0 fX_5_0 cX_5_1 fX_5_1 cX_5_2 fX_5_2 P_5 cP_5_0 cP_5_1 cP_5_2 A_5 B_5 L_5 M_5 hbM_5 QA_5 QP_5 hbel_5 hB_6
  try clear hB
  generalize hy : qtx y = ty at *
  have hyh := hid hy
  clear hy
  go_wp2_with fail
  refine (HP.out _).mono ?_
  rintro e w7 ⟨xa, xn, xc, xb, xm, xd, rfl, hO, hO', hDx, hB⟩
  have hB_7 : Below w6.heap.size w6 w7 := (by first | exact hB | exact below_drew hB | exact bel_alloc hB | exact below_drew (bel_alloc hB) | exact bel_alloc (below_drew hB) | exact bel_alloc (bel_alloc hB))
  have X_7 := X_6.next hB_7
  have cX_7_0 : _ = some (Value.bool s) := X_7.cell 0
  have fX_7_0 := X_7.free 0
  have cX_7_1 : _ = some (Value.slice a n' c) := X_7.cell 1
  have fX_7_1 := X_7.free 1
  have cX_7_2 : _ = some (Value.slice b m' d) := X_7.cell 2
  have fX_7_2 := X_7.free 2
  have P_7 := P_6.next hB_7
  have cP_7_0 : _ = some (Value.bool s) := P_7.cell 0
  have cP_7_1 : _ = some (Value.slice pa n' pc) := P_7.cell 1
  have cP_7_2 : _ = some (Value.slice pb m' pd) := P_7.cell 2
  have A_7 := A_6.below hB_7
  have B_7 := B_6.below hB_7
  have L_7 := L_6.below hB_7
  have M_7 := M_6.below hB_7
  have hbM_7 := hbM_6.next hB_7
  have QA_7 := QA_6.below hB_7
  have QP_7 := QP_6.below hB_7
  have hbel_7 := hbel_6.next hB_7
  have hsz_7 := hB_7.size
  clear X_6 cX_6_0 fX_6_0 cX_6_1 fX_6_1 cX_6_2 fX_6_2 P_6 cP_6_0 cP_6_1 cP_6_2 A_6 B_6 L_6 M_6 hbM_6 QA_6 QP_6 hbel_6 hB_7
  have Ox_7 := hO
  have ltOx := hO.ltB
  have Px_7 := hO'
  have ltPx := hO'.ltB
  clear hO hO'
  try clear hB
  have hbx := blk_new w7 #[Value.bool (qsg q er), Value.slice xa xn xc, Value.slice xb xm xd] 32
  have hbB := (Below.refl w7.heap.size w7).alloc (Nat.le_refl _) (.cells #[Value.bool (qsg q er), Value.slice xa xn xc, Value.slice xb xm xd] 32)
  have hltU := hbx.lt
  have hB_8 : Below w7.heap.size w7 (w7.alloc (.cells #[Value.bool (qsg q er), Value.slice xa xn xc, Value.slice xb xm xd] 32)) := hbB
  have X_8 := X_7.next hB_8
  have cX_8_0 : _ = some (Value.bool s) := X_8.cell 0
  have fX_8_0 := X_8.free 0
  have cX_8_1 : _ = some (Value.slice a n' c) := X_8.cell 1
  have fX_8_1 := X_8.free 1
  have cX_8_2 : _ = some (Value.slice b m' d) := X_8.cell 2
  have fX_8_2 := X_8.free 2
  have P_8 := P_7.next hB_8
  have cP_8_0 : _ = some (Value.bool s) := P_8.cell 0
  have cP_8_1 : _ = some (Value.slice pa n' pc) := P_8.cell 1
  have cP_8_2 : _ = some (Value.slice pb m' pd) := P_8.cell 2
  have A_8 := A_7.below hB_8
  have B_8 := B_7.below hB_8
  have L_8 := L_7.below hB_8
  have M_8 := M_7.below hB_8
  have hbM_8 := hbM_7.next hB_8
  have QA_8 := QA_7.below hB_8
  have QP_8 := QP_7.below hB_8
  have Ox_8 := Ox_7.below hB_8
  have Px_8 := Px_7.below hB_8
  have hbel_8 := hbel_7.next hB_8
  have hsz_8 := hB_8.size
  clear hB_8
  have U_8 := hbx
  clear hbx hbB
  have cU_8_0 : _ = some (Value.bool (qsg q er)) := U_8.cell 0
  have cU_8_1 : _ = some (Value.slice xa xn xc) := U_8.cell 1
  have cU_8_2 : _ = some (Value.slice xb xm xd) := U_8.cell 2
  go_wp2_with fail
  clear X_7 cX_7_0 fX_7_0 cX_7_1 fX_7_1 cX_7_2 fX_7_2 P_7 cP_7_0 cP_7_1 cP_7_2 A_7 B_7 L_7 M_7 hbM_7 QA_7 QP_7 Ox_7 Px_7 hbel_7
  generalize (w7.alloc (.cells #[Value.bool (qsg q er), Value.slice xa xn xc, Value.slice xb xm xd] 32)) = v8 at *
  go_wp2_with fail
  refine (HR.out _).mono ?_
  rintro e w9 ⟨oa, on, oc, ob, om, od, rfl, hO, hO', hDo, hB⟩
  have hB_9 : Below v8.heap.size v8 w9 := (by first | exact hB | exact below_drew hB | exact bel_alloc hB | exact below_drew (bel_alloc hB) | exact bel_alloc (below_drew hB) | exact bel_alloc (bel_alloc hB))
  have X_9 := X_8.next hB_9
  have cX_9_0 : _ = some (Value.bool s) := X_9.cell 0
  have fX_9_0 := X_9.free 0
  have cX_9_1 : _ = some (Value.slice a n' c) := X_9.cell 1
  have fX_9_1 := X_9.free 1
  have cX_9_2 : _ = some (Value.slice b m' d) := X_9.cell 2
  have fX_9_2 := X_9.free 2
  have P_9 := P_8.next hB_9
  have cP_9_0 : _ = some (Value.bool s) := P_9.cell 0
  have cP_9_1 : _ = some (Value.slice pa n' pc) := P_9.cell 1
  have cP_9_2 : _ = some (Value.slice pb m' pd) := P_9.cell 2
  have U_9 := U_8.next hB_9
  have cU_9_0 : _ = some (Value.bool (qsg q er)) := U_9.cell 0
  have cU_9_1 : _ = some (Value.slice xa xn xc) := U_9.cell 1
  have cU_9_2 : _ = some (Value.slice xb xm xd) := U_9.cell 2
  have A_9 := A_8.below hB_9
  have B_9 := B_8.below hB_9
  have L_9 := L_8.below hB_9
  have M_9 := M_8.below hB_9
  have hbM_9 := hbM_8.next hB_9
  have QA_9 := QA_8.below hB_9
  have QP_9 := QP_8.below hB_9
  have Ox_9 := Ox_8.below hB_9
  have Px_9 := Px_8.below hB_9
  have hbel_9 := hbel_8.next hB_9
  have hsz_9 := hB_9.size
  clear X_8 cX_8_0 fX_8_0 cX_8_1 fX_8_1 cX_8_2 fX_8_2 P_8 cP_8_0 cP_8_1 cP_8_2 U_8 cU_8_0 cU_8_1 cU_8_2 A_8 B_8 L_8 M_8 hbM_8 QA_8 QP_8 Ox_8 Px_8 hbel_8 hB_9
  have Oo_9 := hO
  have ltOo := hO.ltB
  have Po_9 := hO'
  have ltPo := hO'.ltB
  clear hO hO'
  try clear hB
  have hbx := blk_new w9 #[Value.bool (qsg q er), Value.slice oa on oc, Value.slice ob om od] 32
  have hbB := (Below.refl w9.heap.size w9).alloc (Nat.le_refl _) (.cells #[Value.bool (qsg q er), Value.slice oa on oc, Value.slice ob om od] 32)
  have hltV := hbx.lt
  have hB_10 : Below w9.heap.size w9 (w9.alloc (.cells #[Value.bool (qsg q er), Value.slice oa on oc, Value.slice ob om od] 32)) := hbB
  have X_10 := X_9.next hB_10
  have cX_10_0 : _ = some (Value.bool s) := X_10.cell 0
  have fX_10_0 := X_10.free 0
  have cX_10_1 : _ = some (Value.slice a n' c) := X_10.cell 1
  have fX_10_1 := X_10.free 1
  have cX_10_2 : _ = some (Value.slice b m' d) := X_10.cell 2
  have fX_10_2 := X_10.free 2
  have P_10 := P_9.next hB_10
  have cP_10_0 : _ = some (Value.bool s) := P_10.cell 0
  have cP_10_1 : _ = some (Value.slice pa n' pc) := P_10.cell 1
  have cP_10_2 : _ = some (Value.slice pb m' pd) := P_10.cell 2
  have U_10 := U_9.next hB_10
  have cU_10_0 : _ = some (Value.bool (qsg q er)) := U_10.cell 0
  have cU_10_1 : _ = some (Value.slice xa xn xc) := U_10.cell 1
  have cU_10_2 : _ = some (Value.slice xb xm xd) := U_10.cell 2
  have A_10 := A_9.below hB_10
  have B_10 := B_9.below hB_10
  have L_10 := L_9.below hB_10
  have M_10 := M_9.below hB_10
  have hbM_10 := hbM_9.next hB_10
  have QA_10 := QA_9.below hB_10
  have QP_10 := QP_9.below hB_10
  have Ox_10 := Ox_9.below hB_10
  have Px_10 := Px_9.below hB_10
  have Oo_10 := Oo_9.below hB_10
  have Po_10 := Po_9.below hB_10
  have hbel_10 := hbel_9.next hB_10
  have hsz_10 := hB_10.size
  clear hB_10
  have V_10 := hbx
  clear hbx hbB
  have cV_10_0 : _ = some (Value.bool (qsg q er)) := V_10.cell 0
  have cV_10_1 : _ = some (Value.slice oa on oc) := V_10.cell 1
  have cV_10_2 : _ = some (Value.slice ob om od) := V_10.cell 2
  go_wp2_with fail
  clear X_9 cX_9_0 fX_9_0 cX_9_1 fX_9_1 cX_9_2 fX_9_2 P_9 cP_9_0 cP_9_1 cP_9_2 U_9 cU_9_0 cU_9_1 cU_9_2 A_9 B_9 L_9 M_9 hbM_9 QA_9 QP_9 Ox_9 Px_9 Oo_9 Po_9 hbel_9
  generalize (w9.alloc (.cells #[Value.bool (qsg q er), Value.slice oa on oc, Value.slice ob om od] 32)) = v10 at *
  go_wp2_with fail
  refine (rqtext QA_10 (by omega)).mono ?_
  rw [hyh.out]
  rintro e w11 ⟨rfl, hB⟩
  have hB_11 : Below v10.heap.size v10 w11 := (by first | exact hB | exact below_drew hB | exact bel_alloc hB | exact below_drew (bel_alloc hB) | exact bel_alloc (below_drew hB) | exact bel_alloc (bel_alloc hB))
  have X_11 := X_10.next hB_11
  have cX_11_0 : _ = some (Value.bool s) := X_11.cell 0
  have fX_11_0 := X_11.free 0
  have cX_11_1 : _ = some (Value.slice a n' c) := X_11.cell 1
  have fX_11_1 := X_11.free 1
  have cX_11_2 : _ = some (Value.slice b m' d) := X_11.cell 2
  have fX_11_2 := X_11.free 2
  have P_11 := P_10.next hB_11
  have cP_11_0 : _ = some (Value.bool s) := P_11.cell 0
  have cP_11_1 : _ = some (Value.slice pa n' pc) := P_11.cell 1
  have cP_11_2 : _ = some (Value.slice pb m' pd) := P_11.cell 2
  have U_11 := U_10.next hB_11
  have cU_11_0 : _ = some (Value.bool (qsg q er)) := U_11.cell 0
  have cU_11_1 : _ = some (Value.slice xa xn xc) := U_11.cell 1
  have cU_11_2 : _ = some (Value.slice xb xm xd) := U_11.cell 2
  have V_11 := V_10.next hB_11
  have cV_11_0 : _ = some (Value.bool (qsg q er)) := V_11.cell 0
  have cV_11_1 : _ = some (Value.slice oa on oc) := V_11.cell 1
  have cV_11_2 : _ = some (Value.slice ob om od) := V_11.cell 2
  have A_11 := A_10.below hB_11
  have B_11 := B_10.below hB_11
  have L_11 := L_10.below hB_11
  have M_11 := M_10.below hB_11
  have hbM_11 := hbM_10.next hB_11
  have QA_11 := QA_10.below hB_11
  have QP_11 := QP_10.below hB_11
  have Ox_11 := Ox_10.below hB_11
  have Px_11 := Px_10.below hB_11
  have Oo_11 := Oo_10.below hB_11
  have Po_11 := Po_10.below hB_11
  have hbel_11 := hbel_10.next hB_11
  have hsz_11 := hB_11.size
  clear X_10 cX_10_0 fX_10_0 cX_10_1 fX_10_1 cX_10_2 fX_10_2 P_10 cP_10_0 cP_10_1 cP_10_2 U_10 cU_10_0 cU_10_1 cU_10_2 V_10 cV_10_0 cV_10_1 cV_10_2 A_10 B_10 L_10 M_10 hbM_10 QA_10 QP_10 Ox_10 Px_10 Oo_10 Po_10 hbel_10 hB_11
  try clear hB
  go_wp2_with fail
  refine (qsame_true Ox_11.rd Px_11.rd Oo_11.rd Po_11.rd).mono ?_
  rintro e w12 ⟨rfl, hB⟩
  have hB_12 : Below w11.heap.size w11 w12 := (by first | exact hB | exact below_drew hB | exact bel_alloc hB | exact below_drew (bel_alloc hB) | exact bel_alloc (below_drew hB) | exact bel_alloc (bel_alloc hB))
  have X_12 := X_11.next hB_12
  have cX_12_0 : _ = some (Value.bool s) := X_12.cell 0
  have fX_12_0 := X_12.free 0
  have cX_12_1 : _ = some (Value.slice a n' c) := X_12.cell 1
  have fX_12_1 := X_12.free 1
  have cX_12_2 : _ = some (Value.slice b m' d) := X_12.cell 2
  have fX_12_2 := X_12.free 2
  have P_12 := P_11.next hB_12
  have cP_12_0 : _ = some (Value.bool s) := P_12.cell 0
  have cP_12_1 : _ = some (Value.slice pa n' pc) := P_12.cell 1
  have cP_12_2 : _ = some (Value.slice pb m' pd) := P_12.cell 2
  have U_12 := U_11.next hB_12
  have cU_12_0 : _ = some (Value.bool (qsg q er)) := U_12.cell 0
  have cU_12_1 : _ = some (Value.slice xa xn xc) := U_12.cell 1
  have cU_12_2 : _ = some (Value.slice xb xm xd) := U_12.cell 2
  have V_12 := V_11.next hB_12
  have cV_12_0 : _ = some (Value.bool (qsg q er)) := V_12.cell 0
  have cV_12_1 : _ = some (Value.slice oa on oc) := V_12.cell 1
  have cV_12_2 : _ = some (Value.slice ob om od) := V_12.cell 2
  have A_12 := A_11.below hB_12
  have B_12 := B_11.below hB_12
  have L_12 := L_11.below hB_12
  have M_12 := M_11.below hB_12
  have hbM_12 := hbM_11.next hB_12
  have QA_12 := QA_11.below hB_12
  have QP_12 := QP_11.below hB_12
  have Ox_12 := Ox_11.below hB_12
  have Px_12 := Px_11.below hB_12
  have Oo_12 := Oo_11.below hB_12
  have Po_12 := Po_11.below hB_12
  have hbel_12 := hbel_11.next hB_12
  have hsz_12 := hB_12.size
  clear X_11 cX_11_0 fX_11_0 cX_11_1 fX_11_1 cX_11_2 fX_11_2 P_11 cP_11_0 cP_11_1 cP_11_2 U_11 cU_11_0 cU_11_1 cU_11_2 V_11 cV_11_0 cV_11_1 cV_11_2 A_11 B_11 L_11 M_11 hbM_11 QA_11 QP_11 Ox_11 Px_11 Oo_11 Po_11 hbel_11 hB_12
  try clear hB
  have hbx := blk_new w12 #[Value.bool (qsg q er), Value.slice xa xn xc, Value.slice xb xm xd] 32
  have hbB := (Below.refl w12.heap.size w12).alloc (Nat.le_refl _) (.cells #[Value.bool (qsg q er), Value.slice xa xn xc, Value.slice xb xm xd] 32)
  have hltROW := hbx.lt
  have hB_13 : Below w12.heap.size w12 (w12.alloc (.cells #[Value.bool (qsg q er), Value.slice xa xn xc, Value.slice xb xm xd] 32)) := hbB
  have X_13 := X_12.next hB_13
  have cX_13_0 : _ = some (Value.bool s) := X_13.cell 0
  have fX_13_0 := X_13.free 0
  have cX_13_1 : _ = some (Value.slice a n' c) := X_13.cell 1
  have fX_13_1 := X_13.free 1
  have cX_13_2 : _ = some (Value.slice b m' d) := X_13.cell 2
  have fX_13_2 := X_13.free 2
  have P_13 := P_12.next hB_13
  have cP_13_0 : _ = some (Value.bool s) := P_13.cell 0
  have cP_13_1 : _ = some (Value.slice pa n' pc) := P_13.cell 1
  have cP_13_2 : _ = some (Value.slice pb m' pd) := P_13.cell 2
  have U_13 := U_12.next hB_13
  have cU_13_0 : _ = some (Value.bool (qsg q er)) := U_13.cell 0
  have cU_13_1 : _ = some (Value.slice xa xn xc) := U_13.cell 1
  have cU_13_2 : _ = some (Value.slice xb xm xd) := U_13.cell 2
  have V_13 := V_12.next hB_13
  have cV_13_0 : _ = some (Value.bool (qsg q er)) := V_13.cell 0
  have cV_13_1 : _ = some (Value.slice oa on oc) := V_13.cell 1
  have cV_13_2 : _ = some (Value.slice ob om od) := V_13.cell 2
  have A_13 := A_12.below hB_13
  have B_13 := B_12.below hB_13
  have L_13 := L_12.below hB_13
  have M_13 := M_12.below hB_13
  have hbM_13 := hbM_12.next hB_13
  have QA_13 := QA_12.below hB_13
  have QP_13 := QP_12.below hB_13
  have Ox_13 := Ox_12.below hB_13
  have Px_13 := Px_12.below hB_13
  have Oo_13 := Oo_12.below hB_13
  have Po_13 := Po_12.below hB_13
  have hbel_13 := hbel_12.next hB_13
  have hsz_13 := hB_13.size
  clear hB_13
  have ROW_13 := hbx
  clear hbx hbB
  have cROW_13_0 : _ = some (Value.bool (qsg q er)) := ROW_13.cell 0
  have cROW_13_1 : _ = some (Value.slice xa xn xc) := ROW_13.cell 1
  have cROW_13_2 : _ = some (Value.slice xb xm xd) := ROW_13.cell 2
  go_wp2_with fail
  clear X_12 cX_12_0 fX_12_0 cX_12_1 fX_12_1 cX_12_2 fX_12_2 P_12 cP_12_0 cP_12_1 cP_12_2 U_12 cU_12_0 cU_12_1 cU_12_2 V_12 cV_12_0 cV_12_1 cV_12_2 A_12 B_12 L_12 M_12 hbM_12 QA_12 QP_12 Ox_12 Px_12 Oo_12 Po_12 hbel_12
  generalize (w12.alloc (.cells #[Value.bool (qsg q er), Value.slice xa xn xc, Value.slice xb xm xd] 32)) = v13 at *
  have hl1 : xn ≤ 268435456 := by have := Ox_13.len; have := qnl_len (er := er) hqu.out; omega
  have hl2 : xm ≤ 268435456 := by have := Px_13.len; have := qdl_len (er := er) hqu.out; omega
  have hRG := rgot1 ROW_13 Ox_13 Px_13 hDx
  go_wp2_with fail
  refine (ownrats_any (c := 1) hRG (by omega) (by omega) (by omega) (by unfold maxLen; omega) (fun i _ => pick2_le hl1 hl2 i)).mono ?_
  rintro e wo ⟨rfl, hK2⟩
  have hM := below_own1 hbM_13 hK2 Ox_13 Px_13 (by omega) (by omega)
  clear hRG hK2
  have hbM_14 := hM
  have X_14 := mX.out.next hbM_14
  have P_14 := mP.out.next hbM_14
  have A_14 := mA.out.below hbM_14
  have B_14 := mB.out.below hbM_14
  have L_14 := mL.out.below hbM_14
  have M_14 := mM.out.below hbM_14
  have hbel_14 := mhbel.out.next hbM_14
  have hsz_14 := hbM_14.size
  clear X_13 P_13 U_13 V_13 ROW_13 cX_13_0 fX_13_0 cX_13_1 fX_13_1 cX_13_2 fX_13_2 cP_13_0 cP_13_1 cP_13_2 cU_13_0 cU_13_1 cU_13_2 cV_13_0 cV_13_1 cV_13_2 cROW_13_0 cROW_13_1 cROW_13_2 A_13 B_13 L_13 M_13 hbM_13 QA_13 QP_13 Ox_13 Px_13 Oo_13 Po_13 hbel_13
  have cX_14_0 : _ = some (Value.bool s) := X_14.cell 0
  have fX_14_0 := X_14.free 0
  have cX_14_1 : _ = some (Value.slice a n' c) := X_14.cell 1
  have fX_14_1 := X_14.free 1
  have cX_14_2 : _ = some (Value.slice b m' d) := X_14.cell 2
  have fX_14_2 := X_14.free 2
  have cP_14_0 : _ = some (Value.bool s) := P_14.cell 0
  have cP_14_1 : _ = some (Value.slice pa n' pc) := P_14.cell 1
  have cP_14_2 : _ = some (Value.slice pb m' pd) := P_14.cell 2
  clear hM
  go_wp2_with fail
  refine (fkept L_14 M_14 A_14 B_14).mono ?_
  rintro e w15 ⟨rfl, hB⟩
  have hB_15 : Below wo.heap.size wo w15 := (by first | exact hB | exact below_drew hB | exact bel_alloc hB | exact below_drew (bel_alloc hB) | exact bel_alloc (below_drew hB) | exact bel_alloc (bel_alloc hB))
  have X_15 := X_14.next hB_15
  have cX_15_0 : _ = some (Value.bool s) := X_15.cell 0
  have fX_15_0 := X_15.free 0
  have cX_15_1 : _ = some (Value.slice a n' c) := X_15.cell 1
  have fX_15_1 := X_15.free 1
  have cX_15_2 : _ = some (Value.slice b m' d) := X_15.cell 2
  have fX_15_2 := X_15.free 2
  have P_15 := P_14.next hB_15
  have cP_15_0 : _ = some (Value.bool s) := P_15.cell 0
  have cP_15_1 : _ = some (Value.slice pa n' pc) := P_15.cell 1
  have cP_15_2 : _ = some (Value.slice pb m' pd) := P_15.cell 2
  have A_15 := A_14.below hB_15
  have B_15 := B_14.below hB_15
  have L_15 := L_14.below hB_15
  have M_15 := M_14.below hB_15
  have hbM_15 := hbM_14.next hB_15
  have hbel_15 := hbel_14.next hB_15
  have hsz_15 := hB_15.size
  clear X_14 cX_14_0 fX_14_0 cX_14_1 fX_14_1 cX_14_2 fX_14_2 P_14 cP_14_0 cP_14_1 cP_14_2 A_14 B_14 L_14 M_14 hbM_14 hbel_14 hB_15
  try clear hB
  go_wp2
  go_ret
  exact ⟨rfl, hbel_15⟩

set_option maxRecDepth 100000 in
set_option maxHeartbeats 8000000 in
theorem fracText0 {w : World} {a b : Option Addr} {n c m d : Nat} {la lb : List Nat} (s : Bool) (ha : Rd w a n c la) (hb : Rd w b m d lb) (t : ByteArray) (ht : t.size ≤ maxLen) (hg : ¬ 400 < t.size) :
    Calls Try.prog 6 #[.agg #[.bool s, .slice a n c, .slice b m d], .string t] w (fun e w' => e = .returned (.bool true) ∧ Below w.heap.size w w') := by
  have hd : decide (400 < t.size) = false := decide_eq_false hg
  unfold maxLen at ht
  obtain ⟨u, hu⟩ : ∃ u, t = u := ⟨_, rfl⟩
  have hus : u.size ≤ 400 := by rw [← hu]; omega
  obtain ⟨K, hK⟩ : ∃ K, K = 401 := ⟨_, rfl⟩
  have hqu := hid (fp_sz (s := u) (K := K) (by omega) (by omega))
  have HP := hid (fun w => qparse (w := w) u (by omega))
  have HR := hid (fun w => rqparse (w := w) u (by omega))
  generalize fpQ u = q at *
  generalize fpE u = er at *
  have hee : (er == er) = true := beq_self_eq_true _
  subst hu
  have HA := hid ha
  have HB := hid hb
  have hent := ent1 w #[Value.bool s, Value.slice a n c, Value.slice b m d] 32
  go_enter Try.func6, Try.ntmps6
  go_wp2_with fail
  generalize (w.alloc (.cells #[Value.bool s, Value.slice a n c, Value.slice b m d] 32)) = W0 at hent ⊢
  obtain ⟨X_0, hbel_0, hsz_0⟩ := hent
  have cX_0_0 : _ = some (Value.bool s) := X_0.cell 0
  have fX_0_0 := X_0.free 0
  have cX_0_1 : _ = some (Value.slice a n c) := X_0.cell 1
  have fX_0_1 := X_0.free 1
  have cX_0_2 : _ = some (Value.slice b m d) := X_0.cell 2
  have fX_0_2 := X_0.free 2
  have ha_0 := ha.below hbel_0
  clear ha
  have hb_0 := hb.below hbel_0
  clear hb
  go_wp2_with fail
  refine (fawake).mono ?_
  rintro e w1 ⟨rfl, hB⟩
  have hB_1 : Below W0.heap.size W0 w1 := (by first | exact hB | exact below_drew hB | exact bel_alloc hB | exact below_drew (bel_alloc hB) | exact bel_alloc (below_drew hB) | exact bel_alloc (bel_alloc hB))
  have X_1 := X_0.next hB_1
  have cX_1_0 : _ = some (Value.bool s) := X_1.cell 0
  have fX_1_0 := X_1.free 0
  have cX_1_1 : _ = some (Value.slice a n c) := X_1.cell 1
  have fX_1_1 := X_1.free 1
  have cX_1_2 : _ = some (Value.slice b m d) := X_1.cell 2
  have fX_1_2 := X_1.free 2
  have ha_1 := ha_0.below hB_1
  have hb_1 := hb_0.below hB_1
  have hbel_1 := hbel_0.next hB_1
  have hsz_1 := hB_1.size
  clear X_0 cX_0_0 fX_0_0 cX_0_1 fX_0_1 cX_0_2 fX_0_2 ha_0 hb_0 hbel_0 hB_1
  try clear hB
  go_wp2_with fail
  refine (fcut 40 (by omega) ha_1 hb_1).mono ?_
  rintro e w2 ⟨n', l1, m', l2, rfl, hn', hm', hln, hlm, hR, hR', hB⟩
  have hB_2 : Below w1.heap.size w1 w2 := (by first | exact hB | exact below_drew hB | exact bel_alloc hB | exact below_drew (bel_alloc hB) | exact bel_alloc (below_drew hB) | exact bel_alloc (bel_alloc hB))
  have X_2 := X_1.next hB_2
  have cX_2_0 : _ = some (Value.bool s) := X_2.cell 0
  have fX_2_0 := X_2.free 0
  have cX_2_1 : _ = some (Value.slice a n c) := X_2.cell 1
  have fX_2_1 := X_2.free 1
  have cX_2_2 : _ = some (Value.slice b m d) := X_2.cell 2
  have fX_2_2 := X_2.free 2
  have ha_2 := ha_1.below hB_2
  have hb_2 := hb_1.below hB_2
  have hbel_2 := hbel_1.next hB_2
  have hsz_2 := hB_2.size
  clear X_1 cX_1_0 fX_1_0 cX_1_1 fX_1_1 cX_1_2 fX_1_2 ha_1 hb_1 hbel_1 hB_2
  have A_2 := hR
  have B_2 := hR'
  clear hR hR'
  try clear hB
  have hkp := kp_set3 w2 (w.heap.size) (Value.bool s) (Value.slice a n' c) (Value.slice b m' d)
  have X_3 := (show Blk _ _ #[Value.bool s, Value.slice a n' c, Value.slice b m' d] from (((X_2).setCell (i := 0) (v := Value.bool s) (by simp)).setCell (i := 1) (v := Value.slice a n' c) (by simp)).setCell (i := 2) (v := Value.slice b m' d) (by simp))
  have A_3 := HA.out.kp_old hln A_2 hkp (fun b hb => by show ¬ (b = _); omega)
  have B_3 := HB.out.kp_old hlm B_2 hkp (fun b hb => by show ¬ (b = _); omega)
  have hbel_3 := Below.set3 hbel_2 (show w.heap.size ≤ w.heap.size by omega) (Value.bool s) (Value.slice a n' c) (Value.slice b m' d)
  have hsz_3 := hkp.size
  have cX_3_0 : _ = some (Value.bool s) := X_3.cell 0
  have fX_3_0 := X_3.free 0
  have cX_3_1 : _ = some (Value.slice a n' c) := X_3.cell 1
  have fX_3_1 := X_3.free 1
  have cX_3_2 : _ = some (Value.slice b m' d) := X_3.cell 2
  have fX_3_2 := X_3.free 2
  go_wp2_with fail
  clear X_2 cX_2_0 fX_2_0 cX_2_1 fX_2_1 cX_2_2 fX_2_2 ha_2 hb_2 A_2 B_2 hbel_2 hkp
  generalize (((w2.setCell ⟨w.heap.size, 0, none⟩ (Value.bool s)).setCell ⟨w.heap.size, 1, none⟩ (Value.slice a n' c)).setCell ⟨w.heap.size, 2, none⟩ (Value.slice b m' d)) = v3 at *
  clear HA HB
  go_wp2_with fail
  refine (flend A_3 B_3 (by omega) (by omega)).mono ?_
  rintro e w4 ⟨pa, pc, pb, pd, rfl, hL, hL', hB⟩
  have hB_4 : Below v3.heap.size v3 w4 := (by first | exact hB | exact below_drew hB | exact bel_alloc hB | exact below_drew (bel_alloc hB) | exact bel_alloc (below_drew hB) | exact bel_alloc (bel_alloc hB))
  have X_4 := X_3.next hB_4
  have cX_4_0 : _ = some (Value.bool s) := X_4.cell 0
  have fX_4_0 := X_4.free 0
  have cX_4_1 : _ = some (Value.slice a n' c) := X_4.cell 1
  have fX_4_1 := X_4.free 1
  have cX_4_2 : _ = some (Value.slice b m' d) := X_4.cell 2
  have fX_4_2 := X_4.free 2
  have A_4 := A_3.below hB_4
  have B_4 := B_3.below hB_4
  have hbel_4 := hbel_3.next hB_4
  have hsz_4 := hB_4.size
  clear X_3 cX_3_0 fX_3_0 cX_3_1 fX_3_1 cX_3_2 fX_3_2 A_3 B_3 hbel_3 hB_4
  have L_4 := hL
  have M_4 := hL'
  clear hL hL'
  try clear hB
  have hbx := blk_new w4 #[Value.bool s, Value.slice pa n' pc, Value.slice pb m' pd] 32
  have hbB := (Below.refl w4.heap.size w4).alloc (Nat.le_refl _) (.cells #[Value.bool s, Value.slice pa n' pc, Value.slice pb m' pd] 32)
  have hltP := hbx.lt
  have hB_5 : Below w4.heap.size w4 (w4.alloc (.cells #[Value.bool s, Value.slice pa n' pc, Value.slice pb m' pd] 32)) := hbB
  have X_5 := X_4.next hB_5
  have cX_5_0 : _ = some (Value.bool s) := X_5.cell 0
  have fX_5_0 := X_5.free 0
  have cX_5_1 : _ = some (Value.slice a n' c) := X_5.cell 1
  have fX_5_1 := X_5.free 1
  have cX_5_2 : _ = some (Value.slice b m' d) := X_5.cell 2
  have fX_5_2 := X_5.free 2
  have A_5 := A_4.below hB_5
  have B_5 := B_4.below hB_5
  have L_5 := L_4.below hB_5
  have M_5 := M_4.below hB_5
  have hbel_5 := hbel_4.next hB_5
  have hsz_5 := hB_5.size
  clear hB_5
  have P_5 := hbx
  clear hbx hbB
  have cP_5_0 : _ = some (Value.bool s) := P_5.cell 0
  have cP_5_1 : _ = some (Value.slice pa n' pc) := P_5.cell 1
  have cP_5_2 : _ = some (Value.slice pb m' pd) := P_5.cell 2
  go_wp2_with fail
  clear X_4 cX_4_0 fX_4_0 cX_4_1 fX_4_1 cX_4_2 fX_4_2 A_4 B_4 L_4 M_4 hbel_4
  generalize (w4.alloc (.cells #[Value.bool s, Value.slice pa n' pc, Value.slice pb m' pd] 32)) = v5 at *
  have mX := hid X_5
  have mP := hid P_5
  have mA := hid A_5
  have mB := hid B_5
  have mL := hid L_5
  have mM := hid M_5
  have mhbel := hid hbel_5
  have hbM_5 : Below v5.heap.size v5 v5 := Below.refl _ _
  have QA_5 := rdq_of (K := 40) s A_5 hn' B_5 hm'
  have QP_5 := rdq_of (K := 40) s L_5.2 hn' M_5.2 hm'
  generalize qv s (val l1) (val l2) = y at *
  have htt2 : ((qtx y).toList == (qtx y).toList) = true := beq_self_eq_true _
  go_wp2_with fail
  refine (qtext QP_5 (by omega)).mono ?_
  rintro e w6 ⟨rfl, hB⟩
  have hB_6 : Below v5.heap.size v5 w6 := (by first | exact hB | exact below_drew hB | exact bel_alloc hB | exact below_drew (bel_alloc hB) | exact bel_alloc (below_drew hB) | exact bel_alloc (bel_alloc hB))
  have X_6 := X_5.next hB_6
  have cX_6_0 : _ = some (Value.bool s) := X_6.cell 0
  have fX_6_0 := X_6.free 0
  have cX_6_1 : _ = some (Value.slice a n' c) := X_6.cell 1
  have fX_6_1 := X_6.free 1
  have cX_6_2 : _ = some (Value.slice b m' d) := X_6.cell 2
  have fX_6_2 := X_6.free 2
  have P_6 := P_5.next hB_6
  have cP_6_0 : _ = some (Value.bool s) := P_6.cell 0
  have cP_6_1 : _ = some (Value.slice pa n' pc) := P_6.cell 1
  have cP_6_2 : _ = some (Value.slice pb m' pd) := P_6.cell 2
  have A_6 := A_5.below hB_6
  have B_6 := B_5.below hB_6
  have L_6 := L_5.below hB_6
  have M_6 := M_5.below hB_6
  have hbM_6 := hbM_5.next hB_6
  have QA_6 := QA_5.below hB_6
  have QP_6 := QP_5.below hB_6
  have hbel_6 := hbel_5.next hB_6
  have hsz_6 := hB_6.size
  clear X_5 cX_5_0 fX_5_0 cX_5_1 fX_5_1 cX_5_2 fX_5_2 P_5 cP_5_0 cP_5_1 cP_5_2 A_5 B_5 L_5 M_5 hbM_5 QA_5 QP_5 hbel_5 hB_6
  try clear hB
  generalize hy : qtx y = ty at *
  have hyh := hid hy
  clear hy
  go_wp2_with fail
  refine (HP.out _).mono ?_
  rintro e w7 ⟨xa, xn, xc, xb, xm, xd, rfl, hO, hO', hDx, hB⟩
  have hB_7 : Below w6.heap.size w6 w7 := (by first | exact hB | exact below_drew hB | exact bel_alloc hB | exact below_drew (bel_alloc hB) | exact bel_alloc (below_drew hB) | exact bel_alloc (bel_alloc hB))
  have X_7 := X_6.next hB_7
  have cX_7_0 : _ = some (Value.bool s) := X_7.cell 0
  have fX_7_0 := X_7.free 0
  have cX_7_1 : _ = some (Value.slice a n' c) := X_7.cell 1
  have fX_7_1 := X_7.free 1
  have cX_7_2 : _ = some (Value.slice b m' d) := X_7.cell 2
  have fX_7_2 := X_7.free 2
  have P_7 := P_6.next hB_7
  have cP_7_0 : _ = some (Value.bool s) := P_7.cell 0
  have cP_7_1 : _ = some (Value.slice pa n' pc) := P_7.cell 1
  have cP_7_2 : _ = some (Value.slice pb m' pd) := P_7.cell 2
  have A_7 := A_6.below hB_7
  have B_7 := B_6.below hB_7
  have L_7 := L_6.below hB_7
  have M_7 := M_6.below hB_7
  have hbM_7 := hbM_6.next hB_7
  have QA_7 := QA_6.below hB_7
  have QP_7 := QP_6.below hB_7
  have hbel_7 := hbel_6.next hB_7
  have hsz_7 := hB_7.size
  clear X_6 cX_6_0 fX_6_0 cX_6_1 fX_6_1 cX_6_2 fX_6_2 P_6 cP_6_0 cP_6_1 cP_6_2 A_6 B_6 L_6 M_6 hbM_6 QA_6 QP_6 hbel_6 hB_7
  have Ox_7 := hO
  have ltOx := hO.ltB
  have Px_7 := hO'
  have ltPx := hO'.ltB
  clear hO hO'
  try clear hB
  have hbx := blk_new w7 #[Value.bool (qsg q er), Value.slice xa xn xc, Value.slice xb xm xd] 32
  have hbB := (Below.refl w7.heap.size w7).alloc (Nat.le_refl _) (.cells #[Value.bool (qsg q er), Value.slice xa xn xc, Value.slice xb xm xd] 32)
  have hltU := hbx.lt
  have hB_8 : Below w7.heap.size w7 (w7.alloc (.cells #[Value.bool (qsg q er), Value.slice xa xn xc, Value.slice xb xm xd] 32)) := hbB
  have X_8 := X_7.next hB_8
  have cX_8_0 : _ = some (Value.bool s) := X_8.cell 0
  have fX_8_0 := X_8.free 0
  have cX_8_1 : _ = some (Value.slice a n' c) := X_8.cell 1
  have fX_8_1 := X_8.free 1
  have cX_8_2 : _ = some (Value.slice b m' d) := X_8.cell 2
  have fX_8_2 := X_8.free 2
  have P_8 := P_7.next hB_8
  have cP_8_0 : _ = some (Value.bool s) := P_8.cell 0
  have cP_8_1 : _ = some (Value.slice pa n' pc) := P_8.cell 1
  have cP_8_2 : _ = some (Value.slice pb m' pd) := P_8.cell 2
  have A_8 := A_7.below hB_8
  have B_8 := B_7.below hB_8
  have L_8 := L_7.below hB_8
  have M_8 := M_7.below hB_8
  have hbM_8 := hbM_7.next hB_8
  have QA_8 := QA_7.below hB_8
  have QP_8 := QP_7.below hB_8
  have Ox_8 := Ox_7.below hB_8
  have Px_8 := Px_7.below hB_8
  have hbel_8 := hbel_7.next hB_8
  have hsz_8 := hB_8.size
  clear hB_8
  have U_8 := hbx
  clear hbx hbB
  have cU_8_0 : _ = some (Value.bool (qsg q er)) := U_8.cell 0
  have cU_8_1 : _ = some (Value.slice xa xn xc) := U_8.cell 1
  have cU_8_2 : _ = some (Value.slice xb xm xd) := U_8.cell 2
  go_wp2_with fail
  clear X_7 cX_7_0 fX_7_0 cX_7_1 fX_7_1 cX_7_2 fX_7_2 P_7 cP_7_0 cP_7_1 cP_7_2 A_7 B_7 L_7 M_7 hbM_7 QA_7 QP_7 Ox_7 Px_7 hbel_7
  generalize (w7.alloc (.cells #[Value.bool (qsg q er), Value.slice xa xn xc, Value.slice xb xm xd] 32)) = v8 at *
  go_wp2_with fail
  refine (HR.out _).mono ?_
  rintro e w9 ⟨oa, on, oc, ob, om, od, rfl, hO, hO', hDo, hB⟩
  have hB_9 : Below v8.heap.size v8 w9 := (by first | exact hB | exact below_drew hB | exact bel_alloc hB | exact below_drew (bel_alloc hB) | exact bel_alloc (below_drew hB) | exact bel_alloc (bel_alloc hB))
  have X_9 := X_8.next hB_9
  have cX_9_0 : _ = some (Value.bool s) := X_9.cell 0
  have fX_9_0 := X_9.free 0
  have cX_9_1 : _ = some (Value.slice a n' c) := X_9.cell 1
  have fX_9_1 := X_9.free 1
  have cX_9_2 : _ = some (Value.slice b m' d) := X_9.cell 2
  have fX_9_2 := X_9.free 2
  have P_9 := P_8.next hB_9
  have cP_9_0 : _ = some (Value.bool s) := P_9.cell 0
  have cP_9_1 : _ = some (Value.slice pa n' pc) := P_9.cell 1
  have cP_9_2 : _ = some (Value.slice pb m' pd) := P_9.cell 2
  have U_9 := U_8.next hB_9
  have cU_9_0 : _ = some (Value.bool (qsg q er)) := U_9.cell 0
  have cU_9_1 : _ = some (Value.slice xa xn xc) := U_9.cell 1
  have cU_9_2 : _ = some (Value.slice xb xm xd) := U_9.cell 2
  have A_9 := A_8.below hB_9
  have B_9 := B_8.below hB_9
  have L_9 := L_8.below hB_9
  have M_9 := M_8.below hB_9
  have hbM_9 := hbM_8.next hB_9
  have QA_9 := QA_8.below hB_9
  have QP_9 := QP_8.below hB_9
  have Ox_9 := Ox_8.below hB_9
  have Px_9 := Px_8.below hB_9
  have hbel_9 := hbel_8.next hB_9
  have hsz_9 := hB_9.size
  clear X_8 cX_8_0 fX_8_0 cX_8_1 fX_8_1 cX_8_2 fX_8_2 P_8 cP_8_0 cP_8_1 cP_8_2 U_8 cU_8_0 cU_8_1 cU_8_2 A_8 B_8 L_8 M_8 hbM_8 QA_8 QP_8 Ox_8 Px_8 hbel_8 hB_9
  have Oo_9 := hO
  have ltOo := hO.ltB
  have Po_9 := hO'
  have ltPo := hO'.ltB
  clear hO hO'
  try clear hB
  have hbx := blk_new w9 #[Value.bool (qsg q er), Value.slice oa on oc, Value.slice ob om od] 32
  have hbB := (Below.refl w9.heap.size w9).alloc (Nat.le_refl _) (.cells #[Value.bool (qsg q er), Value.slice oa on oc, Value.slice ob om od] 32)
  have hltV := hbx.lt
  have hB_10 : Below w9.heap.size w9 (w9.alloc (.cells #[Value.bool (qsg q er), Value.slice oa on oc, Value.slice ob om od] 32)) := hbB
  have X_10 := X_9.next hB_10
  have cX_10_0 : _ = some (Value.bool s) := X_10.cell 0
  have fX_10_0 := X_10.free 0
  have cX_10_1 : _ = some (Value.slice a n' c) := X_10.cell 1
  have fX_10_1 := X_10.free 1
  have cX_10_2 : _ = some (Value.slice b m' d) := X_10.cell 2
  have fX_10_2 := X_10.free 2
  have P_10 := P_9.next hB_10
  have cP_10_0 : _ = some (Value.bool s) := P_10.cell 0
  have cP_10_1 : _ = some (Value.slice pa n' pc) := P_10.cell 1
  have cP_10_2 : _ = some (Value.slice pb m' pd) := P_10.cell 2
  have U_10 := U_9.next hB_10
  have cU_10_0 : _ = some (Value.bool (qsg q er)) := U_10.cell 0
  have cU_10_1 : _ = some (Value.slice xa xn xc) := U_10.cell 1
  have cU_10_2 : _ = some (Value.slice xb xm xd) := U_10.cell 2
  have A_10 := A_9.below hB_10
  have B_10 := B_9.below hB_10
  have L_10 := L_9.below hB_10
  have M_10 := M_9.below hB_10
  have hbM_10 := hbM_9.next hB_10
  have QA_10 := QA_9.below hB_10
  have QP_10 := QP_9.below hB_10
  have Ox_10 := Ox_9.below hB_10
  have Px_10 := Px_9.below hB_10
  have Oo_10 := Oo_9.below hB_10
  have Po_10 := Po_9.below hB_10
  have hbel_10 := hbel_9.next hB_10
  have hsz_10 := hB_10.size
  clear hB_10
  have V_10 := hbx
  clear hbx hbB
  have cV_10_0 : _ = some (Value.bool (qsg q er)) := V_10.cell 0
  have cV_10_1 : _ = some (Value.slice oa on oc) := V_10.cell 1
  have cV_10_2 : _ = some (Value.slice ob om od) := V_10.cell 2
  go_wp2_with fail
  clear X_9 cX_9_0 fX_9_0 cX_9_1 fX_9_1 cX_9_2 fX_9_2 P_9 cP_9_0 cP_9_1 cP_9_2 U_9 cU_9_0 cU_9_1 cU_9_2 A_9 B_9 L_9 M_9 hbM_9 QA_9 QP_9 Ox_9 Px_9 Oo_9 Po_9 hbel_9
  generalize (w9.alloc (.cells #[Value.bool (qsg q er), Value.slice oa on oc, Value.slice ob om od] 32)) = v10 at *
  go_wp2_with fail
  refine (rqtext QA_10 (by omega)).mono ?_
  rw [hyh.out]
  rintro e w11 ⟨rfl, hB⟩
  have hB_11 : Below v10.heap.size v10 w11 := (by first | exact hB | exact below_drew hB | exact bel_alloc hB | exact below_drew (bel_alloc hB) | exact bel_alloc (below_drew hB) | exact bel_alloc (bel_alloc hB))
  have X_11 := X_10.next hB_11
  have cX_11_0 : _ = some (Value.bool s) := X_11.cell 0
  have fX_11_0 := X_11.free 0
  have cX_11_1 : _ = some (Value.slice a n' c) := X_11.cell 1
  have fX_11_1 := X_11.free 1
  have cX_11_2 : _ = some (Value.slice b m' d) := X_11.cell 2
  have fX_11_2 := X_11.free 2
  have P_11 := P_10.next hB_11
  have cP_11_0 : _ = some (Value.bool s) := P_11.cell 0
  have cP_11_1 : _ = some (Value.slice pa n' pc) := P_11.cell 1
  have cP_11_2 : _ = some (Value.slice pb m' pd) := P_11.cell 2
  have U_11 := U_10.next hB_11
  have cU_11_0 : _ = some (Value.bool (qsg q er)) := U_11.cell 0
  have cU_11_1 : _ = some (Value.slice xa xn xc) := U_11.cell 1
  have cU_11_2 : _ = some (Value.slice xb xm xd) := U_11.cell 2
  have V_11 := V_10.next hB_11
  have cV_11_0 : _ = some (Value.bool (qsg q er)) := V_11.cell 0
  have cV_11_1 : _ = some (Value.slice oa on oc) := V_11.cell 1
  have cV_11_2 : _ = some (Value.slice ob om od) := V_11.cell 2
  have A_11 := A_10.below hB_11
  have B_11 := B_10.below hB_11
  have L_11 := L_10.below hB_11
  have M_11 := M_10.below hB_11
  have hbM_11 := hbM_10.next hB_11
  have QA_11 := QA_10.below hB_11
  have QP_11 := QP_10.below hB_11
  have Ox_11 := Ox_10.below hB_11
  have Px_11 := Px_10.below hB_11
  have Oo_11 := Oo_10.below hB_11
  have Po_11 := Po_10.below hB_11
  have hbel_11 := hbel_10.next hB_11
  have hsz_11 := hB_11.size
  clear X_10 cX_10_0 fX_10_0 cX_10_1 fX_10_1 cX_10_2 fX_10_2 P_10 cP_10_0 cP_10_1 cP_10_2 U_10 cU_10_0 cU_10_1 cU_10_2 V_10 cV_10_0 cV_10_1 cV_10_2 A_10 B_10 L_10 M_10 hbM_10 QA_10 QP_10 Ox_10 Px_10 Oo_10 Po_10 hbel_10 hB_11
  try clear hB
  go_wp2_with fail
  refine (qsame_true Ox_11.rd Px_11.rd Oo_11.rd Po_11.rd).mono ?_
  rintro e w12 ⟨rfl, hB⟩
  have hB_12 : Below w11.heap.size w11 w12 := (by first | exact hB | exact below_drew hB | exact bel_alloc hB | exact below_drew (bel_alloc hB) | exact bel_alloc (below_drew hB) | exact bel_alloc (bel_alloc hB))
  have X_12 := X_11.next hB_12
  have cX_12_0 : _ = some (Value.bool s) := X_12.cell 0
  have fX_12_0 := X_12.free 0
  have cX_12_1 : _ = some (Value.slice a n' c) := X_12.cell 1
  have fX_12_1 := X_12.free 1
  have cX_12_2 : _ = some (Value.slice b m' d) := X_12.cell 2
  have fX_12_2 := X_12.free 2
  have P_12 := P_11.next hB_12
  have cP_12_0 : _ = some (Value.bool s) := P_12.cell 0
  have cP_12_1 : _ = some (Value.slice pa n' pc) := P_12.cell 1
  have cP_12_2 : _ = some (Value.slice pb m' pd) := P_12.cell 2
  have U_12 := U_11.next hB_12
  have cU_12_0 : _ = some (Value.bool (qsg q er)) := U_12.cell 0
  have cU_12_1 : _ = some (Value.slice xa xn xc) := U_12.cell 1
  have cU_12_2 : _ = some (Value.slice xb xm xd) := U_12.cell 2
  have V_12 := V_11.next hB_12
  have cV_12_0 : _ = some (Value.bool (qsg q er)) := V_12.cell 0
  have cV_12_1 : _ = some (Value.slice oa on oc) := V_12.cell 1
  have cV_12_2 : _ = some (Value.slice ob om od) := V_12.cell 2
  have A_12 := A_11.below hB_12
  have B_12 := B_11.below hB_12
  have L_12 := L_11.below hB_12
  have M_12 := M_11.below hB_12
  have hbM_12 := hbM_11.next hB_12
  have QA_12 := QA_11.below hB_12
  have QP_12 := QP_11.below hB_12
  have Ox_12 := Ox_11.below hB_12
  have Px_12 := Px_11.below hB_12
  have Oo_12 := Oo_11.below hB_12
  have Po_12 := Po_11.below hB_12
  have hbel_12 := hbel_11.next hB_12
  have hsz_12 := hB_12.size
  clear X_11 cX_11_0 fX_11_0 cX_11_1 fX_11_1 cX_11_2 fX_11_2 P_11 cP_11_0 cP_11_1 cP_11_2 U_11 cU_11_0 cU_11_1 cU_11_2 V_11 cV_11_0 cV_11_1 cV_11_2 A_11 B_11 L_11 M_11 hbM_11 QA_11 QP_11 Ox_11 Px_11 Oo_11 Po_11 hbel_11 hB_12
  try clear hB
  have hbx := blk_new w12 #[Value.bool (qsg q er), Value.slice xa xn xc, Value.slice xb xm xd] 32
  have hbB := (Below.refl w12.heap.size w12).alloc (Nat.le_refl _) (.cells #[Value.bool (qsg q er), Value.slice xa xn xc, Value.slice xb xm xd] 32)
  have hltROW := hbx.lt
  have hB_13 : Below w12.heap.size w12 (w12.alloc (.cells #[Value.bool (qsg q er), Value.slice xa xn xc, Value.slice xb xm xd] 32)) := hbB
  have X_13 := X_12.next hB_13
  have cX_13_0 : _ = some (Value.bool s) := X_13.cell 0
  have fX_13_0 := X_13.free 0
  have cX_13_1 : _ = some (Value.slice a n' c) := X_13.cell 1
  have fX_13_1 := X_13.free 1
  have cX_13_2 : _ = some (Value.slice b m' d) := X_13.cell 2
  have fX_13_2 := X_13.free 2
  have P_13 := P_12.next hB_13
  have cP_13_0 : _ = some (Value.bool s) := P_13.cell 0
  have cP_13_1 : _ = some (Value.slice pa n' pc) := P_13.cell 1
  have cP_13_2 : _ = some (Value.slice pb m' pd) := P_13.cell 2
  have U_13 := U_12.next hB_13
  have cU_13_0 : _ = some (Value.bool (qsg q er)) := U_13.cell 0
  have cU_13_1 : _ = some (Value.slice xa xn xc) := U_13.cell 1
  have cU_13_2 : _ = some (Value.slice xb xm xd) := U_13.cell 2
  have V_13 := V_12.next hB_13
  have cV_13_0 : _ = some (Value.bool (qsg q er)) := V_13.cell 0
  have cV_13_1 : _ = some (Value.slice oa on oc) := V_13.cell 1
  have cV_13_2 : _ = some (Value.slice ob om od) := V_13.cell 2
  have A_13 := A_12.below hB_13
  have B_13 := B_12.below hB_13
  have L_13 := L_12.below hB_13
  have M_13 := M_12.below hB_13
  have hbM_13 := hbM_12.next hB_13
  have QA_13 := QA_12.below hB_13
  have QP_13 := QP_12.below hB_13
  have Ox_13 := Ox_12.below hB_13
  have Px_13 := Px_12.below hB_13
  have Oo_13 := Oo_12.below hB_13
  have Po_13 := Po_12.below hB_13
  have hbel_13 := hbel_12.next hB_13
  have hsz_13 := hB_13.size
  clear hB_13
  have ROW_13 := hbx
  clear hbx hbB
  have cROW_13_0 : _ = some (Value.bool (qsg q er)) := ROW_13.cell 0
  have cROW_13_1 : _ = some (Value.slice xa xn xc) := ROW_13.cell 1
  have cROW_13_2 : _ = some (Value.slice xb xm xd) := ROW_13.cell 2
  go_wp2_with fail
  clear X_12 cX_12_0 fX_12_0 cX_12_1 fX_12_1 cX_12_2 fX_12_2 P_12 cP_12_0 cP_12_1 cP_12_2 U_12 cU_12_0 cU_12_1 cU_12_2 V_12 cV_12_0 cV_12_1 cV_12_2 A_12 B_12 L_12 M_12 hbM_12 QA_12 QP_12 Ox_12 Px_12 Oo_12 Po_12 hbel_12
  generalize (w12.alloc (.cells #[Value.bool (qsg q er), Value.slice xa xn xc, Value.slice xb xm xd] 32)) = v13 at *
  have hl1 : xn ≤ 268435456 := by have := Ox_13.len; have := qnl_len (er := er) hqu.out; omega
  have hl2 : xm ≤ 268435456 := by have := Px_13.len; have := qdl_len (er := er) hqu.out; omega
  have hRG := rgot1 ROW_13 Ox_13 Px_13 hDx
  go_wp2_with fail
  refine (ownrats_any (c := 1) hRG (by omega) (by omega) (by omega) (by unfold maxLen; omega) (fun i _ => pick2_le hl1 hl2 i)).mono ?_
  rintro e wo ⟨rfl, hK2⟩
  have hM := below_own1 hbM_13 hK2 Ox_13 Px_13 (by omega) (by omega)
  clear hRG hK2
  have hbM_14 := hM
  have X_14 := mX.out.next hbM_14
  have P_14 := mP.out.next hbM_14
  have A_14 := mA.out.below hbM_14
  have B_14 := mB.out.below hbM_14
  have L_14 := mL.out.below hbM_14
  have M_14 := mM.out.below hbM_14
  have hbel_14 := mhbel.out.next hbM_14
  have hsz_14 := hbM_14.size
  clear X_13 P_13 U_13 V_13 ROW_13 cX_13_0 fX_13_0 cX_13_1 fX_13_1 cX_13_2 fX_13_2 cP_13_0 cP_13_1 cP_13_2 cU_13_0 cU_13_1 cU_13_2 cV_13_0 cV_13_1 cV_13_2 cROW_13_0 cROW_13_1 cROW_13_2 A_13 B_13 L_13 M_13 hbM_13 QA_13 QP_13 Ox_13 Px_13 Oo_13 Po_13 hbel_13
  have cX_14_0 : _ = some (Value.bool s) := X_14.cell 0
  have fX_14_0 := X_14.free 0
  have cX_14_1 : _ = some (Value.slice a n' c) := X_14.cell 1
  have fX_14_1 := X_14.free 1
  have cX_14_2 : _ = some (Value.slice b m' d) := X_14.cell 2
  have fX_14_2 := X_14.free 2
  have cP_14_0 : _ = some (Value.bool s) := P_14.cell 0
  have cP_14_1 : _ = some (Value.slice pa n' pc) := P_14.cell 1
  have cP_14_2 : _ = some (Value.slice pb m' pd) := P_14.cell 2
  clear hM
  go_wp2_with fail
  refine (fkept L_14 M_14 A_14 B_14).mono ?_
  rintro e w15 ⟨rfl, hB⟩
  have hB_15 : Below wo.heap.size wo w15 := (by first | exact hB | exact below_drew hB | exact bel_alloc hB | exact below_drew (bel_alloc hB) | exact bel_alloc (below_drew hB) | exact bel_alloc (bel_alloc hB))
  have X_15 := X_14.next hB_15
  have cX_15_0 : _ = some (Value.bool s) := X_15.cell 0
  have fX_15_0 := X_15.free 0
  have cX_15_1 : _ = some (Value.slice a n' c) := X_15.cell 1
  have fX_15_1 := X_15.free 1
  have cX_15_2 : _ = some (Value.slice b m' d) := X_15.cell 2
  have fX_15_2 := X_15.free 2
  have P_15 := P_14.next hB_15
  have cP_15_0 : _ = some (Value.bool s) := P_15.cell 0
  have cP_15_1 : _ = some (Value.slice pa n' pc) := P_15.cell 1
  have cP_15_2 : _ = some (Value.slice pb m' pd) := P_15.cell 2
  have A_15 := A_14.below hB_15
  have B_15 := B_14.below hB_15
  have L_15 := L_14.below hB_15
  have M_15 := M_14.below hB_15
  have hbM_15 := hbM_14.next hB_15
  have hbel_15 := hbel_14.next hB_15
  have hsz_15 := hB_15.size
  clear X_14 cX_14_0 fX_14_0 cX_14_1 fX_14_1 cX_14_2 fX_14_2 P_14 cP_14_0 cP_14_1 cP_14_2 A_14 B_14 L_14 M_14 hbM_14 hbel_14 hB_15
  try clear hB
  go_wp2
  go_ret
  exact ⟨rfl, hbel_15⟩

theorem fracText_walk {w : World} {a b : Option Addr} {n c m d : Nat} {la lb : List Nat} (s : Bool) (ha : Rd w a n c la) (hb : Rd w b m d lb) (t : ByteArray) (ht : t.size ≤ maxLen) : Calls Try.prog 6 #[.agg #[.bool s, .slice a n c, .slice b m d], .string t] w (fun e w' => e = .returned (.bool true) ∧ Below w.heap.size w w') := by
  by_cases h : 400 < t.size
  · exact fracText1 s ha hb t ht h
  · exact fracText0 s ha hb t ht h

end Go.Proofs.Ytenmjgnhneofjaa
