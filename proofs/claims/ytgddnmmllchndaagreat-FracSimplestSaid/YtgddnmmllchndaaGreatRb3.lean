/- WALKS OF FRACTIONS, 20: the simplest between two. -/
import Derived.Test.YtgddnmmllchndaaGreatRb
namespace Go.Proofs.YtgddnmmllchndaaGreat
set_option linter.unusedVariables false
set_option linter.unusedSimpArgs false
open Go.ChangeShapes Go.WideShapes Go.ChangeAt Go.RowKit Go.NatP

set_option maxRecDepth 100000 in
set_option maxHeartbeats 40000000 in
theorem qbtw3 {w : World} {a1 b1 : Option Addr} {n1 c1 m1 d1 : Nat} {s : Bool} {x : Rat} {a2 b2 : Option Addr} {n2 c2 m2 d2 : Nat} {t : Bool} {y : Rat} {J k : Nat} (hJ1 : 1 ≤ J) (hJ : J ≤ 200000) (hin : SmpIn x y) (hx : RdQ J w s a1 n1 c1 b1 m1 d1 x) (hy : RdQ J w t a2 n2 c2 b2 m2 d2 y) (ih : BtwC J k) (hk : x.den + y.den ≤ k + 1) (h1 : (x.floor : Rat) ≠ x) (h2 : ¬ (x.floor : Rat) + 1 ≤ y) :
    Calls Tryz.prog 134 #[.agg #[.bool s, .slice a1 n1 c1, .slice b1 m1 d1], .agg #[.bool t, .slice a2 n2 c2, .slice b2 m2 d2]] w (RetQ w (smp (k + 1) x y)) := by
  have hqx := hx.qs hJ1
  have hqy := hy.qs hJ1
  have sf : Sz x.floor.natAbs J := (floor_qs hin.pos hJ1 hqx).1
  have hqf := floor_qs hin.pos hJ1 hqx
  have hc := hid (cmpQ_lt (Rat.lt_of_le_of_ne (Rat.floor_le x) h1))
  rw [smp_succ3 h1 h2]
  have G := smp_go (k := k) hin hJ1 hqx hqy hk h1 h2
  obtain ⟨G1, G2, G3, G4, G5, G6, G7, G8, G9, G10⟩ := G
  have e1 := hid G7
  have e2 := hid (qE_pos G8)
  have e3 := hid (qE_pos G7)
  have e4 := hid (qE_pos G10)
  clear G7 G8 G10 e1 hk
  obtain ⟨c2', hc20⟩ : ∃ c, cmpQ ((x.floor : Rat) + 1) y = c := ⟨_, rfl⟩
  have hc3 : 0 < c2' := by rw [← hc20]; rcases cmpQ_cases ((x.floor : Rat) + 1) y with ⟨h, e⟩ | ⟨h, e⟩ | ⟨h, e⟩ <;> first | (rw [e]; omega) | (exfalso; exact h2 (Rat.le_of_lt h)) | (exfalso; exact h2 (by rw [h]; exact Rat.le_refl)) | (exfalso; exact absurd h2 (Rat.not_le.2 h))
  have hc2 := hid hc20
  clear hc20 h2
  clear hin h1
  generalize hf0 : x.floor = f at *
  have hf := hid hf0
  clear hf0
  have qp : QS ((f : Rat) + 1) (J + 2) := (hqf.add (show QS 1 1 from ⟨sz_one (by decide), sz_one (by decide)⟩)).mono (by omega)
  generalize hp0 : (f : Rat) + 1 = p at *
  have hp := hid hp0
  clear hp0
  have hqp := hid qp
  clear qp
  generalize hu0 : y - (f : Rat) = u at *
  have hu := hid hu0
  clear hu0
  generalize hv0 : x - (f : Rat) = v at *
  have hv := hid hv0
  clear hv0
  generalize hxx0 : 1 / u = xx at *
  have hxx := hid hxx0
  clear hxx0
  generalize hyy0 : 1 / v = yy at *
  have hyy := hid hyy0
  clear hyy0
  generalize hzz0 : smp k xx yy = zz at *
  have hzz := hid hzz0
  clear hzz0
  have qiz := hid (show QS (1 / zz) (J + 1) from by rw [Rat.div_def, Rat.one_mul]; exact (G9.inv hJ1).mono (by omega))
  generalize hiz0 : 1 / zz = iz at *
  have hiz := hid hiz0
  clear hiz0
  have HG1 := hid G1
  clear G1
  have HG2 := hid G2
  clear G2
  have HG3 := hid G3
  clear G3
  have HG4 := hid G4
  clear G4
  have HG5 := hid G5
  clear G5
  have HG6 := hid G6
  clear G6
  have HG9 := hid G9
  clear G9
  have hsf := hid sf
  clear sf hqf hqx hqy
  have hent := ent3 w #[Value.bool s, Value.slice a1 n1 c1, Value.slice b1 m1 d1] #[Value.bool t, Value.slice a2 n2 c2, Value.slice b2 m2 d2] #[Value.bool false, Value.slice none 0 0, Value.slice none 0 0] 38 38 38
  go_enter Tryz.func134, Tryz.ntmps134
  go_wp2_with fail
  generalize (((w.alloc (.cells #[Value.bool s, Value.slice a1 n1 c1, Value.slice b1 m1 d1] 38)).alloc (.cells #[Value.bool t, Value.slice a2 n2 c2, Value.slice b2 m2 d2] 38)).alloc (.cells #[Value.bool false, Value.slice none 0 0, Value.slice none 0 0] 38)) = W0 at hent ⊢
  obtain ⟨X_0, Y_0, R0_0, hbel_0, hsz_0⟩ := hent
  have cX_0_0 : _ = some (Value.bool s) := X_0.cell 0
  have cX_0_1 : _ = some (Value.slice a1 n1 c1) := X_0.cell 1
  have cX_0_2 : _ = some (Value.slice b1 m1 d1) := X_0.cell 2
  have cY_0_0 : _ = some (Value.bool t) := Y_0.cell 0
  have cY_0_1 : _ = some (Value.slice a2 n2 c2) := Y_0.cell 1
  have cY_0_2 : _ = some (Value.slice b2 m2 d2) := Y_0.cell 2
  have cR0_0_0 : _ = some (Value.bool false) := R0_0.cell 0
  have fR0_0_0 := R0_0.free 0
  have cR0_0_1 : _ = some (Value.slice none 0 0) := R0_0.cell 1
  have fR0_0_1 := R0_0.free 1
  have cR0_0_2 : _ = some (Value.slice none 0 0) := R0_0.cell 2
  have fR0_0_2 := R0_0.free 2
  have hx_0 := hx.below hbel_0
  clear hx
  have hy_0 := hy.below hbel_0
  clear hy
  go_wp2_with fail
  refine (zone_any).mono ?_
  rintro e w1 ⟨oa, on, oc, rfl, hO, hB⟩
  have hB_1 : Below W0.heap.size W0 w1 := (bl.next hB)
  have X_1 := X_0.next hB_1
  have cX_1_0 : _ = some (Value.bool s) := X_1.cell 0
  have cX_1_1 : _ = some (Value.slice a1 n1 c1) := X_1.cell 1
  have cX_1_2 : _ = some (Value.slice b1 m1 d1) := X_1.cell 2
  have Y_1 := Y_0.next hB_1
  have cY_1_0 : _ = some (Value.bool t) := Y_1.cell 0
  have cY_1_1 : _ = some (Value.slice a2 n2 c2) := Y_1.cell 1
  have cY_1_2 : _ = some (Value.slice b2 m2 d2) := Y_1.cell 2
  have R0_1 := R0_0.next hB_1
  have cR0_1_0 : _ = some (Value.bool false) := R0_1.cell 0
  have fR0_1_0 := R0_1.free 0
  have cR0_1_1 : _ = some (Value.slice none 0 0) := R0_1.cell 1
  have fR0_1_1 := R0_1.free 1
  have cR0_1_2 : _ = some (Value.slice none 0 0) := R0_1.cell 2
  have fR0_1_2 := R0_1.free 2
  have hx_1 := hx_0.below hB_1
  have hy_1 := hy_0.below hB_1
  have hbel_1 := hbel_0.next hB_1
  have hsz_1 := hB_1.size
  clear X_0 cX_0_0 cX_0_1 cX_0_2 Y_0 cY_0_0 cY_0_1 cY_0_2 R0_0 cR0_0_0 fR0_0_0 cR0_0_1 fR0_0_1 cR0_0_2 fR0_0_2 hx_0 hy_0 hbel_0 hB_1
  have Oo_1 := hO
  have ltOo := hO.ltB
  clear hO
  try clear hB
  go_wp2_with fail
  refine (of_any 1 (by omega) (by omega)).mono ?_
  rintro e w2 ⟨ob, om, od, rfl, hO, hB⟩
  have hB_2 : Below w1.heap.size w1 w2 := (bl.next hB)
  have X_2 := X_1.next hB_2
  have cX_2_0 : _ = some (Value.bool s) := X_2.cell 0
  have cX_2_1 : _ = some (Value.slice a1 n1 c1) := X_2.cell 1
  have cX_2_2 : _ = some (Value.slice b1 m1 d1) := X_2.cell 2
  have Y_2 := Y_1.next hB_2
  have cY_2_0 : _ = some (Value.bool t) := Y_2.cell 0
  have cY_2_1 : _ = some (Value.slice a2 n2 c2) := Y_2.cell 1
  have cY_2_2 : _ = some (Value.slice b2 m2 d2) := Y_2.cell 2
  have R0_2 := R0_1.next hB_2
  have cR0_2_0 : _ = some (Value.bool false) := R0_2.cell 0
  have fR0_2_0 := R0_2.free 0
  have cR0_2_1 : _ = some (Value.slice none 0 0) := R0_2.cell 1
  have fR0_2_1 := R0_2.free 1
  have cR0_2_2 : _ = some (Value.slice none 0 0) := R0_2.cell 2
  have fR0_2_2 := R0_2.free 2
  have hx_2 := hx_1.below hB_2
  have hy_2 := hy_1.below hB_2
  have Oo_2 := Oo_1.below hB_2
  have hbel_2 := hbel_1.next hB_2
  have hsz_2 := hB_2.size
  clear X_1 cX_1_0 cX_1_1 cX_1_2 Y_1 cY_1_0 cY_1_1 cY_1_2 R0_1 cR0_1_0 fR0_1_0 cR0_1_1 fR0_1_1 cR0_1_2 fR0_1_2 hx_1 hy_1 Oo_1 hbel_1 hB_2
  have Po_2 := hO
  have ltPo := hO.ltB
  clear hO
  try clear hB
  have hbx := blk_new w2 #[Value.bool false, Value.slice oa on oc, Value.slice ob om od] 38
  have hbB := (Below.refl w2.heap.size w2).alloc (Nat.le_refl _) (.cells #[Value.bool false, Value.slice oa on oc, Value.slice ob om od] 38)
  have hltO := hbx.lt
  have hB_3 : Below w2.heap.size w2 (w2.alloc (.cells #[Value.bool false, Value.slice oa on oc, Value.slice ob om od] 38)) := hbB
  have X_3 := X_2.next hB_3
  have cX_3_0 : _ = some (Value.bool s) := X_3.cell 0
  have cX_3_1 : _ = some (Value.slice a1 n1 c1) := X_3.cell 1
  have cX_3_2 : _ = some (Value.slice b1 m1 d1) := X_3.cell 2
  have Y_3 := Y_2.next hB_3
  have cY_3_0 : _ = some (Value.bool t) := Y_3.cell 0
  have cY_3_1 : _ = some (Value.slice a2 n2 c2) := Y_3.cell 1
  have cY_3_2 : _ = some (Value.slice b2 m2 d2) := Y_3.cell 2
  have R0_3 := R0_2.next hB_3
  have cR0_3_0 : _ = some (Value.bool false) := R0_3.cell 0
  have fR0_3_0 := R0_3.free 0
  have cR0_3_1 : _ = some (Value.slice none 0 0) := R0_3.cell 1
  have fR0_3_1 := R0_3.free 1
  have cR0_3_2 : _ = some (Value.slice none 0 0) := R0_3.cell 2
  have fR0_3_2 := R0_3.free 2
  have hx_3 := hx_2.below hB_3
  have hy_3 := hy_2.below hB_3
  have Oo_3 := Oo_2.below hB_3
  have Po_3 := Po_2.below hB_3
  have hbel_3 := hbel_2.next hB_3
  have hsz_3 := hB_3.size
  clear hB_3
  have O_3 := hbx
  clear hbx hbB
  have cO_3_0 : _ = some (Value.bool false) := O_3.cell 0
  have cO_3_1 : _ = some (Value.slice oa on oc) := O_3.cell 1
  have cO_3_2 : _ = some (Value.slice ob om od) := O_3.cell 2
  go_wp2_with fail
  clear X_2 cX_2_0 cX_2_1 cX_2_2 Y_2 cY_2_0 cY_2_1 cY_2_2 R0_2 cR0_2_0 fR0_2_0 cR0_2_1 fR0_2_1 cR0_2_2 fR0_2_2 hx_2 hy_2 Oo_2 Po_2 hbel_2
  generalize (w2.alloc (.cells #[Value.bool false, Value.slice oa on oc, Value.slice ob om od] 38)) = v3 at *
  have QO_3 := rdq_one Oo_3 Po_3
  clear Oo_3
  clear Po_3
  go_wp2_with fail
  refine (qfloor hx_3 (by omega)).mono ?_
  rw [hf.out]
  rintro e w4 ⟨fa, fn, fc, rfl, hO, hB⟩
  have hB_4 : Below v3.heap.size v3 w4 := (bl.next hB)
  have X_4 := X_3.next hB_4
  have cX_4_0 : _ = some (Value.bool s) := X_4.cell 0
  have cX_4_1 : _ = some (Value.slice a1 n1 c1) := X_4.cell 1
  have cX_4_2 : _ = some (Value.slice b1 m1 d1) := X_4.cell 2
  have Y_4 := Y_3.next hB_4
  have cY_4_0 : _ = some (Value.bool t) := Y_4.cell 0
  have cY_4_1 : _ = some (Value.slice a2 n2 c2) := Y_4.cell 1
  have cY_4_2 : _ = some (Value.slice b2 m2 d2) := Y_4.cell 2
  have R0_4 := R0_3.next hB_4
  have cR0_4_0 : _ = some (Value.bool false) := R0_4.cell 0
  have fR0_4_0 := R0_4.free 0
  have cR0_4_1 : _ = some (Value.slice none 0 0) := R0_4.cell 1
  have fR0_4_1 := R0_4.free 1
  have cR0_4_2 : _ = some (Value.slice none 0 0) := R0_4.cell 2
  have fR0_4_2 := R0_4.free 2
  have O_4 := O_3.next hB_4
  have cO_4_0 : _ = some (Value.bool false) := O_4.cell 0
  have cO_4_1 : _ = some (Value.slice oa on oc) := O_4.cell 1
  have cO_4_2 : _ = some (Value.slice ob om od) := O_4.cell 2
  have hx_4 := hx_3.below hB_4
  have hy_4 := hy_3.below hB_4
  have QO_4 := QO_3.below hB_4
  have hbel_4 := hbel_3.next hB_4
  have hsz_4 := hB_4.size
  clear X_3 cX_3_0 cX_3_1 cX_3_2 Y_3 cY_3_0 cY_3_1 cY_3_2 R0_3 cR0_3_0 fR0_3_0 cR0_3_1 fR0_3_1 cR0_3_2 fR0_3_2 O_3 cO_3_0 cO_3_1 cO_3_2 hx_3 hy_3 QO_3 hbel_3 hB_4
  have Of_4 := hO
  have ltOf := hO.ltB
  clear hO
  try clear hB
  go_wp2_with fail
  refine (of_any 1 (by omega) (by omega)).mono ?_
  rintro e w5 ⟨fb, fm, fd, rfl, hO, hB⟩
  have hB_5 : Below w4.heap.size w4 w5 := (bl.next hB)
  have X_5 := X_4.next hB_5
  have cX_5_0 : _ = some (Value.bool s) := X_5.cell 0
  have cX_5_1 : _ = some (Value.slice a1 n1 c1) := X_5.cell 1
  have cX_5_2 : _ = some (Value.slice b1 m1 d1) := X_5.cell 2
  have Y_5 := Y_4.next hB_5
  have cY_5_0 : _ = some (Value.bool t) := Y_5.cell 0
  have cY_5_1 : _ = some (Value.slice a2 n2 c2) := Y_5.cell 1
  have cY_5_2 : _ = some (Value.slice b2 m2 d2) := Y_5.cell 2
  have R0_5 := R0_4.next hB_5
  have cR0_5_0 : _ = some (Value.bool false) := R0_5.cell 0
  have fR0_5_0 := R0_5.free 0
  have cR0_5_1 : _ = some (Value.slice none 0 0) := R0_5.cell 1
  have fR0_5_1 := R0_5.free 1
  have cR0_5_2 : _ = some (Value.slice none 0 0) := R0_5.cell 2
  have fR0_5_2 := R0_5.free 2
  have O_5 := O_4.next hB_5
  have cO_5_0 : _ = some (Value.bool false) := O_5.cell 0
  have cO_5_1 : _ = some (Value.slice oa on oc) := O_5.cell 1
  have cO_5_2 : _ = some (Value.slice ob om od) := O_5.cell 2
  have hx_5 := hx_4.below hB_5
  have hy_5 := hy_4.below hB_5
  have QO_5 := QO_4.below hB_5
  have Of_5 := Of_4.below hB_5
  have hbel_5 := hbel_4.next hB_5
  have hsz_5 := hB_5.size
  clear X_4 cX_4_0 cX_4_1 cX_4_2 Y_4 cY_4_0 cY_4_1 cY_4_2 R0_4 cR0_4_0 fR0_4_0 cR0_4_1 fR0_4_1 cR0_4_2 fR0_4_2 O_4 cO_4_0 cO_4_1 cO_4_2 hx_4 hy_4 QO_4 Of_4 hbel_4 hB_5
  have Pf_5 := hO
  have ltPf := hO.ltB
  have hDf := ltOf.diff hO (by omega)
  clear hO
  try clear hB
  have hbx := blk_new w5 #[Value.bool (decide (f < 0)), Value.slice fa fn fc, Value.slice fb fm fd] 38
  have hbB := (Below.refl w5.heap.size w5).alloc (Nat.le_refl _) (.cells #[Value.bool (decide (f < 0)), Value.slice fa fn fc, Value.slice fb fm fd] 38)
  have hltN := hbx.lt
  have hB_6 : Below w5.heap.size w5 (w5.alloc (.cells #[Value.bool (decide (f < 0)), Value.slice fa fn fc, Value.slice fb fm fd] 38)) := hbB
  have X_6 := X_5.next hB_6
  have cX_6_0 : _ = some (Value.bool s) := X_6.cell 0
  have cX_6_1 : _ = some (Value.slice a1 n1 c1) := X_6.cell 1
  have cX_6_2 : _ = some (Value.slice b1 m1 d1) := X_6.cell 2
  have Y_6 := Y_5.next hB_6
  have cY_6_0 : _ = some (Value.bool t) := Y_6.cell 0
  have cY_6_1 : _ = some (Value.slice a2 n2 c2) := Y_6.cell 1
  have cY_6_2 : _ = some (Value.slice b2 m2 d2) := Y_6.cell 2
  have R0_6 := R0_5.next hB_6
  have cR0_6_0 : _ = some (Value.bool false) := R0_6.cell 0
  have fR0_6_0 := R0_6.free 0
  have cR0_6_1 : _ = some (Value.slice none 0 0) := R0_6.cell 1
  have fR0_6_1 := R0_6.free 1
  have cR0_6_2 : _ = some (Value.slice none 0 0) := R0_6.cell 2
  have fR0_6_2 := R0_6.free 2
  have O_6 := O_5.next hB_6
  have cO_6_0 : _ = some (Value.bool false) := O_6.cell 0
  have cO_6_1 : _ = some (Value.slice oa on oc) := O_6.cell 1
  have cO_6_2 : _ = some (Value.slice ob om od) := O_6.cell 2
  have hx_6 := hx_5.below hB_6
  have hy_6 := hy_5.below hB_6
  have QO_6 := QO_5.below hB_6
  have Of_6 := Of_5.below hB_6
  have Pf_6 := Pf_5.below hB_6
  have hbel_6 := hbel_5.next hB_6
  have hsz_6 := hB_6.size
  clear hB_6
  have N_6 := hbx
  clear hbx hbB
  have cN_6_0 : _ = some (Value.bool (decide (f < 0))) := N_6.cell 0
  have cN_6_1 : _ = some (Value.slice fa fn fc) := N_6.cell 1
  have cN_6_2 : _ = some (Value.slice fb fm fd) := N_6.cell 2
  go_wp2_with fail
  clear X_5 cX_5_0 cX_5_1 cX_5_2 Y_5 cY_5_0 cY_5_1 cY_5_2 R0_5 cR0_5_0 fR0_5_0 cR0_5_1 fR0_5_1 cR0_5_2 fR0_5_2 O_5 cO_5_0 cO_5_1 cO_5_2 hx_5 hy_5 QO_5 Of_5 Pf_5 hbel_5
  generalize (w5.alloc (.cells #[Value.bool (decide (f < 0)), Value.slice fa fn fc, Value.slice fb fm fd] 38)) = v6 at *
  have QN_6 := rdq_int Of_6 Pf_6 hsf.out hJ1
  clear Of_6
  clear Pf_6
  go_wp2_with fail
  refine (qcmp QN_6 (by omega) hx_6 (by omega)).mono ?_
  rw [hc.out]
  rintro e w7 ⟨rfl, hB⟩
  have hB_7 : Below v6.heap.size v6 w7 := (bl.next hB)
  have X_7 := X_6.next hB_7
  have cX_7_0 : _ = some (Value.bool s) := X_7.cell 0
  have cX_7_1 : _ = some (Value.slice a1 n1 c1) := X_7.cell 1
  have cX_7_2 : _ = some (Value.slice b1 m1 d1) := X_7.cell 2
  have Y_7 := Y_6.next hB_7
  have cY_7_0 : _ = some (Value.bool t) := Y_7.cell 0
  have cY_7_1 : _ = some (Value.slice a2 n2 c2) := Y_7.cell 1
  have cY_7_2 : _ = some (Value.slice b2 m2 d2) := Y_7.cell 2
  have R0_7 := R0_6.next hB_7
  have cR0_7_0 : _ = some (Value.bool false) := R0_7.cell 0
  have fR0_7_0 := R0_7.free 0
  have cR0_7_1 : _ = some (Value.slice none 0 0) := R0_7.cell 1
  have fR0_7_1 := R0_7.free 1
  have cR0_7_2 : _ = some (Value.slice none 0 0) := R0_7.cell 2
  have fR0_7_2 := R0_7.free 2
  have O_7 := O_6.next hB_7
  have cO_7_0 : _ = some (Value.bool false) := O_7.cell 0
  have cO_7_1 : _ = some (Value.slice oa on oc) := O_7.cell 1
  have cO_7_2 : _ = some (Value.slice ob om od) := O_7.cell 2
  have N_7 := N_6.next hB_7
  have cN_7_0 : _ = some (Value.bool (decide (f < 0))) := N_7.cell 0
  have cN_7_1 : _ = some (Value.slice fa fn fc) := N_7.cell 1
  have cN_7_2 : _ = some (Value.slice fb fm fd) := N_7.cell 2
  have hx_7 := hx_6.below hB_7
  have hy_7 := hy_6.below hB_7
  have QO_7 := QO_6.below hB_7
  have QN_7 := QN_6.below hB_7
  have hbel_7 := hbel_6.next hB_7
  have hsz_7 := hB_7.size
  clear X_6 cX_6_0 cX_6_1 cX_6_2 Y_6 cY_6_0 cY_6_1 cY_6_2 R0_6 cR0_6_0 fR0_6_0 cR0_6_1 fR0_6_1 cR0_6_2 fR0_6_2 O_6 cO_6_0 cO_6_1 cO_6_2 N_6 cN_6_0 cN_6_1 cN_6_2 hx_6 hy_6 QO_6 QN_6 hbel_6 hB_7
  try clear hB
  go_wp2_with fail
  refine (qadd QN_7 (by omega) QO_7 (by omega)).mono ?_
  rw [hp.out]
  rintro e w8 ⟨pa, pn, pc, pb, pm, pd, rfl, hO, hO', hDp, hB⟩
  have hB_8 : Below w7.heap.size w7 w8 := (bl.next hB)
  have X_8 := X_7.next hB_8
  have cX_8_0 : _ = some (Value.bool s) := X_8.cell 0
  have cX_8_1 : _ = some (Value.slice a1 n1 c1) := X_8.cell 1
  have cX_8_2 : _ = some (Value.slice b1 m1 d1) := X_8.cell 2
  have Y_8 := Y_7.next hB_8
  have cY_8_0 : _ = some (Value.bool t) := Y_8.cell 0
  have cY_8_1 : _ = some (Value.slice a2 n2 c2) := Y_8.cell 1
  have cY_8_2 : _ = some (Value.slice b2 m2 d2) := Y_8.cell 2
  have R0_8 := R0_7.next hB_8
  have cR0_8_0 : _ = some (Value.bool false) := R0_8.cell 0
  have fR0_8_0 := R0_8.free 0
  have cR0_8_1 : _ = some (Value.slice none 0 0) := R0_8.cell 1
  have fR0_8_1 := R0_8.free 1
  have cR0_8_2 : _ = some (Value.slice none 0 0) := R0_8.cell 2
  have fR0_8_2 := R0_8.free 2
  have O_8 := O_7.next hB_8
  have cO_8_0 : _ = some (Value.bool false) := O_8.cell 0
  have cO_8_1 : _ = some (Value.slice oa on oc) := O_8.cell 1
  have cO_8_2 : _ = some (Value.slice ob om od) := O_8.cell 2
  have N_8 := N_7.next hB_8
  have cN_8_0 : _ = some (Value.bool (decide (f < 0))) := N_8.cell 0
  have cN_8_1 : _ = some (Value.slice fa fn fc) := N_8.cell 1
  have cN_8_2 : _ = some (Value.slice fb fm fd) := N_8.cell 2
  have hx_8 := hx_7.below hB_8
  have hy_8 := hy_7.below hB_8
  have QO_8 := QO_7.below hB_8
  have QN_8 := QN_7.below hB_8
  have hbel_8 := hbel_7.next hB_8
  have hsz_8 := hB_8.size
  clear X_7 cX_7_0 cX_7_1 cX_7_2 Y_7 cY_7_0 cY_7_1 cY_7_2 R0_7 cR0_7_0 fR0_7_0 cR0_7_1 fR0_7_1 cR0_7_2 fR0_7_2 O_7 cO_7_0 cO_7_1 cO_7_2 N_7 cN_7_0 cN_7_1 cN_7_2 hx_7 hy_7 QO_7 QN_7 hbel_7 hB_8
  have Op_8 := hO
  have ltOp := hO.ltB
  have Pp_8 := hO'
  have ltPp := hO'.ltB
  clear hO hO'
  try clear hB
  have hbx := blk_new w8 #[Value.bool (decide ((p).num < 0)), Value.slice pa pn pc, Value.slice pb pm pd] 38
  have hbB := (Below.refl w8.heap.size w8).alloc (Nat.le_refl _) (.cells #[Value.bool (decide ((p).num < 0)), Value.slice pa pn pc, Value.slice pb pm pd] 38)
  have hltP := hbx.lt
  have hB_9 : Below w8.heap.size w8 (w8.alloc (.cells #[Value.bool (decide ((p).num < 0)), Value.slice pa pn pc, Value.slice pb pm pd] 38)) := hbB
  have X_9 := X_8.next hB_9
  have cX_9_0 : _ = some (Value.bool s) := X_9.cell 0
  have cX_9_1 : _ = some (Value.slice a1 n1 c1) := X_9.cell 1
  have cX_9_2 : _ = some (Value.slice b1 m1 d1) := X_9.cell 2
  have Y_9 := Y_8.next hB_9
  have cY_9_0 : _ = some (Value.bool t) := Y_9.cell 0
  have cY_9_1 : _ = some (Value.slice a2 n2 c2) := Y_9.cell 1
  have cY_9_2 : _ = some (Value.slice b2 m2 d2) := Y_9.cell 2
  have R0_9 := R0_8.next hB_9
  have cR0_9_0 : _ = some (Value.bool false) := R0_9.cell 0
  have fR0_9_0 := R0_9.free 0
  have cR0_9_1 : _ = some (Value.slice none 0 0) := R0_9.cell 1
  have fR0_9_1 := R0_9.free 1
  have cR0_9_2 : _ = some (Value.slice none 0 0) := R0_9.cell 2
  have fR0_9_2 := R0_9.free 2
  have O_9 := O_8.next hB_9
  have cO_9_0 : _ = some (Value.bool false) := O_9.cell 0
  have cO_9_1 : _ = some (Value.slice oa on oc) := O_9.cell 1
  have cO_9_2 : _ = some (Value.slice ob om od) := O_9.cell 2
  have N_9 := N_8.next hB_9
  have cN_9_0 : _ = some (Value.bool (decide (f < 0))) := N_9.cell 0
  have cN_9_1 : _ = some (Value.slice fa fn fc) := N_9.cell 1
  have cN_9_2 : _ = some (Value.slice fb fm fd) := N_9.cell 2
  have hx_9 := hx_8.below hB_9
  have hy_9 := hy_8.below hB_9
  have QO_9 := QO_8.below hB_9
  have QN_9 := QN_8.below hB_9
  have Op_9 := Op_8.below hB_9
  have Pp_9 := Pp_8.below hB_9
  have hbel_9 := hbel_8.next hB_9
  have hsz_9 := hB_9.size
  clear hB_9
  have P_9 := hbx
  clear hbx hbB
  have cP_9_0 : _ = some (Value.bool (decide ((p).num < 0))) := P_9.cell 0
  have cP_9_1 : _ = some (Value.slice pa pn pc) := P_9.cell 1
  have cP_9_2 : _ = some (Value.slice pb pm pd) := P_9.cell 2
  go_wp2_with fail
  clear X_8 cX_8_0 cX_8_1 cX_8_2 Y_8 cY_8_0 cY_8_1 cY_8_2 R0_8 cR0_8_0 fR0_8_0 cR0_8_1 fR0_8_1 cR0_8_2 fR0_8_2 O_8 cO_8_0 cO_8_1 cO_8_2 N_8 cN_8_0 cN_8_1 cN_8_2 hx_8 hy_8 QO_8 QN_8 Op_8 Pp_8 hbel_8
  generalize (w8.alloc (.cells #[Value.bool (decide ((p).num < 0)), Value.slice pa pn pc, Value.slice pb pm pd] 38)) = v9 at *
  have QP_9 := Op_9.rdQ Pp_9 hqp.out
  clear Op_9
  clear Pp_9
  go_wp2_with fail
  refine (qcmp QP_9 (by omega) hy_9 (by omega)).mono ?_
  rw [hc2.out]
  rintro e w10 ⟨rfl, hB⟩
  have hB_10 : Below v9.heap.size v9 w10 := (bl.next hB)
  have X_10 := X_9.next hB_10
  have cX_10_0 : _ = some (Value.bool s) := X_10.cell 0
  have cX_10_1 : _ = some (Value.slice a1 n1 c1) := X_10.cell 1
  have cX_10_2 : _ = some (Value.slice b1 m1 d1) := X_10.cell 2
  have Y_10 := Y_9.next hB_10
  have cY_10_0 : _ = some (Value.bool t) := Y_10.cell 0
  have cY_10_1 : _ = some (Value.slice a2 n2 c2) := Y_10.cell 1
  have cY_10_2 : _ = some (Value.slice b2 m2 d2) := Y_10.cell 2
  have R0_10 := R0_9.next hB_10
  have cR0_10_0 : _ = some (Value.bool false) := R0_10.cell 0
  have fR0_10_0 := R0_10.free 0
  have cR0_10_1 : _ = some (Value.slice none 0 0) := R0_10.cell 1
  have fR0_10_1 := R0_10.free 1
  have cR0_10_2 : _ = some (Value.slice none 0 0) := R0_10.cell 2
  have fR0_10_2 := R0_10.free 2
  have O_10 := O_9.next hB_10
  have cO_10_0 : _ = some (Value.bool false) := O_10.cell 0
  have cO_10_1 : _ = some (Value.slice oa on oc) := O_10.cell 1
  have cO_10_2 : _ = some (Value.slice ob om od) := O_10.cell 2
  have N_10 := N_9.next hB_10
  have cN_10_0 : _ = some (Value.bool (decide (f < 0))) := N_10.cell 0
  have cN_10_1 : _ = some (Value.slice fa fn fc) := N_10.cell 1
  have cN_10_2 : _ = some (Value.slice fb fm fd) := N_10.cell 2
  have P_10 := P_9.next hB_10
  have cP_10_0 : _ = some (Value.bool (decide ((p).num < 0))) := P_10.cell 0
  have cP_10_1 : _ = some (Value.slice pa pn pc) := P_10.cell 1
  have cP_10_2 : _ = some (Value.slice pb pm pd) := P_10.cell 2
  have hx_10 := hx_9.below hB_10
  have hy_10 := hy_9.below hB_10
  have QO_10 := QO_9.below hB_10
  have QN_10 := QN_9.below hB_10
  have QP_10 := QP_9.below hB_10
  have hbel_10 := hbel_9.next hB_10
  have hsz_10 := hB_10.size
  clear X_9 cX_9_0 cX_9_1 cX_9_2 Y_9 cY_9_0 cY_9_1 cY_9_2 R0_9 cR0_9_0 fR0_9_0 cR0_9_1 fR0_9_1 cR0_9_2 fR0_9_2 O_9 cO_9_0 cO_9_1 cO_9_2 N_9 cN_9_0 cN_9_1 cN_9_2 P_9 cP_9_0 cP_9_1 cP_9_2 hx_9 hy_9 QO_9 QN_9 QP_9 hbel_9 hB_10
  try clear hB
  go_wp2_with fail
  go_cut [8] (fun s8 wx => BoxQ w10 (xx) s8 wx)
  case first =>
    have acc_10 : Below w10.heap.size w10 w10 := Below.refl _ _
    go_wp2_with fail
    go_region_held3 (fun w' => w'.cell? ⟨w.heap.size, 0, none⟩ = some (Value.bool s) ∧ w'.cell? ⟨w.heap.size, 1, none⟩ = some (Value.slice a1 n1 c1) ∧ w'.cell? ⟨w.heap.size, 2, none⟩ = some (Value.slice b1 m1 d1) ∧ w'.cell? ⟨w.heap.size + 1, 0, none⟩ = some (Value.bool t) ∧ w'.cell? ⟨w.heap.size + 1, 1, none⟩ = some (Value.slice a2 n2 c2) ∧ w'.cell? ⟨w.heap.size + 1, 2, none⟩ = some (Value.slice b2 m2 d2) ∧ w'.cell? ⟨w2.heap.size, 0, none⟩ = some (Value.bool false) ∧ w'.cell? ⟨w2.heap.size, 1, none⟩ = some (Value.slice oa on oc) ∧ w'.cell? ⟨w2.heap.size, 2, none⟩ = some (Value.slice ob om od) ∧ w'.cell? ⟨w5.heap.size, 0, none⟩ = some (Value.bool (decide (f < 0))) ∧ w'.cell? ⟨w5.heap.size, 1, none⟩ = some (Value.slice fa fn fc) ∧ w'.cell? ⟨w5.heap.size, 2, none⟩ = some (Value.slice fb fm fd) ∧ w'.cell? ⟨w8.heap.size, 0, none⟩ = some (Value.bool (decide ((p).num < 0))) ∧ w'.cell? ⟨w8.heap.size, 1, none⟩ = some (Value.slice pa pn pc) ∧ w'.cell? ⟨w8.heap.size, 2, none⟩ = some (Value.slice pb pm pd))
      (first | exact ⟨cX_10_0, cX_10_1, cX_10_2, cY_10_0, cY_10_1, cY_10_2, cO_10_0, cO_10_1, cO_10_2, cN_10_0, cN_10_1, cN_10_2, cP_10_0, cP_10_1, cP_10_2⟩ | exact ⟨cX_11_0, cX_11_1, cX_11_2, cY_11_0, cY_11_1, cY_11_2, cO_11_0, cO_11_1, cO_11_2, cN_11_0, cN_11_1, cN_11_2, cP_11_0, cP_11_1, cP_11_2⟩ | exact ⟨cX_12_0, cX_12_1, cX_12_2, cY_12_0, cY_12_1, cY_12_2, cO_12_0, cO_12_1, cO_12_2, cN_12_0, cN_12_1, cN_12_2, cP_12_0, cP_12_1, cP_12_2⟩ | exact ⟨(cell_set3 (by omega) _ _ _).trans (cX_12_0), (cell_set3 (by omega) _ _ _).trans (cX_12_1), (cell_set3 (by omega) _ _ _).trans (cX_12_2), (cell_set3 (by omega) _ _ _).trans (cY_12_0), (cell_set3 (by omega) _ _ _).trans (cY_12_1), (cell_set3 (by omega) _ _ _).trans (cY_12_2), (cell_set3 (by omega) _ _ _).trans (cO_12_0), (cell_set3 (by omega) _ _ _).trans (cO_12_1), (cell_set3 (by omega) _ _ _).trans (cO_12_2), (cell_set3 (by omega) _ _ _).trans (cN_12_0), (cell_set3 (by omega) _ _ _).trans (cN_12_1), (cell_set3 (by omega) _ _ _).trans (cN_12_2), (cell_set3 (by omega) _ _ _).trans (cP_12_0), (cell_set3 (by omega) _ _ _).trans (cP_12_1), (cell_set3 (by omega) _ _ _).trans (cP_12_2)⟩ | exact ⟨(X_10.alloc _).cell 0, (X_10.alloc _).cell 1, (X_10.alloc _).cell 2, (Y_10.alloc _).cell 0, (Y_10.alloc _).cell 1, (Y_10.alloc _).cell 2, (O_10.alloc _).cell 0, (O_10.alloc _).cell 1, (O_10.alloc _).cell 2, (N_10.alloc _).cell 0, (N_10.alloc _).cell 1, (N_10.alloc _).cell 2, (P_10.alloc _).cell 0, (P_10.alloc _).cell 1, (P_10.alloc _).cell 2⟩ | exact ⟨(X_11.alloc _).cell 0, (X_11.alloc _).cell 1, (X_11.alloc _).cell 2, (Y_11.alloc _).cell 0, (Y_11.alloc _).cell 1, (Y_11.alloc _).cell 2, (O_11.alloc _).cell 0, (O_11.alloc _).cell 1, (O_11.alloc _).cell 2, (N_11.alloc _).cell 0, (N_11.alloc _).cell 1, (N_11.alloc _).cell 2, (P_11.alloc _).cell 0, (P_11.alloc _).cell 1, (P_11.alloc _).cell 2⟩ | exact ⟨(X_12.alloc _).cell 0, (X_12.alloc _).cell 1, (X_12.alloc _).cell 2, (Y_12.alloc _).cell 0, (Y_12.alloc _).cell 1, (Y_12.alloc _).cell 2, (O_12.alloc _).cell 0, (O_12.alloc _).cell 1, (O_12.alloc _).cell 2, (N_12.alloc _).cell 0, (N_12.alloc _).cell 1, (N_12.alloc _).cell 2, (P_12.alloc _).cell 0, (P_12.alloc _).cell 1, (P_12.alloc _).cell 2⟩ | go_keep)
      (first
        | (go_at_call 178; ((with_reducible refine (qsub (hy_10.below bl) (by omega) (QN_10.below bl) (by omega)).mono ?_); (rw [hu.out]; rintro e w11 ⟨ua, un, uc, ub, um, ud, rfl, hO, hO', hDu, hB⟩; have hB_11 : Below w10.heap.size w10 w11 := (bl.next hB); have X_11 := X_10.next hB_11; have cX_11_0 : _ = some (Value.bool s) := X_11.cell 0; have cX_11_1 : _ = some (Value.slice a1 n1 c1) := X_11.cell 1; have cX_11_2 : _ = some (Value.slice b1 m1 d1) := X_11.cell 2; have Y_11 := Y_10.next hB_11; have cY_11_0 : _ = some (Value.bool t) := Y_11.cell 0; have cY_11_1 : _ = some (Value.slice a2 n2 c2) := Y_11.cell 1; have cY_11_2 : _ = some (Value.slice b2 m2 d2) := Y_11.cell 2; have R0_11 := R0_10.next hB_11; have cR0_11_0 : _ = some (Value.bool false) := R0_11.cell 0; have fR0_11_0 := R0_11.free 0; have cR0_11_1 : _ = some (Value.slice none 0 0) := R0_11.cell 1; have fR0_11_1 := R0_11.free 1; have cR0_11_2 : _ = some (Value.slice none 0 0) := R0_11.cell 2; have fR0_11_2 := R0_11.free 2; have O_11 := O_10.next hB_11; have cO_11_0 : _ = some (Value.bool false) := O_11.cell 0; have cO_11_1 : _ = some (Value.slice oa on oc) := O_11.cell 1; have cO_11_2 : _ = some (Value.slice ob om od) := O_11.cell 2; have N_11 := N_10.next hB_11; have cN_11_0 : _ = some (Value.bool (decide (f < 0))) := N_11.cell 0; have cN_11_1 : _ = some (Value.slice fa fn fc) := N_11.cell 1; have cN_11_2 : _ = some (Value.slice fb fm fd) := N_11.cell 2; have P_11 := P_10.next hB_11; have cP_11_0 : _ = some (Value.bool (decide ((p).num < 0))) := P_11.cell 0; have cP_11_1 : _ = some (Value.slice pa pn pc) := P_11.cell 1; have cP_11_2 : _ = some (Value.slice pb pm pd) := P_11.cell 2; have hx_11 := hx_10.below hB_11; have hy_11 := hy_10.below hB_11; have QO_11 := QO_10.below hB_11; have QN_11 := QN_10.below hB_11; have QP_11 := QP_10.below hB_11; have hbel_11 := hbel_10.next hB_11; have hsz_11 := hB_11.size; clear X_10 cX_10_0 cX_10_1 cX_10_2 Y_10 cY_10_0 cY_10_1 cY_10_2 R0_10 cR0_10_0 fR0_10_0 cR0_10_1 fR0_10_1 cR0_10_2 fR0_10_2 O_10 cO_10_0 cO_10_1 cO_10_2 N_10 cN_10_0 cN_10_1 cN_10_2 P_10 cP_10_0 cP_10_1 cP_10_2 hx_10 hy_10 QO_10 QN_10 QP_10 hbel_10 hB_11; have acc_11 := acc_10.next (show Below _ _ _ from (bl.next hB)); (first | (have A := A.next (show Below _ _ _ from (bl.next hB)); have ltA := A.lt; have cA0 : _ = some (Value.bool false) := A.cell 0; have fA0 := A.free 0; have cA1 : _ = some (Value.slice none 0 0) := A.cell 1; have fA1 := A.free 1; have cA2 : _ = some (Value.slice none 0 0) := A.cell 2; have fA2 := A.free 2) | (have A := (blk_new' _ #[Value.bool false, Value.slice none 0 0, Value.slice none 0 0] 38 (g := w10.heap.size) rfl).next (by first | exact hB | exact below_drew hB); have ltA := A.lt; have cA0 : _ = some (Value.bool false) := A.cell 0; have fA0 := A.free 0; have cA1 : _ = some (Value.slice none 0 0) := A.cell 1; have fA1 := A.free 1; have cA2 : _ = some (Value.slice none 0 0) := A.cell 2; have fA2 := A.free 2) | skip); have QU_11 := hO.rdQ hO' HG2.out; clear hO hO'; try clear hB)))
        | (go_at_call 119; ((with_reducible refine (qdiv (QO_11.below bl) (by omega) (QU_11.below bl) (by omega)).mono ?_); (rw [hxx.out, retqe_k _ e2.out]; rintro e w12 ⟨qa, qn, qc, qb, qm, qd, rfl, hO, hO', hDq, hB⟩; have hB_12 : Below w11.heap.size w11 w12 := (bl.next hB); have X_12 := X_11.next hB_12; have cX_12_0 : _ = some (Value.bool s) := X_12.cell 0; have cX_12_1 : _ = some (Value.slice a1 n1 c1) := X_12.cell 1; have cX_12_2 : _ = some (Value.slice b1 m1 d1) := X_12.cell 2; have Y_12 := Y_11.next hB_12; have cY_12_0 : _ = some (Value.bool t) := Y_12.cell 0; have cY_12_1 : _ = some (Value.slice a2 n2 c2) := Y_12.cell 1; have cY_12_2 : _ = some (Value.slice b2 m2 d2) := Y_12.cell 2; have R0_12 := R0_11.next hB_12; have cR0_12_0 : _ = some (Value.bool false) := R0_12.cell 0; have fR0_12_0 := R0_12.free 0; have cR0_12_1 : _ = some (Value.slice none 0 0) := R0_12.cell 1; have fR0_12_1 := R0_12.free 1; have cR0_12_2 : _ = some (Value.slice none 0 0) := R0_12.cell 2; have fR0_12_2 := R0_12.free 2; have O_12 := O_11.next hB_12; have cO_12_0 : _ = some (Value.bool false) := O_12.cell 0; have cO_12_1 : _ = some (Value.slice oa on oc) := O_12.cell 1; have cO_12_2 : _ = some (Value.slice ob om od) := O_12.cell 2; have N_12 := N_11.next hB_12; have cN_12_0 : _ = some (Value.bool (decide (f < 0))) := N_12.cell 0; have cN_12_1 : _ = some (Value.slice fa fn fc) := N_12.cell 1; have cN_12_2 : _ = some (Value.slice fb fm fd) := N_12.cell 2; have P_12 := P_11.next hB_12; have cP_12_0 : _ = some (Value.bool (decide ((p).num < 0))) := P_12.cell 0; have cP_12_1 : _ = some (Value.slice pa pn pc) := P_12.cell 1; have cP_12_2 : _ = some (Value.slice pb pm pd) := P_12.cell 2; have hx_12 := hx_11.below hB_12; have hy_12 := hy_11.below hB_12; have QO_12 := QO_11.below hB_12; have QN_12 := QN_11.below hB_12; have QP_12 := QP_11.below hB_12; have QU_12 := QU_11.below hB_12; have hbel_12 := hbel_11.next hB_12; have hsz_12 := hB_12.size; clear X_11 cX_11_0 cX_11_1 cX_11_2 Y_11 cY_11_0 cY_11_1 cY_11_2 R0_11 cR0_11_0 fR0_11_0 cR0_11_1 fR0_11_1 cR0_11_2 fR0_11_2 O_11 cO_11_0 cO_11_1 cO_11_2 N_11 cN_11_0 cN_11_1 cN_11_2 P_11 cP_11_0 cP_11_1 cP_11_2 hx_11 hy_11 QO_11 QN_11 QP_11 QU_11 hbel_11 hB_12; have acc_12 := acc_11.next (show Below _ _ _ from (bl.next hB)); (first | (have A := A.next (show Below _ _ _ from (bl.next hB)); have ltA := A.lt; have cA0 : _ = some (Value.bool false) := A.cell 0; have fA0 := A.free 0; have cA1 : _ = some (Value.slice none 0 0) := A.cell 1; have fA1 := A.free 1; have cA2 : _ = some (Value.slice none 0 0) := A.cell 2; have fA2 := A.free 2) | (have A := (blk_new' _ #[Value.bool false, Value.slice none 0 0, Value.slice none 0 0] 38 (g := w11.heap.size) rfl).next (by first | exact hB | exact below_drew hB); have ltA := A.lt; have cA0 : _ = some (Value.bool false) := A.cell 0; have fA0 := A.free 0; have cA1 : _ = some (Value.slice none 0 0) := A.cell 1; have fA1 := A.free 1; have cA2 : _ = some (Value.slice none 0 0) := A.cell 2; have fA2 := A.free 2) | skip); try clear hB))))
    all_goals (go_wp2_with fail; go_meet; first | exact boxQ_new hO hO' (by first | omega | (simp; omega) | simp) acc_12 | exact boxQ_set A hO hO' (by first | omega | (simp; omega) | simp) (by first | omega | (simp; omega) | simp) acc_12)
  case rest =>
    obtain ⟨gA, Aa, An, Ac, Ab, Am, Ad, rfl, hbk, hgeA, hO, hO', awA, awA', hBc⟩ := hcut
    have hB_11 : Below w10.heap.size w10 wc := hBc
    have X_11 := X_10.next hB_11
    have cX_11_0 : _ = some (Value.bool s) := X_11.cell 0
    have cX_11_1 : _ = some (Value.slice a1 n1 c1) := X_11.cell 1
    have cX_11_2 : _ = some (Value.slice b1 m1 d1) := X_11.cell 2
    have Y_11 := Y_10.next hB_11
    have cY_11_0 : _ = some (Value.bool t) := Y_11.cell 0
    have cY_11_1 : _ = some (Value.slice a2 n2 c2) := Y_11.cell 1
    have cY_11_2 : _ = some (Value.slice b2 m2 d2) := Y_11.cell 2
    have R0_11 := R0_10.next hB_11
    have cR0_11_0 : _ = some (Value.bool false) := R0_11.cell 0
    have fR0_11_0 := R0_11.free 0
    have cR0_11_1 : _ = some (Value.slice none 0 0) := R0_11.cell 1
    have fR0_11_1 := R0_11.free 1
    have cR0_11_2 : _ = some (Value.slice none 0 0) := R0_11.cell 2
    have fR0_11_2 := R0_11.free 2
    have O_11 := O_10.next hB_11
    have cO_11_0 : _ = some (Value.bool false) := O_11.cell 0
    have cO_11_1 : _ = some (Value.slice oa on oc) := O_11.cell 1
    have cO_11_2 : _ = some (Value.slice ob om od) := O_11.cell 2
    have N_11 := N_10.next hB_11
    have cN_11_0 : _ = some (Value.bool (decide (f < 0))) := N_11.cell 0
    have cN_11_1 : _ = some (Value.slice fa fn fc) := N_11.cell 1
    have cN_11_2 : _ = some (Value.slice fb fm fd) := N_11.cell 2
    have P_11 := P_10.next hB_11
    have cP_11_0 : _ = some (Value.bool (decide ((p).num < 0))) := P_11.cell 0
    have cP_11_1 : _ = some (Value.slice pa pn pc) := P_11.cell 1
    have cP_11_2 : _ = some (Value.slice pb pm pd) := P_11.cell 2
    have hx_11 := hx_10.below hB_11
    have hy_11 := hy_10.below hB_11
    have QO_11 := QO_10.below hB_11
    have QN_11 := QN_10.below hB_11
    have QP_11 := QP_10.below hB_11
    have hbel_11 := hbel_10.next hB_11
    have hsz_11 := hB_11.size
    clear X_10 cX_10_0 cX_10_1 cX_10_2 Y_10 cY_10_0 cY_10_1 cY_10_2 R0_10 cR0_10_0 fR0_10_0 cR0_10_1 fR0_10_1 cR0_10_2 fR0_10_2 O_10 cO_10_0 cO_10_1 cO_10_2 N_10 cN_10_0 cN_10_1 cN_10_2 P_10 cP_10_0 cP_10_1 cP_10_2 hx_10 hy_10 QO_10 QN_10 QP_10 hbel_10 hB_11
    clear hBc
    obtain ⟨wc11, hwc⟩ : ∃ x : World, x = wc := ⟨_, rfl⟩
    subst hwc
    have A_11 := hbk
    have hltA := hbk.lt
    clear hbk
    have cA_11_0 : _ = some (Value.bool (decide ((xx).num < 0))) := A_11.cell 0
    have cA_11_1 : _ = some (Value.slice Aa An Ac) := A_11.cell 1
    have cA_11_2 : _ = some (Value.slice Ab Am Ad) := A_11.cell 2
    have OA_11 := hO
    have ltOA := hO.ltB
    clear hO
    have OA'_11 := hO'
    have ltOA' := hO'.ltB
    clear hO'
    have QA_11 := OA_11.rdQ OA'_11 HG3.out
    clear OA_11
    clear OA'_11
    go_wp2_with fail
    go_cut [10] (fun s10 wx => BoxQ wc11 (yy) s10 wx)
    case first =>
      have acc_11 : Below wc11.heap.size wc11 wc11 := Below.refl _ _
      go_wp2_with fail
      go_region_held3 (fun w' => w'.cell? ⟨w.heap.size, 0, none⟩ = some (Value.bool s) ∧ w'.cell? ⟨w.heap.size, 1, none⟩ = some (Value.slice a1 n1 c1) ∧ w'.cell? ⟨w.heap.size, 2, none⟩ = some (Value.slice b1 m1 d1) ∧ w'.cell? ⟨w.heap.size + 1, 0, none⟩ = some (Value.bool t) ∧ w'.cell? ⟨w.heap.size + 1, 1, none⟩ = some (Value.slice a2 n2 c2) ∧ w'.cell? ⟨w.heap.size + 1, 2, none⟩ = some (Value.slice b2 m2 d2) ∧ w'.cell? ⟨w2.heap.size, 0, none⟩ = some (Value.bool false) ∧ w'.cell? ⟨w2.heap.size, 1, none⟩ = some (Value.slice oa on oc) ∧ w'.cell? ⟨w2.heap.size, 2, none⟩ = some (Value.slice ob om od) ∧ w'.cell? ⟨w5.heap.size, 0, none⟩ = some (Value.bool (decide (f < 0))) ∧ w'.cell? ⟨w5.heap.size, 1, none⟩ = some (Value.slice fa fn fc) ∧ w'.cell? ⟨w5.heap.size, 2, none⟩ = some (Value.slice fb fm fd) ∧ w'.cell? ⟨w8.heap.size, 0, none⟩ = some (Value.bool (decide ((p).num < 0))) ∧ w'.cell? ⟨w8.heap.size, 1, none⟩ = some (Value.slice pa pn pc) ∧ w'.cell? ⟨w8.heap.size, 2, none⟩ = some (Value.slice pb pm pd) ∧ w'.cell? ⟨gA, 0, none⟩ = some (Value.bool (decide ((xx).num < 0))) ∧ w'.cell? ⟨gA, 1, none⟩ = some (Value.slice Aa An Ac) ∧ w'.cell? ⟨gA, 2, none⟩ = some (Value.slice Ab Am Ad))
        (first | exact ⟨cX_11_0, cX_11_1, cX_11_2, cY_11_0, cY_11_1, cY_11_2, cO_11_0, cO_11_1, cO_11_2, cN_11_0, cN_11_1, cN_11_2, cP_11_0, cP_11_1, cP_11_2, cA_11_0, cA_11_1, cA_11_2⟩ | exact ⟨cX_12_0, cX_12_1, cX_12_2, cY_12_0, cY_12_1, cY_12_2, cO_12_0, cO_12_1, cO_12_2, cN_12_0, cN_12_1, cN_12_2, cP_12_0, cP_12_1, cP_12_2, cA_12_0, cA_12_1, cA_12_2⟩ | exact ⟨cX_13_0, cX_13_1, cX_13_2, cY_13_0, cY_13_1, cY_13_2, cO_13_0, cO_13_1, cO_13_2, cN_13_0, cN_13_1, cN_13_2, cP_13_0, cP_13_1, cP_13_2, cA_13_0, cA_13_1, cA_13_2⟩ | exact ⟨(cell_set3 (by omega) _ _ _).trans (cX_13_0), (cell_set3 (by omega) _ _ _).trans (cX_13_1), (cell_set3 (by omega) _ _ _).trans (cX_13_2), (cell_set3 (by omega) _ _ _).trans (cY_13_0), (cell_set3 (by omega) _ _ _).trans (cY_13_1), (cell_set3 (by omega) _ _ _).trans (cY_13_2), (cell_set3 (by omega) _ _ _).trans (cO_13_0), (cell_set3 (by omega) _ _ _).trans (cO_13_1), (cell_set3 (by omega) _ _ _).trans (cO_13_2), (cell_set3 (by omega) _ _ _).trans (cN_13_0), (cell_set3 (by omega) _ _ _).trans (cN_13_1), (cell_set3 (by omega) _ _ _).trans (cN_13_2), (cell_set3 (by omega) _ _ _).trans (cP_13_0), (cell_set3 (by omega) _ _ _).trans (cP_13_1), (cell_set3 (by omega) _ _ _).trans (cP_13_2), (cell_set3 (by omega) _ _ _).trans (cA_13_0), (cell_set3 (by omega) _ _ _).trans (cA_13_1), (cell_set3 (by omega) _ _ _).trans (cA_13_2)⟩ | exact ⟨(X_11.alloc _).cell 0, (X_11.alloc _).cell 1, (X_11.alloc _).cell 2, (Y_11.alloc _).cell 0, (Y_11.alloc _).cell 1, (Y_11.alloc _).cell 2, (O_11.alloc _).cell 0, (O_11.alloc _).cell 1, (O_11.alloc _).cell 2, (N_11.alloc _).cell 0, (N_11.alloc _).cell 1, (N_11.alloc _).cell 2, (P_11.alloc _).cell 0, (P_11.alloc _).cell 1, (P_11.alloc _).cell 2, (A_11.alloc _).cell 0, (A_11.alloc _).cell 1, (A_11.alloc _).cell 2⟩ | exact ⟨(X_12.alloc _).cell 0, (X_12.alloc _).cell 1, (X_12.alloc _).cell 2, (Y_12.alloc _).cell 0, (Y_12.alloc _).cell 1, (Y_12.alloc _).cell 2, (O_12.alloc _).cell 0, (O_12.alloc _).cell 1, (O_12.alloc _).cell 2, (N_12.alloc _).cell 0, (N_12.alloc _).cell 1, (N_12.alloc _).cell 2, (P_12.alloc _).cell 0, (P_12.alloc _).cell 1, (P_12.alloc _).cell 2, (A_12.alloc _).cell 0, (A_12.alloc _).cell 1, (A_12.alloc _).cell 2⟩ | exact ⟨(X_13.alloc _).cell 0, (X_13.alloc _).cell 1, (X_13.alloc _).cell 2, (Y_13.alloc _).cell 0, (Y_13.alloc _).cell 1, (Y_13.alloc _).cell 2, (O_13.alloc _).cell 0, (O_13.alloc _).cell 1, (O_13.alloc _).cell 2, (N_13.alloc _).cell 0, (N_13.alloc _).cell 1, (N_13.alloc _).cell 2, (P_13.alloc _).cell 0, (P_13.alloc _).cell 1, (P_13.alloc _).cell 2, (A_13.alloc _).cell 0, (A_13.alloc _).cell 1, (A_13.alloc _).cell 2⟩ | go_keep)
        (first
          | (go_at_call 178; ((with_reducible refine (qsub (hx_11.below bl) (by omega) (QN_11.below bl) (by omega)).mono ?_); (rw [hv.out]; rintro e w12 ⟨va, vn, vc, vb, vm, vd, rfl, hO, hO', hDv, hB⟩; have hB_12 : Below wc11.heap.size wc11 w12 := (bl.next hB); have X_12 := X_11.next hB_12; have cX_12_0 : _ = some (Value.bool s) := X_12.cell 0; have cX_12_1 : _ = some (Value.slice a1 n1 c1) := X_12.cell 1; have cX_12_2 : _ = some (Value.slice b1 m1 d1) := X_12.cell 2; have Y_12 := Y_11.next hB_12; have cY_12_0 : _ = some (Value.bool t) := Y_12.cell 0; have cY_12_1 : _ = some (Value.slice a2 n2 c2) := Y_12.cell 1; have cY_12_2 : _ = some (Value.slice b2 m2 d2) := Y_12.cell 2; have R0_12 := R0_11.next hB_12; have cR0_12_0 : _ = some (Value.bool false) := R0_12.cell 0; have fR0_12_0 := R0_12.free 0; have cR0_12_1 : _ = some (Value.slice none 0 0) := R0_12.cell 1; have fR0_12_1 := R0_12.free 1; have cR0_12_2 : _ = some (Value.slice none 0 0) := R0_12.cell 2; have fR0_12_2 := R0_12.free 2; have O_12 := O_11.next hB_12; have cO_12_0 : _ = some (Value.bool false) := O_12.cell 0; have cO_12_1 : _ = some (Value.slice oa on oc) := O_12.cell 1; have cO_12_2 : _ = some (Value.slice ob om od) := O_12.cell 2; have N_12 := N_11.next hB_12; have cN_12_0 : _ = some (Value.bool (decide (f < 0))) := N_12.cell 0; have cN_12_1 : _ = some (Value.slice fa fn fc) := N_12.cell 1; have cN_12_2 : _ = some (Value.slice fb fm fd) := N_12.cell 2; have P_12 := P_11.next hB_12; have cP_12_0 : _ = some (Value.bool (decide ((p).num < 0))) := P_12.cell 0; have cP_12_1 : _ = some (Value.slice pa pn pc) := P_12.cell 1; have cP_12_2 : _ = some (Value.slice pb pm pd) := P_12.cell 2; have A_12 := A_11.next hB_12; have cA_12_0 : _ = some (Value.bool (decide ((xx).num < 0))) := A_12.cell 0; have cA_12_1 : _ = some (Value.slice Aa An Ac) := A_12.cell 1; have cA_12_2 : _ = some (Value.slice Ab Am Ad) := A_12.cell 2; have hx_12 := hx_11.below hB_12; have hy_12 := hy_11.below hB_12; have QO_12 := QO_11.below hB_12; have QN_12 := QN_11.below hB_12; have QP_12 := QP_11.below hB_12; have QA_12 := QA_11.below hB_12; have hbel_12 := hbel_11.next hB_12; have hsz_12 := hB_12.size; clear X_11 cX_11_0 cX_11_1 cX_11_2 Y_11 cY_11_0 cY_11_1 cY_11_2 R0_11 cR0_11_0 fR0_11_0 cR0_11_1 fR0_11_1 cR0_11_2 fR0_11_2 O_11 cO_11_0 cO_11_1 cO_11_2 N_11 cN_11_0 cN_11_1 cN_11_2 P_11 cP_11_0 cP_11_1 cP_11_2 A_11 cA_11_0 cA_11_1 cA_11_2 hx_11 hy_11 QO_11 QN_11 QP_11 QA_11 hbel_11 hB_12; have acc_12 := acc_11.next (show Below _ _ _ from (bl.next hB)); (first | (have A := A.next (show Below _ _ _ from (bl.next hB)); have ltA := A.lt; have cA0 : _ = some (Value.bool false) := A.cell 0; have fA0 := A.free 0; have cA1 : _ = some (Value.slice none 0 0) := A.cell 1; have fA1 := A.free 1; have cA2 : _ = some (Value.slice none 0 0) := A.cell 2; have fA2 := A.free 2) | (have A := (blk_new' _ #[Value.bool false, Value.slice none 0 0, Value.slice none 0 0] 38 (g := wc11.heap.size) rfl).next (by first | exact hB | exact below_drew hB); have ltA := A.lt; have cA0 : _ = some (Value.bool false) := A.cell 0; have fA0 := A.free 0; have cA1 : _ = some (Value.slice none 0 0) := A.cell 1; have fA1 := A.free 1; have cA2 : _ = some (Value.slice none 0 0) := A.cell 2; have fA2 := A.free 2) | skip); have QV_12 := hO.rdQ hO' HG1.out; clear hO hO'; try clear hB)))
          | (go_at_call 119; ((with_reducible refine (qdiv (QO_12.below bl) (by omega) (QV_12.below bl) (by omega)).mono ?_); (rw [hyy.out, retqe_k _ e3.out]; rintro e w13 ⟨qa, qn, qc, qb, qm, qd, rfl, hO, hO', hDq, hB⟩; have hB_13 : Below w12.heap.size w12 w13 := (bl.next hB); have X_13 := X_12.next hB_13; have cX_13_0 : _ = some (Value.bool s) := X_13.cell 0; have cX_13_1 : _ = some (Value.slice a1 n1 c1) := X_13.cell 1; have cX_13_2 : _ = some (Value.slice b1 m1 d1) := X_13.cell 2; have Y_13 := Y_12.next hB_13; have cY_13_0 : _ = some (Value.bool t) := Y_13.cell 0; have cY_13_1 : _ = some (Value.slice a2 n2 c2) := Y_13.cell 1; have cY_13_2 : _ = some (Value.slice b2 m2 d2) := Y_13.cell 2; have R0_13 := R0_12.next hB_13; have cR0_13_0 : _ = some (Value.bool false) := R0_13.cell 0; have fR0_13_0 := R0_13.free 0; have cR0_13_1 : _ = some (Value.slice none 0 0) := R0_13.cell 1; have fR0_13_1 := R0_13.free 1; have cR0_13_2 : _ = some (Value.slice none 0 0) := R0_13.cell 2; have fR0_13_2 := R0_13.free 2; have O_13 := O_12.next hB_13; have cO_13_0 : _ = some (Value.bool false) := O_13.cell 0; have cO_13_1 : _ = some (Value.slice oa on oc) := O_13.cell 1; have cO_13_2 : _ = some (Value.slice ob om od) := O_13.cell 2; have N_13 := N_12.next hB_13; have cN_13_0 : _ = some (Value.bool (decide (f < 0))) := N_13.cell 0; have cN_13_1 : _ = some (Value.slice fa fn fc) := N_13.cell 1; have cN_13_2 : _ = some (Value.slice fb fm fd) := N_13.cell 2; have P_13 := P_12.next hB_13; have cP_13_0 : _ = some (Value.bool (decide ((p).num < 0))) := P_13.cell 0; have cP_13_1 : _ = some (Value.slice pa pn pc) := P_13.cell 1; have cP_13_2 : _ = some (Value.slice pb pm pd) := P_13.cell 2; have A_13 := A_12.next hB_13; have cA_13_0 : _ = some (Value.bool (decide ((xx).num < 0))) := A_13.cell 0; have cA_13_1 : _ = some (Value.slice Aa An Ac) := A_13.cell 1; have cA_13_2 : _ = some (Value.slice Ab Am Ad) := A_13.cell 2; have hx_13 := hx_12.below hB_13; have hy_13 := hy_12.below hB_13; have QO_13 := QO_12.below hB_13; have QN_13 := QN_12.below hB_13; have QP_13 := QP_12.below hB_13; have QA_13 := QA_12.below hB_13; have QV_13 := QV_12.below hB_13; have hbel_13 := hbel_12.next hB_13; have hsz_13 := hB_13.size; clear X_12 cX_12_0 cX_12_1 cX_12_2 Y_12 cY_12_0 cY_12_1 cY_12_2 R0_12 cR0_12_0 fR0_12_0 cR0_12_1 fR0_12_1 cR0_12_2 fR0_12_2 O_12 cO_12_0 cO_12_1 cO_12_2 N_12 cN_12_0 cN_12_1 cN_12_2 P_12 cP_12_0 cP_12_1 cP_12_2 A_12 cA_12_0 cA_12_1 cA_12_2 hx_12 hy_12 QO_12 QN_12 QP_12 QA_12 QV_12 hbel_12 hB_13; have acc_13 := acc_12.next (show Below _ _ _ from (bl.next hB)); (first | (have A := A.next (show Below _ _ _ from (bl.next hB)); have ltA := A.lt; have cA0 : _ = some (Value.bool false) := A.cell 0; have fA0 := A.free 0; have cA1 : _ = some (Value.slice none 0 0) := A.cell 1; have fA1 := A.free 1; have cA2 : _ = some (Value.slice none 0 0) := A.cell 2; have fA2 := A.free 2) | (have A := (blk_new' _ #[Value.bool false, Value.slice none 0 0, Value.slice none 0 0] 38 (g := w12.heap.size) rfl).next (by first | exact hB | exact below_drew hB); have ltA := A.lt; have cA0 : _ = some (Value.bool false) := A.cell 0; have fA0 := A.free 0; have cA1 : _ = some (Value.slice none 0 0) := A.cell 1; have fA1 := A.free 1; have cA2 : _ = some (Value.slice none 0 0) := A.cell 2; have fA2 := A.free 2) | skip); try clear hB))))
      all_goals (go_wp2_with fail; go_meet; first | exact boxQ_new hO hO' (by first | omega | (simp; omega) | simp) acc_13 | exact boxQ_set A hO hO' (by first | omega | (simp; omega) | simp) (by first | omega | (simp; omega) | simp) acc_13)
    case rest =>
      obtain ⟨gB, Ba, Bn, Bc, Bb, Bm, Bd, rfl, hbk, hgeB, hO, hO', awB, awB', hBc⟩ := hcut
      have hB_12 : Below wc11.heap.size wc11 wc := hBc
      have X_12 := X_11.next hB_12
      have cX_12_0 : _ = some (Value.bool s) := X_12.cell 0
      have cX_12_1 : _ = some (Value.slice a1 n1 c1) := X_12.cell 1
      have cX_12_2 : _ = some (Value.slice b1 m1 d1) := X_12.cell 2
      have Y_12 := Y_11.next hB_12
      have cY_12_0 : _ = some (Value.bool t) := Y_12.cell 0
      have cY_12_1 : _ = some (Value.slice a2 n2 c2) := Y_12.cell 1
      have cY_12_2 : _ = some (Value.slice b2 m2 d2) := Y_12.cell 2
      have R0_12 := R0_11.next hB_12
      have cR0_12_0 : _ = some (Value.bool false) := R0_12.cell 0
      have fR0_12_0 := R0_12.free 0
      have cR0_12_1 : _ = some (Value.slice none 0 0) := R0_12.cell 1
      have fR0_12_1 := R0_12.free 1
      have cR0_12_2 : _ = some (Value.slice none 0 0) := R0_12.cell 2
      have fR0_12_2 := R0_12.free 2
      have O_12 := O_11.next hB_12
      have cO_12_0 : _ = some (Value.bool false) := O_12.cell 0
      have cO_12_1 : _ = some (Value.slice oa on oc) := O_12.cell 1
      have cO_12_2 : _ = some (Value.slice ob om od) := O_12.cell 2
      have N_12 := N_11.next hB_12
      have cN_12_0 : _ = some (Value.bool (decide (f < 0))) := N_12.cell 0
      have cN_12_1 : _ = some (Value.slice fa fn fc) := N_12.cell 1
      have cN_12_2 : _ = some (Value.slice fb fm fd) := N_12.cell 2
      have P_12 := P_11.next hB_12
      have cP_12_0 : _ = some (Value.bool (decide ((p).num < 0))) := P_12.cell 0
      have cP_12_1 : _ = some (Value.slice pa pn pc) := P_12.cell 1
      have cP_12_2 : _ = some (Value.slice pb pm pd) := P_12.cell 2
      have A_12 := A_11.next hB_12
      have cA_12_0 : _ = some (Value.bool (decide ((xx).num < 0))) := A_12.cell 0
      have cA_12_1 : _ = some (Value.slice Aa An Ac) := A_12.cell 1
      have cA_12_2 : _ = some (Value.slice Ab Am Ad) := A_12.cell 2
      have hx_12 := hx_11.below hB_12
      have hy_12 := hy_11.below hB_12
      have QO_12 := QO_11.below hB_12
      have QN_12 := QN_11.below hB_12
      have QP_12 := QP_11.below hB_12
      have QA_12 := QA_11.below hB_12
      have hbel_12 := hbel_11.next hB_12
      have hsz_12 := hB_12.size
      clear X_11 cX_11_0 cX_11_1 cX_11_2 Y_11 cY_11_0 cY_11_1 cY_11_2 R0_11 cR0_11_0 fR0_11_0 cR0_11_1 fR0_11_1 cR0_11_2 fR0_11_2 O_11 cO_11_0 cO_11_1 cO_11_2 N_11 cN_11_0 cN_11_1 cN_11_2 P_11 cP_11_0 cP_11_1 cP_11_2 A_11 cA_11_0 cA_11_1 cA_11_2 hx_11 hy_11 QO_11 QN_11 QP_11 QA_11 hbel_11 hB_12
      clear hBc
      obtain ⟨wc12, hwc⟩ : ∃ x : World, x = wc := ⟨_, rfl⟩
      subst hwc
      have B_12 := hbk
      have hltB := hbk.lt
      clear hbk
      have cB_12_0 : _ = some (Value.bool (decide ((yy).num < 0))) := B_12.cell 0
      have cB_12_1 : _ = some (Value.slice Ba Bn Bc) := B_12.cell 1
      have cB_12_2 : _ = some (Value.slice Bb Bm Bd) := B_12.cell 2
      have OB_12 := hO
      have ltOB := hO.ltB
      clear hO
      have OB'_12 := hO'
      have ltOB' := hO'.ltB
      clear hO'
      have QB_12 := OB_12.rdQ OB'_12 HG4.out
      clear OB_12
      clear OB'_12
      go_wp2_with fail
      go_cut [12] (fun s12 wx => BoxQ wc12 (iz) s12 wx)
      case first =>
        have acc_12 : Below wc12.heap.size wc12 wc12 := Below.refl _ _
        go_wp2_with fail
        go_region_held3 (fun w' => w'.cell? ⟨w.heap.size, 0, none⟩ = some (Value.bool s) ∧ w'.cell? ⟨w.heap.size, 1, none⟩ = some (Value.slice a1 n1 c1) ∧ w'.cell? ⟨w.heap.size, 2, none⟩ = some (Value.slice b1 m1 d1) ∧ w'.cell? ⟨w.heap.size + 1, 0, none⟩ = some (Value.bool t) ∧ w'.cell? ⟨w.heap.size + 1, 1, none⟩ = some (Value.slice a2 n2 c2) ∧ w'.cell? ⟨w.heap.size + 1, 2, none⟩ = some (Value.slice b2 m2 d2) ∧ w'.cell? ⟨w2.heap.size, 0, none⟩ = some (Value.bool false) ∧ w'.cell? ⟨w2.heap.size, 1, none⟩ = some (Value.slice oa on oc) ∧ w'.cell? ⟨w2.heap.size, 2, none⟩ = some (Value.slice ob om od) ∧ w'.cell? ⟨w5.heap.size, 0, none⟩ = some (Value.bool (decide (f < 0))) ∧ w'.cell? ⟨w5.heap.size, 1, none⟩ = some (Value.slice fa fn fc) ∧ w'.cell? ⟨w5.heap.size, 2, none⟩ = some (Value.slice fb fm fd) ∧ w'.cell? ⟨w8.heap.size, 0, none⟩ = some (Value.bool (decide ((p).num < 0))) ∧ w'.cell? ⟨w8.heap.size, 1, none⟩ = some (Value.slice pa pn pc) ∧ w'.cell? ⟨w8.heap.size, 2, none⟩ = some (Value.slice pb pm pd) ∧ w'.cell? ⟨gA, 0, none⟩ = some (Value.bool (decide ((xx).num < 0))) ∧ w'.cell? ⟨gA, 1, none⟩ = some (Value.slice Aa An Ac) ∧ w'.cell? ⟨gA, 2, none⟩ = some (Value.slice Ab Am Ad) ∧ w'.cell? ⟨gB, 0, none⟩ = some (Value.bool (decide ((yy).num < 0))) ∧ w'.cell? ⟨gB, 1, none⟩ = some (Value.slice Ba Bn Bc) ∧ w'.cell? ⟨gB, 2, none⟩ = some (Value.slice Bb Bm Bd))
          (first | exact ⟨cX_12_0, cX_12_1, cX_12_2, cY_12_0, cY_12_1, cY_12_2, cO_12_0, cO_12_1, cO_12_2, cN_12_0, cN_12_1, cN_12_2, cP_12_0, cP_12_1, cP_12_2, cA_12_0, cA_12_1, cA_12_2, cB_12_0, cB_12_1, cB_12_2⟩ | exact ⟨cX_13_0, cX_13_1, cX_13_2, cY_13_0, cY_13_1, cY_13_2, cO_13_0, cO_13_1, cO_13_2, cN_13_0, cN_13_1, cN_13_2, cP_13_0, cP_13_1, cP_13_2, cA_13_0, cA_13_1, cA_13_2, cB_13_0, cB_13_1, cB_13_2⟩ | exact ⟨cX_14_0, cX_14_1, cX_14_2, cY_14_0, cY_14_1, cY_14_2, cO_14_0, cO_14_1, cO_14_2, cN_14_0, cN_14_1, cN_14_2, cP_14_0, cP_14_1, cP_14_2, cA_14_0, cA_14_1, cA_14_2, cB_14_0, cB_14_1, cB_14_2⟩ | exact ⟨(cell_set3 (by omega) _ _ _).trans (cX_14_0), (cell_set3 (by omega) _ _ _).trans (cX_14_1), (cell_set3 (by omega) _ _ _).trans (cX_14_2), (cell_set3 (by omega) _ _ _).trans (cY_14_0), (cell_set3 (by omega) _ _ _).trans (cY_14_1), (cell_set3 (by omega) _ _ _).trans (cY_14_2), (cell_set3 (by omega) _ _ _).trans (cO_14_0), (cell_set3 (by omega) _ _ _).trans (cO_14_1), (cell_set3 (by omega) _ _ _).trans (cO_14_2), (cell_set3 (by omega) _ _ _).trans (cN_14_0), (cell_set3 (by omega) _ _ _).trans (cN_14_1), (cell_set3 (by omega) _ _ _).trans (cN_14_2), (cell_set3 (by omega) _ _ _).trans (cP_14_0), (cell_set3 (by omega) _ _ _).trans (cP_14_1), (cell_set3 (by omega) _ _ _).trans (cP_14_2), (cell_set3 (by omega) _ _ _).trans (cA_14_0), (cell_set3 (by omega) _ _ _).trans (cA_14_1), (cell_set3 (by omega) _ _ _).trans (cA_14_2), (cell_set3 (by omega) _ _ _).trans (cB_14_0), (cell_set3 (by omega) _ _ _).trans (cB_14_1), (cell_set3 (by omega) _ _ _).trans (cB_14_2)⟩ | exact ⟨(X_12.alloc _).cell 0, (X_12.alloc _).cell 1, (X_12.alloc _).cell 2, (Y_12.alloc _).cell 0, (Y_12.alloc _).cell 1, (Y_12.alloc _).cell 2, (O_12.alloc _).cell 0, (O_12.alloc _).cell 1, (O_12.alloc _).cell 2, (N_12.alloc _).cell 0, (N_12.alloc _).cell 1, (N_12.alloc _).cell 2, (P_12.alloc _).cell 0, (P_12.alloc _).cell 1, (P_12.alloc _).cell 2, (A_12.alloc _).cell 0, (A_12.alloc _).cell 1, (A_12.alloc _).cell 2, (B_12.alloc _).cell 0, (B_12.alloc _).cell 1, (B_12.alloc _).cell 2⟩ | exact ⟨(X_13.alloc _).cell 0, (X_13.alloc _).cell 1, (X_13.alloc _).cell 2, (Y_13.alloc _).cell 0, (Y_13.alloc _).cell 1, (Y_13.alloc _).cell 2, (O_13.alloc _).cell 0, (O_13.alloc _).cell 1, (O_13.alloc _).cell 2, (N_13.alloc _).cell 0, (N_13.alloc _).cell 1, (N_13.alloc _).cell 2, (P_13.alloc _).cell 0, (P_13.alloc _).cell 1, (P_13.alloc _).cell 2, (A_13.alloc _).cell 0, (A_13.alloc _).cell 1, (A_13.alloc _).cell 2, (B_13.alloc _).cell 0, (B_13.alloc _).cell 1, (B_13.alloc _).cell 2⟩ | exact ⟨(X_14.alloc _).cell 0, (X_14.alloc _).cell 1, (X_14.alloc _).cell 2, (Y_14.alloc _).cell 0, (Y_14.alloc _).cell 1, (Y_14.alloc _).cell 2, (O_14.alloc _).cell 0, (O_14.alloc _).cell 1, (O_14.alloc _).cell 2, (N_14.alloc _).cell 0, (N_14.alloc _).cell 1, (N_14.alloc _).cell 2, (P_14.alloc _).cell 0, (P_14.alloc _).cell 1, (P_14.alloc _).cell 2, (A_14.alloc _).cell 0, (A_14.alloc _).cell 1, (A_14.alloc _).cell 2, (B_14.alloc _).cell 0, (B_14.alloc _).cell 1, (B_14.alloc _).cell 2⟩ | go_keep)
          (first
            | (go_at_call 134; ((with_reducible refine (ih.go HG5.out HG6.out (QA_12.below bl) (QB_12.below bl)).mono ?_); (rw [hzz.out]; rintro e w13 ⟨za, zn, zc, zb, zm, zd, rfl, hO, hO', hDz, hB⟩; have hB_13 : Below wc12.heap.size wc12 w13 := (bl.next hB); have X_13 := X_12.next hB_13; have cX_13_0 : _ = some (Value.bool s) := X_13.cell 0; have cX_13_1 : _ = some (Value.slice a1 n1 c1) := X_13.cell 1; have cX_13_2 : _ = some (Value.slice b1 m1 d1) := X_13.cell 2; have Y_13 := Y_12.next hB_13; have cY_13_0 : _ = some (Value.bool t) := Y_13.cell 0; have cY_13_1 : _ = some (Value.slice a2 n2 c2) := Y_13.cell 1; have cY_13_2 : _ = some (Value.slice b2 m2 d2) := Y_13.cell 2; have R0_13 := R0_12.next hB_13; have cR0_13_0 : _ = some (Value.bool false) := R0_13.cell 0; have fR0_13_0 := R0_13.free 0; have cR0_13_1 : _ = some (Value.slice none 0 0) := R0_13.cell 1; have fR0_13_1 := R0_13.free 1; have cR0_13_2 : _ = some (Value.slice none 0 0) := R0_13.cell 2; have fR0_13_2 := R0_13.free 2; have O_13 := O_12.next hB_13; have cO_13_0 : _ = some (Value.bool false) := O_13.cell 0; have cO_13_1 : _ = some (Value.slice oa on oc) := O_13.cell 1; have cO_13_2 : _ = some (Value.slice ob om od) := O_13.cell 2; have N_13 := N_12.next hB_13; have cN_13_0 : _ = some (Value.bool (decide (f < 0))) := N_13.cell 0; have cN_13_1 : _ = some (Value.slice fa fn fc) := N_13.cell 1; have cN_13_2 : _ = some (Value.slice fb fm fd) := N_13.cell 2; have P_13 := P_12.next hB_13; have cP_13_0 : _ = some (Value.bool (decide ((p).num < 0))) := P_13.cell 0; have cP_13_1 : _ = some (Value.slice pa pn pc) := P_13.cell 1; have cP_13_2 : _ = some (Value.slice pb pm pd) := P_13.cell 2; have A_13 := A_12.next hB_13; have cA_13_0 : _ = some (Value.bool (decide ((xx).num < 0))) := A_13.cell 0; have cA_13_1 : _ = some (Value.slice Aa An Ac) := A_13.cell 1; have cA_13_2 : _ = some (Value.slice Ab Am Ad) := A_13.cell 2; have B_13 := B_12.next hB_13; have cB_13_0 : _ = some (Value.bool (decide ((yy).num < 0))) := B_13.cell 0; have cB_13_1 : _ = some (Value.slice Ba Bn Bc) := B_13.cell 1; have cB_13_2 : _ = some (Value.slice Bb Bm Bd) := B_13.cell 2; have hx_13 := hx_12.below hB_13; have hy_13 := hy_12.below hB_13; have QO_13 := QO_12.below hB_13; have QN_13 := QN_12.below hB_13; have QP_13 := QP_12.below hB_13; have QA_13 := QA_12.below hB_13; have QB_13 := QB_12.below hB_13; have hbel_13 := hbel_12.next hB_13; have hsz_13 := hB_13.size; clear X_12 cX_12_0 cX_12_1 cX_12_2 Y_12 cY_12_0 cY_12_1 cY_12_2 R0_12 cR0_12_0 fR0_12_0 cR0_12_1 fR0_12_1 cR0_12_2 fR0_12_2 O_12 cO_12_0 cO_12_1 cO_12_2 N_12 cN_12_0 cN_12_1 cN_12_2 P_12 cP_12_0 cP_12_1 cP_12_2 A_12 cA_12_0 cA_12_1 cA_12_2 B_12 cB_12_0 cB_12_1 cB_12_2 hx_12 hy_12 QO_12 QN_12 QP_12 QA_12 QB_12 hbel_12 hB_13; have acc_13 := acc_12.next (show Below _ _ _ from (bl.next hB)); (first | (have A := A.next (show Below _ _ _ from (bl.next hB)); have ltA := A.lt; have cA0 : _ = some (Value.bool false) := A.cell 0; have fA0 := A.free 0; have cA1 : _ = some (Value.slice none 0 0) := A.cell 1; have fA1 := A.free 1; have cA2 : _ = some (Value.slice none 0 0) := A.cell 2; have fA2 := A.free 2) | (have A := (blk_new' _ #[Value.bool false, Value.slice none 0 0, Value.slice none 0 0] 38 (g := wc12.heap.size) rfl).next (by first | exact hB | exact below_drew hB); have ltA := A.lt; have cA0 : _ = some (Value.bool false) := A.cell 0; have fA0 := A.free 0; have cA1 : _ = some (Value.slice none 0 0) := A.cell 1; have fA1 := A.free 1; have cA2 : _ = some (Value.slice none 0 0) := A.cell 2; have fA2 := A.free 2) | skip); have QZ_13 := hO.rdQ hO' HG9.out; clear hO hO'; try clear hB)))
            | (go_at_call 119; ((with_reducible refine (qdiv (QO_13.below bl) (by omega) (QZ_13.below bl) (by omega)).mono ?_); (rw [hiz.out, retqe_k _ e4.out]; rintro e w14 ⟨qa, qn, qc, qb, qm, qd, rfl, hO, hO', hDq, hB⟩; have hB_14 : Below w13.heap.size w13 w14 := (bl.next hB); have X_14 := X_13.next hB_14; have cX_14_0 : _ = some (Value.bool s) := X_14.cell 0; have cX_14_1 : _ = some (Value.slice a1 n1 c1) := X_14.cell 1; have cX_14_2 : _ = some (Value.slice b1 m1 d1) := X_14.cell 2; have Y_14 := Y_13.next hB_14; have cY_14_0 : _ = some (Value.bool t) := Y_14.cell 0; have cY_14_1 : _ = some (Value.slice a2 n2 c2) := Y_14.cell 1; have cY_14_2 : _ = some (Value.slice b2 m2 d2) := Y_14.cell 2; have R0_14 := R0_13.next hB_14; have cR0_14_0 : _ = some (Value.bool false) := R0_14.cell 0; have fR0_14_0 := R0_14.free 0; have cR0_14_1 : _ = some (Value.slice none 0 0) := R0_14.cell 1; have fR0_14_1 := R0_14.free 1; have cR0_14_2 : _ = some (Value.slice none 0 0) := R0_14.cell 2; have fR0_14_2 := R0_14.free 2; have O_14 := O_13.next hB_14; have cO_14_0 : _ = some (Value.bool false) := O_14.cell 0; have cO_14_1 : _ = some (Value.slice oa on oc) := O_14.cell 1; have cO_14_2 : _ = some (Value.slice ob om od) := O_14.cell 2; have N_14 := N_13.next hB_14; have cN_14_0 : _ = some (Value.bool (decide (f < 0))) := N_14.cell 0; have cN_14_1 : _ = some (Value.slice fa fn fc) := N_14.cell 1; have cN_14_2 : _ = some (Value.slice fb fm fd) := N_14.cell 2; have P_14 := P_13.next hB_14; have cP_14_0 : _ = some (Value.bool (decide ((p).num < 0))) := P_14.cell 0; have cP_14_1 : _ = some (Value.slice pa pn pc) := P_14.cell 1; have cP_14_2 : _ = some (Value.slice pb pm pd) := P_14.cell 2; have A_14 := A_13.next hB_14; have cA_14_0 : _ = some (Value.bool (decide ((xx).num < 0))) := A_14.cell 0; have cA_14_1 : _ = some (Value.slice Aa An Ac) := A_14.cell 1; have cA_14_2 : _ = some (Value.slice Ab Am Ad) := A_14.cell 2; have B_14 := B_13.next hB_14; have cB_14_0 : _ = some (Value.bool (decide ((yy).num < 0))) := B_14.cell 0; have cB_14_1 : _ = some (Value.slice Ba Bn Bc) := B_14.cell 1; have cB_14_2 : _ = some (Value.slice Bb Bm Bd) := B_14.cell 2; have hx_14 := hx_13.below hB_14; have hy_14 := hy_13.below hB_14; have QO_14 := QO_13.below hB_14; have QN_14 := QN_13.below hB_14; have QP_14 := QP_13.below hB_14; have QA_14 := QA_13.below hB_14; have QB_14 := QB_13.below hB_14; have QZ_14 := QZ_13.below hB_14; have hbel_14 := hbel_13.next hB_14; have hsz_14 := hB_14.size; clear X_13 cX_13_0 cX_13_1 cX_13_2 Y_13 cY_13_0 cY_13_1 cY_13_2 R0_13 cR0_13_0 fR0_13_0 cR0_13_1 fR0_13_1 cR0_13_2 fR0_13_2 O_13 cO_13_0 cO_13_1 cO_13_2 N_13 cN_13_0 cN_13_1 cN_13_2 P_13 cP_13_0 cP_13_1 cP_13_2 A_13 cA_13_0 cA_13_1 cA_13_2 B_13 cB_13_0 cB_13_1 cB_13_2 hx_13 hy_13 QO_13 QN_13 QP_13 QA_13 QB_13 QZ_13 hbel_13 hB_14; have acc_14 := acc_13.next (show Below _ _ _ from (bl.next hB)); (first | (have A := A.next (show Below _ _ _ from (bl.next hB)); have ltA := A.lt; have cA0 : _ = some (Value.bool false) := A.cell 0; have fA0 := A.free 0; have cA1 : _ = some (Value.slice none 0 0) := A.cell 1; have fA1 := A.free 1; have cA2 : _ = some (Value.slice none 0 0) := A.cell 2; have fA2 := A.free 2) | (have A := (blk_new' _ #[Value.bool false, Value.slice none 0 0, Value.slice none 0 0] 38 (g := w13.heap.size) rfl).next (by first | exact hB | exact below_drew hB); have ltA := A.lt; have cA0 : _ = some (Value.bool false) := A.cell 0; have fA0 := A.free 0; have cA1 : _ = some (Value.slice none 0 0) := A.cell 1; have fA1 := A.free 1; have cA2 : _ = some (Value.slice none 0 0) := A.cell 2; have fA2 := A.free 2) | skip); try clear hB))))
        all_goals (go_wp2_with fail; go_meet; first | exact boxQ_new hO hO' (by first | omega | (simp; omega) | simp) acc_14 | exact boxQ_set A hO hO' (by first | omega | (simp; omega) | simp) (by first | omega | (simp; omega) | simp) acc_14)
      case rest =>
        obtain ⟨gZ, Za, Zn, Zc, Zb, Zm, Zd, rfl, hbk, hgeZ, hO, hO', awZ, awZ', hBc⟩ := hcut
        have hB_13 : Below wc12.heap.size wc12 wc := hBc
        have X_13 := X_12.next hB_13
        have cX_13_0 : _ = some (Value.bool s) := X_13.cell 0
        have cX_13_1 : _ = some (Value.slice a1 n1 c1) := X_13.cell 1
        have cX_13_2 : _ = some (Value.slice b1 m1 d1) := X_13.cell 2
        have Y_13 := Y_12.next hB_13
        have cY_13_0 : _ = some (Value.bool t) := Y_13.cell 0
        have cY_13_1 : _ = some (Value.slice a2 n2 c2) := Y_13.cell 1
        have cY_13_2 : _ = some (Value.slice b2 m2 d2) := Y_13.cell 2
        have R0_13 := R0_12.next hB_13
        have cR0_13_0 : _ = some (Value.bool false) := R0_13.cell 0
        have fR0_13_0 := R0_13.free 0
        have cR0_13_1 : _ = some (Value.slice none 0 0) := R0_13.cell 1
        have fR0_13_1 := R0_13.free 1
        have cR0_13_2 : _ = some (Value.slice none 0 0) := R0_13.cell 2
        have fR0_13_2 := R0_13.free 2
        have O_13 := O_12.next hB_13
        have cO_13_0 : _ = some (Value.bool false) := O_13.cell 0
        have cO_13_1 : _ = some (Value.slice oa on oc) := O_13.cell 1
        have cO_13_2 : _ = some (Value.slice ob om od) := O_13.cell 2
        have N_13 := N_12.next hB_13
        have cN_13_0 : _ = some (Value.bool (decide (f < 0))) := N_13.cell 0
        have cN_13_1 : _ = some (Value.slice fa fn fc) := N_13.cell 1
        have cN_13_2 : _ = some (Value.slice fb fm fd) := N_13.cell 2
        have P_13 := P_12.next hB_13
        have cP_13_0 : _ = some (Value.bool (decide ((p).num < 0))) := P_13.cell 0
        have cP_13_1 : _ = some (Value.slice pa pn pc) := P_13.cell 1
        have cP_13_2 : _ = some (Value.slice pb pm pd) := P_13.cell 2
        have A_13 := A_12.next hB_13
        have cA_13_0 : _ = some (Value.bool (decide ((xx).num < 0))) := A_13.cell 0
        have cA_13_1 : _ = some (Value.slice Aa An Ac) := A_13.cell 1
        have cA_13_2 : _ = some (Value.slice Ab Am Ad) := A_13.cell 2
        have B_13 := B_12.next hB_13
        have cB_13_0 : _ = some (Value.bool (decide ((yy).num < 0))) := B_13.cell 0
        have cB_13_1 : _ = some (Value.slice Ba Bn Bc) := B_13.cell 1
        have cB_13_2 : _ = some (Value.slice Bb Bm Bd) := B_13.cell 2
        have hx_13 := hx_12.below hB_13
        have hy_13 := hy_12.below hB_13
        have QO_13 := QO_12.below hB_13
        have QN_13 := QN_12.below hB_13
        have QP_13 := QP_12.below hB_13
        have QA_13 := QA_12.below hB_13
        have QB_13 := QB_12.below hB_13
        have hbel_13 := hbel_12.next hB_13
        have hsz_13 := hB_13.size
        clear X_12 cX_12_0 cX_12_1 cX_12_2 Y_12 cY_12_0 cY_12_1 cY_12_2 R0_12 cR0_12_0 fR0_12_0 cR0_12_1 fR0_12_1 cR0_12_2 fR0_12_2 O_12 cO_12_0 cO_12_1 cO_12_2 N_12 cN_12_0 cN_12_1 cN_12_2 P_12 cP_12_0 cP_12_1 cP_12_2 A_12 cA_12_0 cA_12_1 cA_12_2 B_12 cB_12_0 cB_12_1 cB_12_2 hx_12 hy_12 QO_12 QN_12 QP_12 QA_12 QB_12 hbel_12 hB_13
        clear hBc
        obtain ⟨wc13, hwc⟩ : ∃ x : World, x = wc := ⟨_, rfl⟩
        subst hwc
        have Z_13 := hbk
        have hltZ := hbk.lt
        clear hbk
        have cZ_13_0 : _ = some (Value.bool (decide ((iz).num < 0))) := Z_13.cell 0
        have cZ_13_1 : _ = some (Value.slice Za Zn Zc) := Z_13.cell 1
        have cZ_13_2 : _ = some (Value.slice Zb Zm Zd) := Z_13.cell 2
        have OZ_13 := hO
        have ltOZ := hO.ltB
        clear hO
        have OZ'_13 := hO'
        have ltOZ' := hO'.ltB
        clear hO'
        have QI_13 := OZ_13.rdQ OZ'_13 qiz.out
        clear OZ_13
        clear OZ'_13
        go_wp2_with fail
        refine (qadd QN_13 (by omega) QI_13 (by omega)).mono ?_
        rintro e w14 ⟨ra, rn, rc, rb, rm, rd, rfl, hO, hO', hDr, hB⟩
        have hB_14 : Below wc13.heap.size wc13 w14 := (bl.next hB)
        have X_14 := X_13.next hB_14
        have cX_14_0 : _ = some (Value.bool s) := X_14.cell 0
        have cX_14_1 : _ = some (Value.slice a1 n1 c1) := X_14.cell 1
        have cX_14_2 : _ = some (Value.slice b1 m1 d1) := X_14.cell 2
        have Y_14 := Y_13.next hB_14
        have cY_14_0 : _ = some (Value.bool t) := Y_14.cell 0
        have cY_14_1 : _ = some (Value.slice a2 n2 c2) := Y_14.cell 1
        have cY_14_2 : _ = some (Value.slice b2 m2 d2) := Y_14.cell 2
        have R0_14 := R0_13.next hB_14
        have cR0_14_0 : _ = some (Value.bool false) := R0_14.cell 0
        have fR0_14_0 := R0_14.free 0
        have cR0_14_1 : _ = some (Value.slice none 0 0) := R0_14.cell 1
        have fR0_14_1 := R0_14.free 1
        have cR0_14_2 : _ = some (Value.slice none 0 0) := R0_14.cell 2
        have fR0_14_2 := R0_14.free 2
        have O_14 := O_13.next hB_14
        have cO_14_0 : _ = some (Value.bool false) := O_14.cell 0
        have cO_14_1 : _ = some (Value.slice oa on oc) := O_14.cell 1
        have cO_14_2 : _ = some (Value.slice ob om od) := O_14.cell 2
        have N_14 := N_13.next hB_14
        have cN_14_0 : _ = some (Value.bool (decide (f < 0))) := N_14.cell 0
        have cN_14_1 : _ = some (Value.slice fa fn fc) := N_14.cell 1
        have cN_14_2 : _ = some (Value.slice fb fm fd) := N_14.cell 2
        have P_14 := P_13.next hB_14
        have cP_14_0 : _ = some (Value.bool (decide ((p).num < 0))) := P_14.cell 0
        have cP_14_1 : _ = some (Value.slice pa pn pc) := P_14.cell 1
        have cP_14_2 : _ = some (Value.slice pb pm pd) := P_14.cell 2
        have A_14 := A_13.next hB_14
        have cA_14_0 : _ = some (Value.bool (decide ((xx).num < 0))) := A_14.cell 0
        have cA_14_1 : _ = some (Value.slice Aa An Ac) := A_14.cell 1
        have cA_14_2 : _ = some (Value.slice Ab Am Ad) := A_14.cell 2
        have B_14 := B_13.next hB_14
        have cB_14_0 : _ = some (Value.bool (decide ((yy).num < 0))) := B_14.cell 0
        have cB_14_1 : _ = some (Value.slice Ba Bn Bc) := B_14.cell 1
        have cB_14_2 : _ = some (Value.slice Bb Bm Bd) := B_14.cell 2
        have Z_14 := Z_13.next hB_14
        have cZ_14_0 : _ = some (Value.bool (decide ((iz).num < 0))) := Z_14.cell 0
        have cZ_14_1 : _ = some (Value.slice Za Zn Zc) := Z_14.cell 1
        have cZ_14_2 : _ = some (Value.slice Zb Zm Zd) := Z_14.cell 2
        have hx_14 := hx_13.below hB_14
        have hy_14 := hy_13.below hB_14
        have QO_14 := QO_13.below hB_14
        have QN_14 := QN_13.below hB_14
        have QP_14 := QP_13.below hB_14
        have QA_14 := QA_13.below hB_14
        have QB_14 := QB_13.below hB_14
        have QI_14 := QI_13.below hB_14
        have hbel_14 := hbel_13.next hB_14
        have hsz_14 := hB_14.size
        clear X_13 cX_13_0 cX_13_1 cX_13_2 Y_13 cY_13_0 cY_13_1 cY_13_2 R0_13 cR0_13_0 fR0_13_0 cR0_13_1 fR0_13_1 cR0_13_2 fR0_13_2 O_13 cO_13_0 cO_13_1 cO_13_2 N_13 cN_13_0 cN_13_1 cN_13_2 P_13 cP_13_0 cP_13_1 cP_13_2 A_13 cA_13_0 cA_13_1 cA_13_2 B_13 cB_13_0 cB_13_1 cB_13_2 Z_13 cZ_13_0 cZ_13_1 cZ_13_2 hx_13 hy_13 QO_13 QN_13 QP_13 QA_13 QB_13 QI_13 hbel_13 hB_14
        have Or_14 := hO
        have ltOr := hO.ltB
        have Pr_14 := hO'
        have ltPr := hO'.ltB
        clear hO hO'
        try clear hB
        go_wp2
        refine bodyPost_ret (v := .agg #[.bool (decide (((f : Rat) + iz).num < 0)), .slice ra rn rc, .slice rb rm rd]) (by simp [results, Tryz.results134, go_sem, cR0_14_0, cR0_14_1, cR0_14_2]) rfl ?_
        exact retq_set Or_14 Pr_14 hDr hbel_14 (by omega) (by omega)

end Go.Proofs.YtgddnmmllchndaaGreat
/- WALKS OF FRACTIONS, 20: the simplest between two. -/
namespace Go.Proofs.YtgddnmmllchndaaGreat
set_option linter.unusedVariables false
set_option linter.unusedSimpArgs false
open Go.ChangeShapes Go.WideShapes Go.ChangeAt Go.RowKit Go.NatP

theorem qbtw (J : Nat) (hJ1 : 1 ≤ J) (hJ : J ≤ 200000) : ∀ k, BtwC J k
  | 0 => ⟨fun {w a1 b1 n1 c1 m1 d1 s x a2 b2 n2 c2 m2 d2 t y} hin hk hx hy => by have := x.den_nz; omega⟩
  | k + 1 => ⟨fun {w a1 b1 n1 c1 m1 d1 s x a2 b2 n2 c2 m2 d2 t y} hin hk hx hy => by
    by_cases h1 : (x.floor : Rat) = x
    · exact qbtw1 hJ1 hJ hin hx hy h1
    · by_cases h2 : (x.floor : Rat) + 1 ≤ y
      · exact qbtw2 hJ1 hJ hin hx hy h1 h2
      · exact qbtw3 hJ1 hJ hin hx hy (qbtw J hJ1 hJ k) hk h1 h2⟩

set_option maxRecDepth 100000 in
set_option maxHeartbeats 8000000 in
theorem qsimpE {w : World} {a1 b1 : Option Addr} {n1 c1 m1 d1 : Nat} {s : Bool} {x : Rat} {a2 b2 : Option Addr} {n2 c2 m2 d2 : Nat} {t : Bool} {y : Rat} {J : Nat} (hJ1 : 1 ≤ J) (hJ : J ≤ 200000) (hx : RdQ J w s a1 n1 c1 b1 m1 d1 x) (hy : RdQ J w t a2 n2 c2 b2 m2 d2 y) (h1 : y < x) :
    Calls Tryz.prog 88 #[.agg #[.bool s, .slice a1 n1 c1, .slice b1 m1 d1], .agg #[.bool t, .slice a2 n2 c2, .slice b2 m2 d2]] w (RetQE w (spl x y) 3) := by
  have hqx := hx.qs hJ1
  have hqy := hy.qs hJ1
  have hc : 0 < cmpQ x y := by rw [cmpQ_swap, cmpQ_lt h1]; omega
  obtain ⟨c, hc0⟩ : ∃ c, cmpQ x y = c := ⟨_, rfl⟩
  rw [hc0] at hc
  have hch := hid hc0
  clear hc0 hqx hqy h1
  have hent := ent3 w #[Value.bool s, Value.slice a1 n1 c1, Value.slice b1 m1 d1] #[Value.bool t, Value.slice a2 n2 c2, Value.slice b2 m2 d2] #[Value.bool false, Value.slice none 0 0, Value.slice none 0 0] 38 38 38
  go_enter Tryz.func88, Tryz.ntmps88
  go_wp2_with fail
  generalize (((w.alloc (.cells #[Value.bool s, Value.slice a1 n1 c1, Value.slice b1 m1 d1] 38)).alloc (.cells #[Value.bool t, Value.slice a2 n2 c2, Value.slice b2 m2 d2] 38)).alloc (.cells #[Value.bool false, Value.slice none 0 0, Value.slice none 0 0] 38)) = W0 at hent ⊢
  obtain ⟨X_0, Y_0, R0_0, hbel_0, hsz_0⟩ := hent
  have cX_0_0 : _ = some (Value.bool s) := X_0.cell 0
  have cX_0_1 : _ = some (Value.slice a1 n1 c1) := X_0.cell 1
  have cX_0_2 : _ = some (Value.slice b1 m1 d1) := X_0.cell 2
  have cY_0_0 : _ = some (Value.bool t) := Y_0.cell 0
  have cY_0_1 : _ = some (Value.slice a2 n2 c2) := Y_0.cell 1
  have cY_0_2 : _ = some (Value.slice b2 m2 d2) := Y_0.cell 2
  have cR0_0_0 : _ = some (Value.bool false) := R0_0.cell 0
  have fR0_0_0 := R0_0.free 0
  have cR0_0_1 : _ = some (Value.slice none 0 0) := R0_0.cell 1
  have fR0_0_1 := R0_0.free 1
  have cR0_0_2 : _ = some (Value.slice none 0 0) := R0_0.cell 2
  have fR0_0_2 := R0_0.free 2
  have hx_0 := hx.below hbel_0
  clear hx
  have hy_0 := hy.below hbel_0
  clear hy
  go_wp2_with fail
  refine (qcmp hx_0 (by omega) hy_0 (by omega)).mono ?_
  rw [hch.out]
  rintro e w1 ⟨rfl, hB⟩
  have hB_1 : Below W0.heap.size W0 w1 := (bl.next hB)
  have X_1 := X_0.next hB_1
  have cX_1_0 : _ = some (Value.bool s) := X_1.cell 0
  have cX_1_1 : _ = some (Value.slice a1 n1 c1) := X_1.cell 1
  have cX_1_2 : _ = some (Value.slice b1 m1 d1) := X_1.cell 2
  have Y_1 := Y_0.next hB_1
  have cY_1_0 : _ = some (Value.bool t) := Y_1.cell 0
  have cY_1_1 : _ = some (Value.slice a2 n2 c2) := Y_1.cell 1
  have cY_1_2 : _ = some (Value.slice b2 m2 d2) := Y_1.cell 2
  have R0_1 := R0_0.next hB_1
  have cR0_1_0 : _ = some (Value.bool false) := R0_1.cell 0
  have fR0_1_0 := R0_1.free 0
  have cR0_1_1 : _ = some (Value.slice none 0 0) := R0_1.cell 1
  have fR0_1_1 := R0_1.free 1
  have cR0_1_2 : _ = some (Value.slice none 0 0) := R0_1.cell 2
  have fR0_1_2 := R0_1.free 2
  have hx_1 := hx_0.below hB_1
  have hy_1 := hy_0.below hB_1
  have hbel_1 := hbel_0.next hB_1
  have hsz_1 := hB_1.size
  clear X_0 cX_0_0 cX_0_1 cX_0_2 Y_0 cY_0_0 cY_0_1 cY_0_2 R0_0 cR0_0_0 fR0_0_0 cR0_0_1 fR0_0_1 cR0_0_2 fR0_0_2 hx_0 hy_0 hbel_0 hB_1
  try clear hB
  go_wp2
  refine bodyPost_ret (v := .tuple #[.agg #[.bool false, .slice none 0 0, .slice none 0 0], .int .i64 3]) (by simp [results, Tryz.results88, go_sem, cR0_1_0, cR0_1_1, cR0_1_2]) rfl ?_
  exact retqe_nil (by decide) hbel_1 (by omega)

set_option maxRecDepth 100000 in
set_option maxHeartbeats 8000000 in
theorem qsimpP {w : World} {a1 b1 : Option Addr} {n1 c1 m1 d1 : Nat} {s : Bool} {x : Rat} {a2 b2 : Option Addr} {n2 c2 m2 d2 : Nat} {t : Bool} {y : Rat} {J : Nat} (hJ1 : 1 ≤ J) (hJ : J ≤ 200000) (hx : RdQ J w s a1 n1 c1 b1 m1 d1 x) (hy : RdQ J w t a2 n2 c2 b2 m2 d2 y) (h1 : x ≤ y) (h2 : 0 < x) :
    Calls Tryz.prog 88 #[.agg #[.bool s, .slice a1 n1 c1, .slice b1 m1 d1], .agg #[.bool t, .slice a2 n2 c2, .slice b2 m2 d2]] w (RetQE w (spl x y) 0) := by
  have hqx := hx.qs hJ1
  have hqy := hy.qs hJ1
  have hc : cmpQ x y ≤ 0 := by rcases cmpQ_cases x y with ⟨_, e⟩ | ⟨_, e⟩ | ⟨h, e⟩ <;> first | omega | exact absurd h1 (Rat.not_le.2 h)
  have hs1 : 0 < sgnQ x := by rcases sgnQ_cases x with ⟨h, e⟩ | ⟨h, e⟩ | ⟨h, e⟩ <;> first | omega | exact absurd h2 (Rat.not_lt.2 (Rat.le_of_lt h)) | (rw [h] at h2; exact absurd h2 Rat.lt_irrefl) | exact absurd h h2
  have hin := hid (smpIn_of h2 h1)
  rw [spl_pos h2]
  obtain ⟨q, hq0⟩ : ∃ q, smp (x.den + y.den) x y = q := ⟨_, rfl⟩
  rw [hq0]
  have hq := hid hq0
  have HB := hid (@qbtw J hJ1 hJ (x.den + y.den))
  clear hq0 h1 h2
  obtain ⟨c, hc0⟩ : ∃ c, cmpQ x y = c := ⟨_, rfl⟩
  rw [hc0] at hc
  have hch := hid hc0
  clear hc0 hqx hqy
  obtain ⟨sx, hsx0⟩ : ∃ c, sgnQ x = c := ⟨_, rfl⟩
  rw [hsx0] at hs1
  have hsx := hid hsx0
  clear hsx0
  have hent := ent3 w #[Value.bool s, Value.slice a1 n1 c1, Value.slice b1 m1 d1] #[Value.bool t, Value.slice a2 n2 c2, Value.slice b2 m2 d2] #[Value.bool false, Value.slice none 0 0, Value.slice none 0 0] 38 38 38
  go_enter Tryz.func88, Tryz.ntmps88
  go_wp2_with fail
  generalize (((w.alloc (.cells #[Value.bool s, Value.slice a1 n1 c1, Value.slice b1 m1 d1] 38)).alloc (.cells #[Value.bool t, Value.slice a2 n2 c2, Value.slice b2 m2 d2] 38)).alloc (.cells #[Value.bool false, Value.slice none 0 0, Value.slice none 0 0] 38)) = W0 at hent ⊢
  obtain ⟨X_0, Y_0, R0_0, hbel_0, hsz_0⟩ := hent
  have cX_0_0 : _ = some (Value.bool s) := X_0.cell 0
  have cX_0_1 : _ = some (Value.slice a1 n1 c1) := X_0.cell 1
  have cX_0_2 : _ = some (Value.slice b1 m1 d1) := X_0.cell 2
  have cY_0_0 : _ = some (Value.bool t) := Y_0.cell 0
  have cY_0_1 : _ = some (Value.slice a2 n2 c2) := Y_0.cell 1
  have cY_0_2 : _ = some (Value.slice b2 m2 d2) := Y_0.cell 2
  have cR0_0_0 : _ = some (Value.bool false) := R0_0.cell 0
  have fR0_0_0 := R0_0.free 0
  have cR0_0_1 : _ = some (Value.slice none 0 0) := R0_0.cell 1
  have fR0_0_1 := R0_0.free 1
  have cR0_0_2 : _ = some (Value.slice none 0 0) := R0_0.cell 2
  have fR0_0_2 := R0_0.free 2
  have hx_0 := hx.below hbel_0
  clear hx
  have hy_0 := hy.below hbel_0
  clear hy
  go_wp2_with fail
  refine (qcmp hx_0 (by omega) hy_0 (by omega)).mono ?_
  rw [hch.out]
  rintro e w1 ⟨rfl, hB⟩
  have hB_1 : Below W0.heap.size W0 w1 := (bl.next hB)
  have X_1 := X_0.next hB_1
  have cX_1_0 : _ = some (Value.bool s) := X_1.cell 0
  have cX_1_1 : _ = some (Value.slice a1 n1 c1) := X_1.cell 1
  have cX_1_2 : _ = some (Value.slice b1 m1 d1) := X_1.cell 2
  have Y_1 := Y_0.next hB_1
  have cY_1_0 : _ = some (Value.bool t) := Y_1.cell 0
  have cY_1_1 : _ = some (Value.slice a2 n2 c2) := Y_1.cell 1
  have cY_1_2 : _ = some (Value.slice b2 m2 d2) := Y_1.cell 2
  have R0_1 := R0_0.next hB_1
  have cR0_1_0 : _ = some (Value.bool false) := R0_1.cell 0
  have fR0_1_0 := R0_1.free 0
  have cR0_1_1 : _ = some (Value.slice none 0 0) := R0_1.cell 1
  have fR0_1_1 := R0_1.free 1
  have cR0_1_2 : _ = some (Value.slice none 0 0) := R0_1.cell 2
  have fR0_1_2 := R0_1.free 2
  have hx_1 := hx_0.below hB_1
  have hy_1 := hy_0.below hB_1
  have hbel_1 := hbel_0.next hB_1
  have hsz_1 := hB_1.size
  clear X_0 cX_0_0 cX_0_1 cX_0_2 Y_0 cY_0_0 cY_0_1 cY_0_2 R0_0 cR0_0_0 fR0_0_0 cR0_0_1 fR0_0_1 cR0_0_2 fR0_0_2 hx_0 hy_0 hbel_0 hB_1
  try clear hB
  go_wp2_with fail
  refine (qsign hx_1 (by omega)).mono ?_
  rw [hsx.out]
  rintro e w2 ⟨rfl, hB⟩
  have hB_2 : Below w1.heap.size w1 w2 := (bl.next hB)
  have X_2 := X_1.next hB_2
  have cX_2_0 : _ = some (Value.bool s) := X_2.cell 0
  have cX_2_1 : _ = some (Value.slice a1 n1 c1) := X_2.cell 1
  have cX_2_2 : _ = some (Value.slice b1 m1 d1) := X_2.cell 2
  have Y_2 := Y_1.next hB_2
  have cY_2_0 : _ = some (Value.bool t) := Y_2.cell 0
  have cY_2_1 : _ = some (Value.slice a2 n2 c2) := Y_2.cell 1
  have cY_2_2 : _ = some (Value.slice b2 m2 d2) := Y_2.cell 2
  have R0_2 := R0_1.next hB_2
  have cR0_2_0 : _ = some (Value.bool false) := R0_2.cell 0
  have fR0_2_0 := R0_2.free 0
  have cR0_2_1 : _ = some (Value.slice none 0 0) := R0_2.cell 1
  have fR0_2_1 := R0_2.free 1
  have cR0_2_2 : _ = some (Value.slice none 0 0) := R0_2.cell 2
  have fR0_2_2 := R0_2.free 2
  have hx_2 := hx_1.below hB_2
  have hy_2 := hy_1.below hB_2
  have hbel_2 := hbel_1.next hB_2
  have hsz_2 := hB_2.size
  clear X_1 cX_1_0 cX_1_1 cX_1_2 Y_1 cY_1_0 cY_1_1 cY_1_2 R0_1 cR0_1_0 fR0_1_0 cR0_1_1 fR0_1_1 cR0_1_2 fR0_1_2 hx_1 hy_1 hbel_1 hB_2
  try clear hB
  go_wp2_with fail
  refine (HB.out.go hin.out (Nat.le_refl _) hx_2 hy_2).mono ?_
  rw [hq.out]
  rintro e w3 ⟨qa, qn, qc, qb, qm, qd, rfl, hO, hO', hDq, hB⟩
  have hB_3 : Below w2.heap.size w2 w3 := (bl.next hB)
  have X_3 := X_2.next hB_3
  have cX_3_0 : _ = some (Value.bool s) := X_3.cell 0
  have cX_3_1 : _ = some (Value.slice a1 n1 c1) := X_3.cell 1
  have cX_3_2 : _ = some (Value.slice b1 m1 d1) := X_3.cell 2
  have Y_3 := Y_2.next hB_3
  have cY_3_0 : _ = some (Value.bool t) := Y_3.cell 0
  have cY_3_1 : _ = some (Value.slice a2 n2 c2) := Y_3.cell 1
  have cY_3_2 : _ = some (Value.slice b2 m2 d2) := Y_3.cell 2
  have R0_3 := R0_2.next hB_3
  have cR0_3_0 : _ = some (Value.bool false) := R0_3.cell 0
  have fR0_3_0 := R0_3.free 0
  have cR0_3_1 : _ = some (Value.slice none 0 0) := R0_3.cell 1
  have fR0_3_1 := R0_3.free 1
  have cR0_3_2 : _ = some (Value.slice none 0 0) := R0_3.cell 2
  have fR0_3_2 := R0_3.free 2
  have hx_3 := hx_2.below hB_3
  have hy_3 := hy_2.below hB_3
  have hbel_3 := hbel_2.next hB_3
  have hsz_3 := hB_3.size
  clear X_2 cX_2_0 cX_2_1 cX_2_2 Y_2 cY_2_0 cY_2_1 cY_2_2 R0_2 cR0_2_0 fR0_2_0 cR0_2_1 fR0_2_1 cR0_2_2 fR0_2_2 hx_2 hy_2 hbel_2 hB_3
  have Oq_3 := hO
  have ltOq := hO.ltB
  have Pq_3 := hO'
  have ltPq := hO'.ltB
  clear hO hO'
  try clear hB
  go_wp2
  refine bodyPost_ret (v := .tuple #[.agg #[.bool (decide ((q : Rat).num < 0)), .slice qa qn qc, .slice qb qm qd], .int .i64 0]) (by simp [results, Tryz.results88, go_sem, cR0_3_0, cR0_3_1, cR0_3_2]) rfl ?_
  exact retqe_set (er := 0) Oq_3 Pq_3 hDq hbel_3 (by omega) (by omega)

set_option maxRecDepth 100000 in
set_option maxHeartbeats 8000000 in
theorem qsimpN {w : World} {a1 b1 : Option Addr} {n1 c1 m1 d1 : Nat} {s : Bool} {x : Rat} {a2 b2 : Option Addr} {n2 c2 m2 d2 : Nat} {t : Bool} {y : Rat} {J : Nat} (hJ1 : 1 ≤ J) (hJ : J ≤ 200000) (hx : RdQ J w s a1 n1 c1 b1 m1 d1 x) (hy : RdQ J w t a2 n2 c2 b2 m2 d2 y) (h1 : x ≤ y) (h2 : ¬ 0 < x) (h3 : y < 0) :
    Calls Tryz.prog 88 #[.agg #[.bool s, .slice a1 n1 c1, .slice b1 m1 d1], .agg #[.bool t, .slice a2 n2 c2, .slice b2 m2 d2]] w (RetQE w (spl x y) 0) := by
  have hqx := hx.qs hJ1
  have hqy := hy.qs hJ1
  have hc : cmpQ x y ≤ 0 := by rcases cmpQ_cases x y with ⟨_, e⟩ | ⟨_, e⟩ | ⟨h, e⟩ <;> first | omega | exact absurd h1 (Rat.not_le.2 h)
  have hs1 : sgnQ x ≤ 0 := by rcases sgnQ_cases x with ⟨h, e⟩ | ⟨h, e⟩ | ⟨h, e⟩ <;> first | omega | exact absurd h2 (Rat.not_lt.2 (Rat.le_of_lt h)) | (rw [h] at h2; exact absurd h2 Rat.lt_irrefl) | exact absurd h h2
  have hs2 : sgnQ y < 0 := by rcases sgnQ_cases y with ⟨h, e⟩ | ⟨h, e⟩ | ⟨h, e⟩ <;> first | omega | exact absurd h h3 | exact absurd h3 (Rat.not_lt.2 (Rat.le_of_lt h)) | (rw [h] at h3; exact absurd h3 Rat.lt_irrefl)
  have hin := hid (smpIn_of (neg_pos' h3) (Rat.neg_le_neg h1))
  have hqs := hid (smp_qs (smpIn_of (neg_pos' h3) (Rat.neg_le_neg h1)) (show (-y).den + (-x).den ≤ y.den + x.den by simp) hqy.neg)
  have hle := hid (show (-y).den + (-x).den ≤ y.den + x.den by simp)
  have q1 := hid hqy.neg
  have q2 := hid hqx.neg
  rw [spl_neg h2 h3]
  generalize hu0 : -y = u at *
  generalize hv0 : -x = v at *
  have hu := hid hu0
  have hv := hid hv0
  generalize hq0 : smp (y.den + x.den) u v = q at *
  have hq := hid hq0
  have HB := hid (@qbtw J hJ1 hJ (y.den + x.den))
  clear hq0 hu0 hv0 h1 h2 h3
  obtain ⟨r, hr0⟩ : ∃ r, -q = r := ⟨_, rfl⟩
  rw [hr0]
  have hr := hid hr0
  clear hr0
  obtain ⟨c, hc0⟩ : ∃ c, cmpQ x y = c := ⟨_, rfl⟩
  rw [hc0] at hc
  have hch := hid hc0
  clear hc0 hqx hqy
  obtain ⟨sx, hsx0⟩ : ∃ c, sgnQ x = c := ⟨_, rfl⟩
  rw [hsx0] at hs1
  have hsx := hid hsx0
  clear hsx0
  obtain ⟨sy, hsy0⟩ : ∃ c, sgnQ y = c := ⟨_, rfl⟩
  rw [hsy0] at hs2
  have hsy := hid hsy0
  clear hsy0
  have hent := ent3 w #[Value.bool s, Value.slice a1 n1 c1, Value.slice b1 m1 d1] #[Value.bool t, Value.slice a2 n2 c2, Value.slice b2 m2 d2] #[Value.bool false, Value.slice none 0 0, Value.slice none 0 0] 38 38 38
  go_enter Tryz.func88, Tryz.ntmps88
  go_wp2_with fail
  generalize (((w.alloc (.cells #[Value.bool s, Value.slice a1 n1 c1, Value.slice b1 m1 d1] 38)).alloc (.cells #[Value.bool t, Value.slice a2 n2 c2, Value.slice b2 m2 d2] 38)).alloc (.cells #[Value.bool false, Value.slice none 0 0, Value.slice none 0 0] 38)) = W0 at hent ⊢
  obtain ⟨X_0, Y_0, R0_0, hbel_0, hsz_0⟩ := hent
  have cX_0_0 : _ = some (Value.bool s) := X_0.cell 0
  have cX_0_1 : _ = some (Value.slice a1 n1 c1) := X_0.cell 1
  have cX_0_2 : _ = some (Value.slice b1 m1 d1) := X_0.cell 2
  have cY_0_0 : _ = some (Value.bool t) := Y_0.cell 0
  have cY_0_1 : _ = some (Value.slice a2 n2 c2) := Y_0.cell 1
  have cY_0_2 : _ = some (Value.slice b2 m2 d2) := Y_0.cell 2
  have cR0_0_0 : _ = some (Value.bool false) := R0_0.cell 0
  have fR0_0_0 := R0_0.free 0
  have cR0_0_1 : _ = some (Value.slice none 0 0) := R0_0.cell 1
  have fR0_0_1 := R0_0.free 1
  have cR0_0_2 : _ = some (Value.slice none 0 0) := R0_0.cell 2
  have fR0_0_2 := R0_0.free 2
  have hx_0 := hx.below hbel_0
  clear hx
  have hy_0 := hy.below hbel_0
  clear hy
  go_wp2_with fail
  refine (qcmp hx_0 (by omega) hy_0 (by omega)).mono ?_
  rw [hch.out]
  rintro e w1 ⟨rfl, hB⟩
  have hB_1 : Below W0.heap.size W0 w1 := (bl.next hB)
  have X_1 := X_0.next hB_1
  have cX_1_0 : _ = some (Value.bool s) := X_1.cell 0
  have cX_1_1 : _ = some (Value.slice a1 n1 c1) := X_1.cell 1
  have cX_1_2 : _ = some (Value.slice b1 m1 d1) := X_1.cell 2
  have Y_1 := Y_0.next hB_1
  have cY_1_0 : _ = some (Value.bool t) := Y_1.cell 0
  have cY_1_1 : _ = some (Value.slice a2 n2 c2) := Y_1.cell 1
  have cY_1_2 : _ = some (Value.slice b2 m2 d2) := Y_1.cell 2
  have R0_1 := R0_0.next hB_1
  have cR0_1_0 : _ = some (Value.bool false) := R0_1.cell 0
  have fR0_1_0 := R0_1.free 0
  have cR0_1_1 : _ = some (Value.slice none 0 0) := R0_1.cell 1
  have fR0_1_1 := R0_1.free 1
  have cR0_1_2 : _ = some (Value.slice none 0 0) := R0_1.cell 2
  have fR0_1_2 := R0_1.free 2
  have hx_1 := hx_0.below hB_1
  have hy_1 := hy_0.below hB_1
  have hbel_1 := hbel_0.next hB_1
  have hsz_1 := hB_1.size
  clear X_0 cX_0_0 cX_0_1 cX_0_2 Y_0 cY_0_0 cY_0_1 cY_0_2 R0_0 cR0_0_0 fR0_0_0 cR0_0_1 fR0_0_1 cR0_0_2 fR0_0_2 hx_0 hy_0 hbel_0 hB_1
  try clear hB
  go_wp2_with fail
  refine (qsign hx_1 (by omega)).mono ?_
  rw [hsx.out]
  rintro e w2 ⟨rfl, hB⟩
  have hB_2 : Below w1.heap.size w1 w2 := (bl.next hB)
  have X_2 := X_1.next hB_2
  have cX_2_0 : _ = some (Value.bool s) := X_2.cell 0
  have cX_2_1 : _ = some (Value.slice a1 n1 c1) := X_2.cell 1
  have cX_2_2 : _ = some (Value.slice b1 m1 d1) := X_2.cell 2
  have Y_2 := Y_1.next hB_2
  have cY_2_0 : _ = some (Value.bool t) := Y_2.cell 0
  have cY_2_1 : _ = some (Value.slice a2 n2 c2) := Y_2.cell 1
  have cY_2_2 : _ = some (Value.slice b2 m2 d2) := Y_2.cell 2
  have R0_2 := R0_1.next hB_2
  have cR0_2_0 : _ = some (Value.bool false) := R0_2.cell 0
  have fR0_2_0 := R0_2.free 0
  have cR0_2_1 : _ = some (Value.slice none 0 0) := R0_2.cell 1
  have fR0_2_1 := R0_2.free 1
  have cR0_2_2 : _ = some (Value.slice none 0 0) := R0_2.cell 2
  have fR0_2_2 := R0_2.free 2
  have hx_2 := hx_1.below hB_2
  have hy_2 := hy_1.below hB_2
  have hbel_2 := hbel_1.next hB_2
  have hsz_2 := hB_2.size
  clear X_1 cX_1_0 cX_1_1 cX_1_2 Y_1 cY_1_0 cY_1_1 cY_1_2 R0_1 cR0_1_0 fR0_1_0 cR0_1_1 fR0_1_1 cR0_1_2 fR0_1_2 hx_1 hy_1 hbel_1 hB_2
  try clear hB
  go_wp2_with fail
  refine (qsign hy_2 (by omega)).mono ?_
  rw [hsy.out]
  rintro e w3 ⟨rfl, hB⟩
  have hB_3 : Below w2.heap.size w2 w3 := (bl.next hB)
  have X_3 := X_2.next hB_3
  have cX_3_0 : _ = some (Value.bool s) := X_3.cell 0
  have cX_3_1 : _ = some (Value.slice a1 n1 c1) := X_3.cell 1
  have cX_3_2 : _ = some (Value.slice b1 m1 d1) := X_3.cell 2
  have Y_3 := Y_2.next hB_3
  have cY_3_0 : _ = some (Value.bool t) := Y_3.cell 0
  have cY_3_1 : _ = some (Value.slice a2 n2 c2) := Y_3.cell 1
  have cY_3_2 : _ = some (Value.slice b2 m2 d2) := Y_3.cell 2
  have R0_3 := R0_2.next hB_3
  have cR0_3_0 : _ = some (Value.bool false) := R0_3.cell 0
  have fR0_3_0 := R0_3.free 0
  have cR0_3_1 : _ = some (Value.slice none 0 0) := R0_3.cell 1
  have fR0_3_1 := R0_3.free 1
  have cR0_3_2 : _ = some (Value.slice none 0 0) := R0_3.cell 2
  have fR0_3_2 := R0_3.free 2
  have hx_3 := hx_2.below hB_3
  have hy_3 := hy_2.below hB_3
  have hbel_3 := hbel_2.next hB_3
  have hsz_3 := hB_3.size
  clear X_2 cX_2_0 cX_2_1 cX_2_2 Y_2 cY_2_0 cY_2_1 cY_2_2 R0_2 cR0_2_0 fR0_2_0 cR0_2_1 fR0_2_1 cR0_2_2 fR0_2_2 hx_2 hy_2 hbel_2 hB_3
  try clear hB
  go_wp2_with fail
  go_region_held3 (fun w' => w'.cell? ⟨w.heap.size, 0, none⟩ = some (Value.bool s) ∧ w'.cell? ⟨w.heap.size, 1, none⟩ = some (Value.slice a1 n1 c1) ∧ w'.cell? ⟨w.heap.size, 2, none⟩ = some (Value.slice b1 m1 d1) ∧ w'.cell? ⟨w.heap.size + 1, 0, none⟩ = some (Value.bool t) ∧ w'.cell? ⟨w.heap.size + 1, 1, none⟩ = some (Value.slice a2 n2 c2) ∧ w'.cell? ⟨w.heap.size + 1, 2, none⟩ = some (Value.slice b2 m2 d2))
    (first | exact ⟨cX_3_0, cX_3_1, cX_3_2, cY_3_0, cY_3_1, cY_3_2⟩ | exact ⟨cX_4_0, cX_4_1, cX_4_2, cY_4_0, cY_4_1, cY_4_2⟩ | exact ⟨cX_5_0, cX_5_1, cX_5_2, cY_5_0, cY_5_1, cY_5_2⟩ | exact ⟨cX_6_0, cX_6_1, cX_6_2, cY_6_0, cY_6_1, cY_6_2⟩ | exact ⟨cX_7_0, cX_7_1, cX_7_2, cY_7_0, cY_7_1, cY_7_2⟩ | exact ⟨(cell_set3 (by omega) _ _ _).trans (cX_7_0), (cell_set3 (by omega) _ _ _).trans (cX_7_1), (cell_set3 (by omega) _ _ _).trans (cX_7_2), (cell_set3 (by omega) _ _ _).trans (cY_7_0), (cell_set3 (by omega) _ _ _).trans (cY_7_1), (cell_set3 (by omega) _ _ _).trans (cY_7_2)⟩ | go_keep)
    (first
      | (go_at_call 135; ((with_reducible refine (qneg (hy_3.below bl) (by omega)).mono ?_); (rw [hu.out]; rintro e w4 ⟨ua, un, uc, ub, um, ud, rfl, hO, hO', hDu, hB⟩; have hB_4 : Below w3.heap.size w3 w4 := (bl.next hB); have X_4 := X_3.next hB_4; have cX_4_0 : _ = some (Value.bool s) := X_4.cell 0; have cX_4_1 : _ = some (Value.slice a1 n1 c1) := X_4.cell 1; have cX_4_2 : _ = some (Value.slice b1 m1 d1) := X_4.cell 2; have Y_4 := Y_3.next hB_4; have cY_4_0 : _ = some (Value.bool t) := Y_4.cell 0; have cY_4_1 : _ = some (Value.slice a2 n2 c2) := Y_4.cell 1; have cY_4_2 : _ = some (Value.slice b2 m2 d2) := Y_4.cell 2; have R0_4 := R0_3.next hB_4; have cR0_4_0 : _ = some (Value.bool false) := R0_4.cell 0; have fR0_4_0 := R0_4.free 0; have cR0_4_1 : _ = some (Value.slice none 0 0) := R0_4.cell 1; have fR0_4_1 := R0_4.free 1; have cR0_4_2 : _ = some (Value.slice none 0 0) := R0_4.cell 2; have fR0_4_2 := R0_4.free 2; have hx_4 := hx_3.below hB_4; have hy_4 := hy_3.below hB_4; have hbel_4 := hbel_3.next hB_4; have hsz_4 := hB_4.size; clear X_3 cX_3_0 cX_3_1 cX_3_2 Y_3 cY_3_0 cY_3_1 cY_3_2 R0_3 cR0_3_0 fR0_3_0 cR0_3_1 fR0_3_1 cR0_3_2 fR0_3_2 hx_3 hy_3 hbel_3 hB_4; have QU_4 := hO.rdQ hO' q1.out; clear hO hO'; try clear hB)))
      | (go_at_call 135; ((with_reducible refine (qneg (hx_4.below bl) (by omega)).mono ?_); (rw [hv.out]; rintro e w5 ⟨va, vn, vc, vb, vm, vd, rfl, hO, hO', hDv, hB⟩; have hB_5 : Below w4.heap.size w4 w5 := (bl.next hB); have X_5 := X_4.next hB_5; have cX_5_0 : _ = some (Value.bool s) := X_5.cell 0; have cX_5_1 : _ = some (Value.slice a1 n1 c1) := X_5.cell 1; have cX_5_2 : _ = some (Value.slice b1 m1 d1) := X_5.cell 2; have Y_5 := Y_4.next hB_5; have cY_5_0 : _ = some (Value.bool t) := Y_5.cell 0; have cY_5_1 : _ = some (Value.slice a2 n2 c2) := Y_5.cell 1; have cY_5_2 : _ = some (Value.slice b2 m2 d2) := Y_5.cell 2; have R0_5 := R0_4.next hB_5; have cR0_5_0 : _ = some (Value.bool false) := R0_5.cell 0; have fR0_5_0 := R0_5.free 0; have cR0_5_1 : _ = some (Value.slice none 0 0) := R0_5.cell 1; have fR0_5_1 := R0_5.free 1; have cR0_5_2 : _ = some (Value.slice none 0 0) := R0_5.cell 2; have fR0_5_2 := R0_5.free 2; have hx_5 := hx_4.below hB_5; have hy_5 := hy_4.below hB_5; have QU_5 := QU_4.below hB_5; have hbel_5 := hbel_4.next hB_5; have hsz_5 := hB_5.size; clear X_4 cX_4_0 cX_4_1 cX_4_2 Y_4 cY_4_0 cY_4_1 cY_4_2 R0_4 cR0_4_0 fR0_4_0 cR0_4_1 fR0_4_1 cR0_4_2 fR0_4_2 hx_4 hy_4 QU_4 hbel_4 hB_5; have QV_5 := hO.rdQ hO' q2.out; clear hO hO'; try clear hB)))
      | (go_at_call 134; ((with_reducible refine (HB.out.go hin.out hle.out (QU_5.below bl) (QV_5.below bl)).mono ?_); (rw [hq.out]; rintro e w6 ⟨za, zn, zc, zb, zm, zd, rfl, hO, hO', hDz, hB⟩; have hB_6 : Below w5.heap.size w5 w6 := (bl.next hB); have X_6 := X_5.next hB_6; have cX_6_0 : _ = some (Value.bool s) := X_6.cell 0; have cX_6_1 : _ = some (Value.slice a1 n1 c1) := X_6.cell 1; have cX_6_2 : _ = some (Value.slice b1 m1 d1) := X_6.cell 2; have Y_6 := Y_5.next hB_6; have cY_6_0 : _ = some (Value.bool t) := Y_6.cell 0; have cY_6_1 : _ = some (Value.slice a2 n2 c2) := Y_6.cell 1; have cY_6_2 : _ = some (Value.slice b2 m2 d2) := Y_6.cell 2; have R0_6 := R0_5.next hB_6; have cR0_6_0 : _ = some (Value.bool false) := R0_6.cell 0; have fR0_6_0 := R0_6.free 0; have cR0_6_1 : _ = some (Value.slice none 0 0) := R0_6.cell 1; have fR0_6_1 := R0_6.free 1; have cR0_6_2 : _ = some (Value.slice none 0 0) := R0_6.cell 2; have fR0_6_2 := R0_6.free 2; have hx_6 := hx_5.below hB_6; have hy_6 := hy_5.below hB_6; have QU_6 := QU_5.below hB_6; have QV_6 := QV_5.below hB_6; have hbel_6 := hbel_5.next hB_6; have hsz_6 := hB_6.size; clear X_5 cX_5_0 cX_5_1 cX_5_2 Y_5 cY_5_0 cY_5_1 cY_5_2 R0_5 cR0_5_0 fR0_5_0 cR0_5_1 fR0_5_1 cR0_5_2 fR0_5_2 hx_5 hy_5 QU_5 QV_5 hbel_5 hB_6; have QZ_6 := hO.rdQ hO' hqs.out; clear hO hO'; try clear hB)))
      | (go_at_call 135; ((with_reducible refine (qneg (QZ_6.below bl) (by omega)).mono ?_); (rw [hr.out]; rintro e w7 ⟨qa, qn, qc, qb, qm, qd, rfl, hO, hO', hDq, hB⟩; have hB_7 : Below w6.heap.size w6 w7 := (bl.next hB); have X_7 := X_6.next hB_7; have cX_7_0 : _ = some (Value.bool s) := X_7.cell 0; have cX_7_1 : _ = some (Value.slice a1 n1 c1) := X_7.cell 1; have cX_7_2 : _ = some (Value.slice b1 m1 d1) := X_7.cell 2; have Y_7 := Y_6.next hB_7; have cY_7_0 : _ = some (Value.bool t) := Y_7.cell 0; have cY_7_1 : _ = some (Value.slice a2 n2 c2) := Y_7.cell 1; have cY_7_2 : _ = some (Value.slice b2 m2 d2) := Y_7.cell 2; have R0_7 := R0_6.next hB_7; have cR0_7_0 : _ = some (Value.bool false) := R0_7.cell 0; have fR0_7_0 := R0_7.free 0; have cR0_7_1 : _ = some (Value.slice none 0 0) := R0_7.cell 1; have fR0_7_1 := R0_7.free 1; have cR0_7_2 : _ = some (Value.slice none 0 0) := R0_7.cell 2; have fR0_7_2 := R0_7.free 2; have hx_7 := hx_6.below hB_7; have hy_7 := hy_6.below hB_7; have QU_7 := QU_6.below hB_7; have QV_7 := QV_6.below hB_7; have QZ_7 := QZ_6.below hB_7; have hbel_7 := hbel_6.next hB_7; have hsz_7 := hB_7.size; clear X_6 cX_6_0 cX_6_1 cX_6_2 Y_6 cY_6_0 cY_6_1 cY_6_2 R0_6 cR0_6_0 fR0_6_0 cR0_6_1 fR0_6_1 cR0_6_2 fR0_6_2 hx_6 hy_6 QU_6 QV_6 QZ_6 hbel_6 hB_7; have Oq_7 := hO; have ltOq := hO.ltB; have Pq_7 := hO'; have ltPq := hO'.ltB; clear hO hO'; try clear hB))))
  go_wp2
  refine bodyPost_ret (v := .tuple #[.agg #[.bool (decide ((r : Rat).num < 0)), .slice qa qn qc, .slice qb qm qd], .int .i64 0]) (by simp [results, Tryz.results88, go_sem, cR0_7_0, cR0_7_1, cR0_7_2]) rfl ?_
  exact retqe_set (er := 0) Oq_7 Pq_7 hDq hbel_7 (by omega) (by omega)

set_option maxRecDepth 100000 in
set_option maxHeartbeats 8000000 in
theorem qsimpZ {w : World} {a1 b1 : Option Addr} {n1 c1 m1 d1 : Nat} {s : Bool} {x : Rat} {a2 b2 : Option Addr} {n2 c2 m2 d2 : Nat} {t : Bool} {y : Rat} {J : Nat} (hJ1 : 1 ≤ J) (hJ : J ≤ 200000) (hx : RdQ J w s a1 n1 c1 b1 m1 d1 x) (hy : RdQ J w t a2 n2 c2 b2 m2 d2 y) (h1 : x ≤ y) (h2 : ¬ 0 < x) (h3 : ¬ y < 0) :
    Calls Tryz.prog 88 #[.agg #[.bool s, .slice a1 n1 c1, .slice b1 m1 d1], .agg #[.bool t, .slice a2 n2 c2, .slice b2 m2 d2]] w (RetQE w (spl x y) 0) := by
  have hqx := hx.qs hJ1
  have hqy := hy.qs hJ1
  have hc : cmpQ x y ≤ 0 := by rcases cmpQ_cases x y with ⟨_, e⟩ | ⟨_, e⟩ | ⟨h, e⟩ <;> first | omega | exact absurd h1 (Rat.not_le.2 h)
  have hs1 : sgnQ x ≤ 0 := by rcases sgnQ_cases x with ⟨h, e⟩ | ⟨h, e⟩ | ⟨h, e⟩ <;> first | omega | exact absurd h2 (Rat.not_lt.2 (Rat.le_of_lt h)) | (rw [h] at h2; exact absurd h2 Rat.lt_irrefl) | exact absurd h h2
  have hs2 : 0 ≤ sgnQ y := by rcases sgnQ_cases y with ⟨h, e⟩ | ⟨h, e⟩ | ⟨h, e⟩ <;> first | omega | exact absurd h h3 | exact absurd h3 (Rat.not_lt.2 (Rat.le_of_lt h)) | (rw [h] at h3; exact absurd h3 Rat.lt_irrefl)
  rw [spl_zero h2 h3]
  clear h1 h2 h3
  obtain ⟨c, hc0⟩ : ∃ c, cmpQ x y = c := ⟨_, rfl⟩
  rw [hc0] at hc
  have hch := hid hc0
  clear hc0 hqx hqy
  obtain ⟨sx, hsx0⟩ : ∃ c, sgnQ x = c := ⟨_, rfl⟩
  rw [hsx0] at hs1
  have hsx := hid hsx0
  clear hsx0
  obtain ⟨sy, hsy0⟩ : ∃ c, sgnQ y = c := ⟨_, rfl⟩
  rw [hsy0] at hs2
  have hsy := hid hsy0
  clear hsy0
  have hent := ent3 w #[Value.bool s, Value.slice a1 n1 c1, Value.slice b1 m1 d1] #[Value.bool t, Value.slice a2 n2 c2, Value.slice b2 m2 d2] #[Value.bool false, Value.slice none 0 0, Value.slice none 0 0] 38 38 38
  go_enter Tryz.func88, Tryz.ntmps88
  go_wp2_with fail
  generalize (((w.alloc (.cells #[Value.bool s, Value.slice a1 n1 c1, Value.slice b1 m1 d1] 38)).alloc (.cells #[Value.bool t, Value.slice a2 n2 c2, Value.slice b2 m2 d2] 38)).alloc (.cells #[Value.bool false, Value.slice none 0 0, Value.slice none 0 0] 38)) = W0 at hent ⊢
  obtain ⟨X_0, Y_0, R0_0, hbel_0, hsz_0⟩ := hent
  have cX_0_0 : _ = some (Value.bool s) := X_0.cell 0
  have cX_0_1 : _ = some (Value.slice a1 n1 c1) := X_0.cell 1
  have cX_0_2 : _ = some (Value.slice b1 m1 d1) := X_0.cell 2
  have cY_0_0 : _ = some (Value.bool t) := Y_0.cell 0
  have cY_0_1 : _ = some (Value.slice a2 n2 c2) := Y_0.cell 1
  have cY_0_2 : _ = some (Value.slice b2 m2 d2) := Y_0.cell 2
  have cR0_0_0 : _ = some (Value.bool false) := R0_0.cell 0
  have fR0_0_0 := R0_0.free 0
  have cR0_0_1 : _ = some (Value.slice none 0 0) := R0_0.cell 1
  have fR0_0_1 := R0_0.free 1
  have cR0_0_2 : _ = some (Value.slice none 0 0) := R0_0.cell 2
  have fR0_0_2 := R0_0.free 2
  have hx_0 := hx.below hbel_0
  clear hx
  have hy_0 := hy.below hbel_0
  clear hy
  go_wp2_with fail
  refine (qcmp hx_0 (by omega) hy_0 (by omega)).mono ?_
  rw [hch.out]
  rintro e w1 ⟨rfl, hB⟩
  have hB_1 : Below W0.heap.size W0 w1 := (bl.next hB)
  have X_1 := X_0.next hB_1
  have cX_1_0 : _ = some (Value.bool s) := X_1.cell 0
  have cX_1_1 : _ = some (Value.slice a1 n1 c1) := X_1.cell 1
  have cX_1_2 : _ = some (Value.slice b1 m1 d1) := X_1.cell 2
  have Y_1 := Y_0.next hB_1
  have cY_1_0 : _ = some (Value.bool t) := Y_1.cell 0
  have cY_1_1 : _ = some (Value.slice a2 n2 c2) := Y_1.cell 1
  have cY_1_2 : _ = some (Value.slice b2 m2 d2) := Y_1.cell 2
  have R0_1 := R0_0.next hB_1
  have cR0_1_0 : _ = some (Value.bool false) := R0_1.cell 0
  have fR0_1_0 := R0_1.free 0
  have cR0_1_1 : _ = some (Value.slice none 0 0) := R0_1.cell 1
  have fR0_1_1 := R0_1.free 1
  have cR0_1_2 : _ = some (Value.slice none 0 0) := R0_1.cell 2
  have fR0_1_2 := R0_1.free 2
  have hx_1 := hx_0.below hB_1
  have hy_1 := hy_0.below hB_1
  have hbel_1 := hbel_0.next hB_1
  have hsz_1 := hB_1.size
  clear X_0 cX_0_0 cX_0_1 cX_0_2 Y_0 cY_0_0 cY_0_1 cY_0_2 R0_0 cR0_0_0 fR0_0_0 cR0_0_1 fR0_0_1 cR0_0_2 fR0_0_2 hx_0 hy_0 hbel_0 hB_1
  try clear hB
  go_wp2_with fail
  refine (qsign hx_1 (by omega)).mono ?_
  rw [hsx.out]
  rintro e w2 ⟨rfl, hB⟩
  have hB_2 : Below w1.heap.size w1 w2 := (bl.next hB)
  have X_2 := X_1.next hB_2
  have cX_2_0 : _ = some (Value.bool s) := X_2.cell 0
  have cX_2_1 : _ = some (Value.slice a1 n1 c1) := X_2.cell 1
  have cX_2_2 : _ = some (Value.slice b1 m1 d1) := X_2.cell 2
  have Y_2 := Y_1.next hB_2
  have cY_2_0 : _ = some (Value.bool t) := Y_2.cell 0
  have cY_2_1 : _ = some (Value.slice a2 n2 c2) := Y_2.cell 1
  have cY_2_2 : _ = some (Value.slice b2 m2 d2) := Y_2.cell 2
  have R0_2 := R0_1.next hB_2
  have cR0_2_0 : _ = some (Value.bool false) := R0_2.cell 0
  have fR0_2_0 := R0_2.free 0
  have cR0_2_1 : _ = some (Value.slice none 0 0) := R0_2.cell 1
  have fR0_2_1 := R0_2.free 1
  have cR0_2_2 : _ = some (Value.slice none 0 0) := R0_2.cell 2
  have fR0_2_2 := R0_2.free 2
  have hx_2 := hx_1.below hB_2
  have hy_2 := hy_1.below hB_2
  have hbel_2 := hbel_1.next hB_2
  have hsz_2 := hB_2.size
  clear X_1 cX_1_0 cX_1_1 cX_1_2 Y_1 cY_1_0 cY_1_1 cY_1_2 R0_1 cR0_1_0 fR0_1_0 cR0_1_1 fR0_1_1 cR0_1_2 fR0_1_2 hx_1 hy_1 hbel_1 hB_2
  try clear hB
  go_wp2_with fail
  refine (qsign hy_2 (by omega)).mono ?_
  rw [hsy.out]
  rintro e w3 ⟨rfl, hB⟩
  have hB_3 : Below w2.heap.size w2 w3 := (bl.next hB)
  have X_3 := X_2.next hB_3
  have cX_3_0 : _ = some (Value.bool s) := X_3.cell 0
  have cX_3_1 : _ = some (Value.slice a1 n1 c1) := X_3.cell 1
  have cX_3_2 : _ = some (Value.slice b1 m1 d1) := X_3.cell 2
  have Y_3 := Y_2.next hB_3
  have cY_3_0 : _ = some (Value.bool t) := Y_3.cell 0
  have cY_3_1 : _ = some (Value.slice a2 n2 c2) := Y_3.cell 1
  have cY_3_2 : _ = some (Value.slice b2 m2 d2) := Y_3.cell 2
  have R0_3 := R0_2.next hB_3
  have cR0_3_0 : _ = some (Value.bool false) := R0_3.cell 0
  have fR0_3_0 := R0_3.free 0
  have cR0_3_1 : _ = some (Value.slice none 0 0) := R0_3.cell 1
  have fR0_3_1 := R0_3.free 1
  have cR0_3_2 : _ = some (Value.slice none 0 0) := R0_3.cell 2
  have fR0_3_2 := R0_3.free 2
  have hx_3 := hx_2.below hB_3
  have hy_3 := hy_2.below hB_3
  have hbel_3 := hbel_2.next hB_3
  have hsz_3 := hB_3.size
  clear X_2 cX_2_0 cX_2_1 cX_2_2 Y_2 cY_2_0 cY_2_1 cY_2_2 R0_2 cR0_2_0 fR0_2_0 cR0_2_1 fR0_2_1 cR0_2_2 fR0_2_2 hx_2 hy_2 hbel_2 hB_3
  try clear hB
  go_wp2_with fail
  refine (qsum (K := 1) (rdqs_nil 1 _) (by omega) (by omega)).mono ?_
  rw [show qsm [] 0 = 0 from rfl]
  rintro e w4 ⟨qa, qn, qc, qb, qm, qd, rfl, hO, hO', hDq, hB⟩
  have hB_4 : Below w3.heap.size w3 w4 := (bl.next hB)
  have X_4 := X_3.next hB_4
  have cX_4_0 : _ = some (Value.bool s) := X_4.cell 0
  have cX_4_1 : _ = some (Value.slice a1 n1 c1) := X_4.cell 1
  have cX_4_2 : _ = some (Value.slice b1 m1 d1) := X_4.cell 2
  have Y_4 := Y_3.next hB_4
  have cY_4_0 : _ = some (Value.bool t) := Y_4.cell 0
  have cY_4_1 : _ = some (Value.slice a2 n2 c2) := Y_4.cell 1
  have cY_4_2 : _ = some (Value.slice b2 m2 d2) := Y_4.cell 2
  have R0_4 := R0_3.next hB_4
  have cR0_4_0 : _ = some (Value.bool false) := R0_4.cell 0
  have fR0_4_0 := R0_4.free 0
  have cR0_4_1 : _ = some (Value.slice none 0 0) := R0_4.cell 1
  have fR0_4_1 := R0_4.free 1
  have cR0_4_2 : _ = some (Value.slice none 0 0) := R0_4.cell 2
  have fR0_4_2 := R0_4.free 2
  have hx_4 := hx_3.below hB_4
  have hy_4 := hy_3.below hB_4
  have hbel_4 := hbel_3.next hB_4
  have hsz_4 := hB_4.size
  clear X_3 cX_3_0 cX_3_1 cX_3_2 Y_3 cY_3_0 cY_3_1 cY_3_2 R0_3 cR0_3_0 fR0_3_0 cR0_3_1 fR0_3_1 cR0_3_2 fR0_3_2 hx_3 hy_3 hbel_3 hB_4
  have Oq_4 := hO
  have ltOq := hO.ltB
  have Pq_4 := hO'
  have ltPq := hO'.ltB
  clear hO hO'
  try clear hB
  go_wp2
  refine bodyPost_ret (v := .tuple #[.agg #[.bool (decide ((0 : Rat).num < 0)), .slice qa qn qc, .slice qb qm qd], .int .i64 0]) (by simp [results, Tryz.results88, go_sem, cR0_4_0, cR0_4_1, cR0_4_2]) rfl ?_
  exact retqe_set (er := 0) Oq_4 Pq_4 hDq hbel_4 (by omega) (by omega)

theorem qsimp {w : World} {a1 b1 : Option Addr} {n1 c1 m1 d1 : Nat} {s : Bool} {x : Rat} {a2 b2 : Option Addr} {n2 c2 m2 d2 : Nat} {t : Bool} {y : Rat} {J : Nat} (hJ1 : 1 ≤ J) (hJ : J ≤ 200000) (hx : RdQ J w s a1 n1 c1 b1 m1 d1 x) (hy : RdQ J w t a2 n2 c2 b2 m2 d2 y) : Calls Tryz.prog 88 #[.agg #[.bool s, .slice a1 n1 c1, .slice b1 m1 d1], .agg #[.bool t, .slice a2 n2 c2, .slice b2 m2 d2]] w (RetQE w (spl x y) (spE x y)) := by
  unfold spE
  by_cases h1 : y < x
  · rw [if_pos h1]; exact qsimpE hJ1 hJ hx hy h1
  · rw [if_neg h1]
    have h1 := Rat.not_lt.1 h1
    by_cases h2 : 0 < x
    · exact qsimpP hJ1 hJ hx hy h1 h2
    · by_cases h3 : y < 0
      · exact qsimpN hJ1 hJ hx hy h1 h2 h3
      · exact qsimpZ hJ1 hJ hx hy h1 h2 h3

end Go.Proofs.YtgddnmmllchndaaGreat
