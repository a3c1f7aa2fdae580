/- WALKS OF FRACTIONS, 21: the simplest between two, of the reference. -/
import Derived.Test.YtgddnmmllchndaaGreatRd
namespace Go.Proofs.YtgddnmmllchndaaGreat
set_option linter.unusedVariables false
set_option linter.unusedSimpArgs false
open Go.ChangeShapes Go.WideShapes Go.ChangeAt Go.RowKit Go.NatP

set_option maxRecDepth 100000 in
set_option maxHeartbeats 40000000 in
theorem rqbtw3 {w : World} {a1 b1 : Option Addr} {n1 c1 m1 d1 : Nat} {s : Bool} {x : Rat} {a2 b2 : Option Addr} {n2 c2 m2 d2 : Nat} {t : Bool} {y : Rat} {J k : Nat} (hJ1 : 1 ≤ J) (hJ : J ≤ 200000) (hin : SmpIn x y) (hx : RdQ J w s a1 n1 c1 b1 m1 d1 x) (hy : RdQ J w t a2 n2 c2 b2 m2 d2 y) (ih : RBtwC J k) (hk : x.den + y.den ≤ k + 1) (h1 : (x.floor : Rat) ≠ x) (h2 : ¬ (x.floor : Rat) + 1 ≤ y) :
    Calls Tryz.prog 137 #[.agg #[.bool s, .slice a1 n1 c1, .slice b1 m1 d1], .agg #[.bool t, .slice a2 n2 c2, .slice b2 m2 d2]] w (RetQ w (smp (k + 1) x y)) := by
  have hqx := hx.qs hJ1
  have hqy := hy.qs hJ1
  have sf : Sz x.floor.natAbs J := (floor_qs hin.pos hJ1 hqx).1
  have hqf := floor_qs hin.pos hJ1 hqx
  have hc := hid (show cmpQ x (x.floor : Rat) = 1 by rw [cmpQ_swap, cmpQ_lt (Rat.lt_of_le_of_ne (Rat.floor_le x) h1)]; rfl)
  rw [smp_succ3 h1 h2]
  have G := smp_go (k := k) hin hJ1 hqx hqy hk h1 h2
  obtain ⟨G1, G2, G3, G4, G5, G6, G7, G8, G9, G10⟩ := G
  have e1 := hid G7
  have e2 := hid (qE_pos G8)
  have e3 := hid (qE_pos G7)
  have e4 := hid (qE_pos G10)
  clear G7 G8 G10 e1 hk
  obtain ⟨c2', hc20⟩ : ∃ c, cmpQ ((x.floor : Rat) + 1) y = c := ⟨_, rfl⟩
  have hc3 : 0 < c2' := by rw [← hc20]; rcases cmpQ_cases ((x.floor : Rat) + 1) y with ⟨h, e⟩ | ⟨h, e⟩ | ⟨h, e⟩ <;> first | (rw [e]; omega) | (exfalso; exact h2 (Rat.le_of_lt h)) | (exfalso; exact h2 (by rw [h]; exact Rat.le_refl)) | (exfalso; exact absurd h2 (Rat.not_le.2 h))
  have hc2 := hid hc20
  clear hc20 h2
  clear hin h1
  have hsf := hid sf
  generalize hfq0 : (x.floor : Rat) = fq at *
  have hfq := hid hfq0
  clear hfq0
  generalize hf0 : x.floor = f at *
  have hf := hid hf0
  clear hf0
  have hqfh := hid hqf
  have qp : QS (fq + 1) (J + 2) := (hqf.add (show QS 1 1 from qs_one)).mono (by omega)
  generalize hp0 : fq + 1 = p at *
  have hp := hid hp0
  clear hp0
  have hqp := hid qp
  clear qp
  generalize hu0 : y - fq = u at *
  have hu := hid hu0
  clear hu0
  generalize hv0 : x - fq = v at *
  have hv := hid hv0
  clear hv0
  generalize hxx0 : 1 / u = xx at *
  have hxx := hid hxx0
  clear hxx0
  generalize hyy0 : 1 / v = yy at *
  have hyy := hid hyy0
  clear hyy0
  generalize hzz0 : smp k xx yy = zz at *
  have hzz := hid hzz0
  clear hzz0
  have qiz := hid (show QS (1 / zz) (J + 1) from by rw [Rat.div_def, Rat.one_mul]; exact (G9.inv hJ1).mono (by omega))
  generalize hiz0 : 1 / zz = iz at *
  have hiz := hid hiz0
  clear hiz0
  have HG1 := hid G1
  clear G1
  have HG2 := hid G2
  clear G2
  have HG3 := hid G3
  clear G3
  have HG4 := hid G4
  clear G4
  have HG5 := hid G5
  clear G5
  have HG6 := hid G6
  clear G6
  have HG9 := hid G9
  clear G9
  clear sf hqf hqx hqy
  have hent := ent3 w #[Value.bool s, Value.slice a1 n1 c1, Value.slice b1 m1 d1] #[Value.bool t, Value.slice a2 n2 c2, Value.slice b2 m2 d2] #[Value.bool false, Value.slice none 0 0, Value.slice none 0 0] 38 38 38
  go_enter Tryz.func137, Tryz.ntmps137
  go_wp2_with fail
  generalize (((w.alloc (.cells #[Value.bool s, Value.slice a1 n1 c1, Value.slice b1 m1 d1] 38)).alloc (.cells #[Value.bool t, Value.slice a2 n2 c2, Value.slice b2 m2 d2] 38)).alloc (.cells #[Value.bool false, Value.slice none 0 0, Value.slice none 0 0] 38)) = W0 at hent ⊢
  obtain ⟨X_0, Y_0, R0_0, hbel_0, hsz_0⟩ := hent
  have cX_0_0 : _ = some (Value.bool s) := X_0.cell 0
  have cX_0_1 : _ = some (Value.slice a1 n1 c1) := X_0.cell 1
  have cX_0_2 : _ = some (Value.slice b1 m1 d1) := X_0.cell 2
  have cY_0_0 : _ = some (Value.bool t) := Y_0.cell 0
  have cY_0_1 : _ = some (Value.slice a2 n2 c2) := Y_0.cell 1
  have cY_0_2 : _ = some (Value.slice b2 m2 d2) := Y_0.cell 2
  have cR0_0_0 : _ = some (Value.bool false) := R0_0.cell 0
  have fR0_0_0 := R0_0.free 0
  have cR0_0_1 : _ = some (Value.slice none 0 0) := R0_0.cell 1
  have fR0_0_1 := R0_0.free 1
  have cR0_0_2 : _ = some (Value.slice none 0 0) := R0_0.cell 2
  have fR0_0_2 := R0_0.free 2
  have hx_0 := hx.below hbel_0
  clear hx
  have hy_0 := hy.below hbel_0
  clear hy
  go_wp2_with fail
  refine (rqfloor hx_0 (by omega)).mono ?_
  rw [hf.out]
  rintro e w1 ⟨fa, fn, fc, rfl, hO, hB⟩
  have hB_1 : Below W0.heap.size W0 w1 := (bl.next hB)
  have X_1 := X_0.next hB_1
  have cX_1_0 : _ = some (Value.bool s) := X_1.cell 0
  have cX_1_1 : _ = some (Value.slice a1 n1 c1) := X_1.cell 1
  have cX_1_2 : _ = some (Value.slice b1 m1 d1) := X_1.cell 2
  have Y_1 := Y_0.next hB_1
  have cY_1_0 : _ = some (Value.bool t) := Y_1.cell 0
  have cY_1_1 : _ = some (Value.slice a2 n2 c2) := Y_1.cell 1
  have cY_1_2 : _ = some (Value.slice b2 m2 d2) := Y_1.cell 2
  have R0_1 := R0_0.next hB_1
  have cR0_1_0 : _ = some (Value.bool false) := R0_1.cell 0
  have fR0_1_0 := R0_1.free 0
  have cR0_1_1 : _ = some (Value.slice none 0 0) := R0_1.cell 1
  have fR0_1_1 := R0_1.free 1
  have cR0_1_2 : _ = some (Value.slice none 0 0) := R0_1.cell 2
  have fR0_1_2 := R0_1.free 2
  have hx_1 := hx_0.below hB_1
  have hy_1 := hy_0.below hB_1
  have hbel_1 := hbel_0.next hB_1
  have hsz_1 := hB_1.size
  clear X_0 cX_0_0 cX_0_1 cX_0_2 Y_0 cY_0_0 cY_0_1 cY_0_2 R0_0 cR0_0_0 fR0_0_0 cR0_0_1 fR0_0_1 cR0_0_2 fR0_0_2 hx_0 hy_0 hbel_0 hB_1
  have ZF_1 := hO.rdZ hsf.out
  clear hO
  try clear hB
  go_wp2_with fail
  refine (rqwholly ZF_1 (by omega)).mono ?_
  rw [hfq.out]
  rintro e w2 ⟨fa, fn, fc, fb, fm, fd, rfl, hO, hO', hDf, hB⟩
  have hB_2 : Below w1.heap.size w1 w2 := (bl.next hB)
  have X_2 := X_1.next hB_2
  have cX_2_0 : _ = some (Value.bool s) := X_2.cell 0
  have cX_2_1 : _ = some (Value.slice a1 n1 c1) := X_2.cell 1
  have cX_2_2 : _ = some (Value.slice b1 m1 d1) := X_2.cell 2
  have Y_2 := Y_1.next hB_2
  have cY_2_0 : _ = some (Value.bool t) := Y_2.cell 0
  have cY_2_1 : _ = some (Value.slice a2 n2 c2) := Y_2.cell 1
  have cY_2_2 : _ = some (Value.slice b2 m2 d2) := Y_2.cell 2
  have R0_2 := R0_1.next hB_2
  have cR0_2_0 : _ = some (Value.bool false) := R0_2.cell 0
  have fR0_2_0 := R0_2.free 0
  have cR0_2_1 : _ = some (Value.slice none 0 0) := R0_2.cell 1
  have fR0_2_1 := R0_2.free 1
  have cR0_2_2 : _ = some (Value.slice none 0 0) := R0_2.cell 2
  have fR0_2_2 := R0_2.free 2
  have hx_2 := hx_1.below hB_2
  have hy_2 := hy_1.below hB_2
  have ZF_2 := ZF_1.below hB_2
  have hbel_2 := hbel_1.next hB_2
  have hsz_2 := hB_2.size
  clear X_1 cX_1_0 cX_1_1 cX_1_2 Y_1 cY_1_0 cY_1_1 cY_1_2 R0_1 cR0_1_0 fR0_1_0 cR0_1_1 fR0_1_1 cR0_1_2 fR0_1_2 hx_1 hy_1 ZF_1 hbel_1 hB_2
  have Of_2 := hO
  have ltOf := hO.ltB
  have Pf_2 := hO'
  have ltPf := hO'.ltB
  clear hO hO'
  try clear hB
  clear ZF_2
  have hbx := blk_new w2 #[Value.bool (decide ((fq).num < 0)), Value.slice fa fn fc, Value.slice fb fm fd] 38
  have hbB := (Below.refl w2.heap.size w2).alloc (Nat.le_refl _) (.cells #[Value.bool (decide ((fq).num < 0)), Value.slice fa fn fc, Value.slice fb fm fd] 38)
  have hltN := hbx.lt
  have hB_3 : Below w2.heap.size w2 (w2.alloc (.cells #[Value.bool (decide ((fq).num < 0)), Value.slice fa fn fc, Value.slice fb fm fd] 38)) := hbB
  have X_3 := X_2.next hB_3
  have cX_3_0 : _ = some (Value.bool s) := X_3.cell 0
  have cX_3_1 : _ = some (Value.slice a1 n1 c1) := X_3.cell 1
  have cX_3_2 : _ = some (Value.slice b1 m1 d1) := X_3.cell 2
  have Y_3 := Y_2.next hB_3
  have cY_3_0 : _ = some (Value.bool t) := Y_3.cell 0
  have cY_3_1 : _ = some (Value.slice a2 n2 c2) := Y_3.cell 1
  have cY_3_2 : _ = some (Value.slice b2 m2 d2) := Y_3.cell 2
  have R0_3 := R0_2.next hB_3
  have cR0_3_0 : _ = some (Value.bool false) := R0_3.cell 0
  have fR0_3_0 := R0_3.free 0
  have cR0_3_1 : _ = some (Value.slice none 0 0) := R0_3.cell 1
  have fR0_3_1 := R0_3.free 1
  have cR0_3_2 : _ = some (Value.slice none 0 0) := R0_3.cell 2
  have fR0_3_2 := R0_3.free 2
  have hx_3 := hx_2.below hB_3
  have hy_3 := hy_2.below hB_3
  have Of_3 := Of_2.below hB_3
  have Pf_3 := Pf_2.below hB_3
  have hbel_3 := hbel_2.next hB_3
  have hsz_3 := hB_3.size
  clear hB_3
  have N_3 := hbx
  clear hbx hbB
  have cN_3_0 : _ = some (Value.bool (decide ((fq).num < 0))) := N_3.cell 0
  have cN_3_1 : _ = some (Value.slice fa fn fc) := N_3.cell 1
  have cN_3_2 : _ = some (Value.slice fb fm fd) := N_3.cell 2
  go_wp2_with fail
  clear X_2 cX_2_0 cX_2_1 cX_2_2 Y_2 cY_2_0 cY_2_1 cY_2_2 R0_2 cR0_2_0 fR0_2_0 cR0_2_1 fR0_2_1 cR0_2_2 fR0_2_2 hx_2 hy_2 Of_2 Pf_2 hbel_2
  generalize (w2.alloc (.cells #[Value.bool (decide ((fq).num < 0)), Value.slice fa fn fc, Value.slice fb fm fd] 38)) = v3 at *
  have QN_3 := Of_3.rdQ Pf_3 hqfh.out
  clear Of_3
  clear Pf_3
  go_wp2_with fail
  refine (rqcmp hx_3 (by omega) QN_3 (by omega)).mono ?_
  rw [hc.out]
  rintro e w4 ⟨rfl, hB⟩
  have hB_4 : Below v3.heap.size v3 w4 := (bl.next hB)
  have X_4 := X_3.next hB_4
  have cX_4_0 : _ = some (Value.bool s) := X_4.cell 0
  have cX_4_1 : _ = some (Value.slice a1 n1 c1) := X_4.cell 1
  have cX_4_2 : _ = some (Value.slice b1 m1 d1) := X_4.cell 2
  have Y_4 := Y_3.next hB_4
  have cY_4_0 : _ = some (Value.bool t) := Y_4.cell 0
  have cY_4_1 : _ = some (Value.slice a2 n2 c2) := Y_4.cell 1
  have cY_4_2 : _ = some (Value.slice b2 m2 d2) := Y_4.cell 2
  have R0_4 := R0_3.next hB_4
  have cR0_4_0 : _ = some (Value.bool false) := R0_4.cell 0
  have fR0_4_0 := R0_4.free 0
  have cR0_4_1 : _ = some (Value.slice none 0 0) := R0_4.cell 1
  have fR0_4_1 := R0_4.free 1
  have cR0_4_2 : _ = some (Value.slice none 0 0) := R0_4.cell 2
  have fR0_4_2 := R0_4.free 2
  have N_4 := N_3.next hB_4
  have cN_4_0 : _ = some (Value.bool (decide ((fq).num < 0))) := N_4.cell 0
  have cN_4_1 : _ = some (Value.slice fa fn fc) := N_4.cell 1
  have cN_4_2 : _ = some (Value.slice fb fm fd) := N_4.cell 2
  have hx_4 := hx_3.below hB_4
  have hy_4 := hy_3.below hB_4
  have QN_4 := QN_3.below hB_4
  have hbel_4 := hbel_3.next hB_4
  have hsz_4 := hB_4.size
  clear X_3 cX_3_0 cX_3_1 cX_3_2 Y_3 cY_3_0 cY_3_1 cY_3_2 R0_3 cR0_3_0 fR0_3_0 cR0_3_1 fR0_3_1 cR0_3_2 fR0_3_2 N_3 cN_3_0 cN_3_1 cN_3_2 hx_3 hy_3 QN_3 hbel_3 hB_4
  try clear hB
  go_wp2_with fail
  go_cut [6] (fun s6 wx => BoxD w4 (p) s6 wx)
  case first =>
    have acc_4 : Below w4.heap.size w4 w4 := Below.refl _ _
    go_wp2_with fail
    go_region_held3 (fun w' => w'.cell? ⟨w.heap.size, 0, none⟩ = some (Value.bool s) ∧ w'.cell? ⟨w.heap.size, 1, none⟩ = some (Value.slice a1 n1 c1) ∧ w'.cell? ⟨w.heap.size, 2, none⟩ = some (Value.slice b1 m1 d1) ∧ w'.cell? ⟨w.heap.size + 1, 0, none⟩ = some (Value.bool t) ∧ w'.cell? ⟨w.heap.size + 1, 1, none⟩ = some (Value.slice a2 n2 c2) ∧ w'.cell? ⟨w.heap.size + 1, 2, none⟩ = some (Value.slice b2 m2 d2) ∧ w'.cell? ⟨w2.heap.size, 0, none⟩ = some (Value.bool (decide ((fq).num < 0))) ∧ w'.cell? ⟨w2.heap.size, 1, none⟩ = some (Value.slice fa fn fc) ∧ w'.cell? ⟨w2.heap.size, 2, none⟩ = some (Value.slice fb fm fd))
      (first | exact ⟨cX_4_0, cX_4_1, cX_4_2, cY_4_0, cY_4_1, cY_4_2, cN_4_0, cN_4_1, cN_4_2⟩ | exact ⟨cX_5_0, cX_5_1, cX_5_2, cY_5_0, cY_5_1, cY_5_2, cN_5_0, cN_5_1, cN_5_2⟩ | exact ⟨cX_6_0, cX_6_1, cX_6_2, cY_6_0, cY_6_1, cY_6_2, cN_6_0, cN_6_1, cN_6_2⟩ | exact ⟨(cell_set3 (by omega) _ _ _).trans (cX_6_0), (cell_set3 (by omega) _ _ _).trans (cX_6_1), (cell_set3 (by omega) _ _ _).trans (cX_6_2), (cell_set3 (by omega) _ _ _).trans (cY_6_0), (cell_set3 (by omega) _ _ _).trans (cY_6_1), (cell_set3 (by omega) _ _ _).trans (cY_6_2), (cell_set3 (by omega) _ _ _).trans (cN_6_0), (cell_set3 (by omega) _ _ _).trans (cN_6_1), (cell_set3 (by omega) _ _ _).trans (cN_6_2)⟩ | exact ⟨(X_4.alloc _).cell 0, (X_4.alloc _).cell 1, (X_4.alloc _).cell 2, (Y_4.alloc _).cell 0, (Y_4.alloc _).cell 1, (Y_4.alloc _).cell 2, (N_4.alloc _).cell 0, (N_4.alloc _).cell 1, (N_4.alloc _).cell 2⟩ | exact ⟨(X_5.alloc _).cell 0, (X_5.alloc _).cell 1, (X_5.alloc _).cell 2, (Y_5.alloc _).cell 0, (Y_5.alloc _).cell 1, (Y_5.alloc _).cell 2, (N_5.alloc _).cell 0, (N_5.alloc _).cell 1, (N_5.alloc _).cell 2⟩ | exact ⟨(X_6.alloc _).cell 0, (X_6.alloc _).cell 1, (X_6.alloc _).cell 2, (Y_6.alloc _).cell 0, (Y_6.alloc _).cell 1, (Y_6.alloc _).cell 2, (N_6.alloc _).cell 0, (N_6.alloc _).cell 1, (N_6.alloc _).cell 2⟩ | go_keep)
      (first
        | (go_at_call 93; ((with_reducible refine (rqs1r).mono ?_); (rintro e w5 ⟨oa, on, oc, ob, om, od, rfl, hQO, hB⟩; have hB_5 : Below w4.heap.size w4 w5 := (bl.next hB); have X_5 := X_4.next hB_5; have cX_5_0 : _ = some (Value.bool s) := X_5.cell 0; have cX_5_1 : _ = some (Value.slice a1 n1 c1) := X_5.cell 1; have cX_5_2 : _ = some (Value.slice b1 m1 d1) := X_5.cell 2; have Y_5 := Y_4.next hB_5; have cY_5_0 : _ = some (Value.bool t) := Y_5.cell 0; have cY_5_1 : _ = some (Value.slice a2 n2 c2) := Y_5.cell 1; have cY_5_2 : _ = some (Value.slice b2 m2 d2) := Y_5.cell 2; have R0_5 := R0_4.next hB_5; have cR0_5_0 : _ = some (Value.bool false) := R0_5.cell 0; have fR0_5_0 := R0_5.free 0; have cR0_5_1 : _ = some (Value.slice none 0 0) := R0_5.cell 1; have fR0_5_1 := R0_5.free 1; have cR0_5_2 : _ = some (Value.slice none 0 0) := R0_5.cell 2; have fR0_5_2 := R0_5.free 2; have N_5 := N_4.next hB_5; have cN_5_0 : _ = some (Value.bool (decide ((fq).num < 0))) := N_5.cell 0; have cN_5_1 : _ = some (Value.slice fa fn fc) := N_5.cell 1; have cN_5_2 : _ = some (Value.slice fb fm fd) := N_5.cell 2; have hx_5 := hx_4.below hB_5; have hy_5 := hy_4.below hB_5; have QN_5 := QN_4.below hB_5; have hbel_5 := hbel_4.next hB_5; have hsz_5 := hB_5.size; clear X_4 cX_4_0 cX_4_1 cX_4_2 Y_4 cY_4_0 cY_4_1 cY_4_2 R0_4 cR0_4_0 fR0_4_0 cR0_4_1 fR0_4_1 cR0_4_2 fR0_4_2 N_4 cN_4_0 cN_4_1 cN_4_2 hx_4 hy_4 QN_4 hbel_4 hB_5; have acc_5 := acc_4.next (show Below _ _ _ from (bl.next hB)); (first | (have A := A.next (show Below _ _ _ from (bl.next hB)); have ltA := A.lt; have cA0 : _ = some (Value.bool false) := A.cell 0; have fA0 := A.free 0; have cA1 : _ = some (Value.slice none 0 0) := A.cell 1; have fA1 := A.free 1; have cA2 : _ = some (Value.slice none 0 0) := A.cell 2; have fA2 := A.free 2) | (have A := (blk_new' _ #[Value.bool false, Value.slice none 0 0, Value.slice none 0 0] 38 (g := w4.heap.size) rfl).next (by first | exact hB | exact below_drew hB); have ltA := A.lt; have cA0 : _ = some (Value.bool false) := A.cell 0; have fA0 := A.free 0; have cA1 : _ = some (Value.slice none 0 0) := A.cell 1; have fA1 := A.free 1; have cA2 : _ = some (Value.slice none 0 0) := A.cell 2; have fA2 := A.free 2) | skip); have QO_5 := hQO; clear hQO; try clear hB)))
        | (go_at_call 37; ((with_reducible refine (rqadd (QN_5.below bl) (by omega) (QO_5.below bl) (by omega)).mono ?_); (rw [hp.out]; rintro e w6 ⟨qa, qn, qc, qb, qm, qd, rfl, hO, hO', hD, hB⟩; have hB_6 : Below w5.heap.size w5 w6 := (bl.next hB); have X_6 := X_5.next hB_6; have cX_6_0 : _ = some (Value.bool s) := X_6.cell 0; have cX_6_1 : _ = some (Value.slice a1 n1 c1) := X_6.cell 1; have cX_6_2 : _ = some (Value.slice b1 m1 d1) := X_6.cell 2; have Y_6 := Y_5.next hB_6; have cY_6_0 : _ = some (Value.bool t) := Y_6.cell 0; have cY_6_1 : _ = some (Value.slice a2 n2 c2) := Y_6.cell 1; have cY_6_2 : _ = some (Value.slice b2 m2 d2) := Y_6.cell 2; have R0_6 := R0_5.next hB_6; have cR0_6_0 : _ = some (Value.bool false) := R0_6.cell 0; have fR0_6_0 := R0_6.free 0; have cR0_6_1 : _ = some (Value.slice none 0 0) := R0_6.cell 1; have fR0_6_1 := R0_6.free 1; have cR0_6_2 : _ = some (Value.slice none 0 0) := R0_6.cell 2; have fR0_6_2 := R0_6.free 2; have N_6 := N_5.next hB_6; have cN_6_0 : _ = some (Value.bool (decide ((fq).num < 0))) := N_6.cell 0; have cN_6_1 : _ = some (Value.slice fa fn fc) := N_6.cell 1; have cN_6_2 : _ = some (Value.slice fb fm fd) := N_6.cell 2; have hx_6 := hx_5.below hB_6; have hy_6 := hy_5.below hB_6; have QN_6 := QN_5.below hB_6; have QO_6 := QO_5.below hB_6; have hbel_6 := hbel_5.next hB_6; have hsz_6 := hB_6.size; clear X_5 cX_5_0 cX_5_1 cX_5_2 Y_5 cY_5_0 cY_5_1 cY_5_2 R0_5 cR0_5_0 fR0_5_0 cR0_5_1 fR0_5_1 cR0_5_2 fR0_5_2 N_5 cN_5_0 cN_5_1 cN_5_2 hx_5 hy_5 QN_5 QO_5 hbel_5 hB_6; have acc_6 := acc_5.next (show Below _ _ _ from (bl.next hB)); (first | (have A := A.next (show Below _ _ _ from (bl.next hB)); have ltA := A.lt; have cA0 : _ = some (Value.bool false) := A.cell 0; have fA0 := A.free 0; have cA1 : _ = some (Value.slice none 0 0) := A.cell 1; have fA1 := A.free 1; have cA2 : _ = some (Value.slice none 0 0) := A.cell 2; have fA2 := A.free 2) | (have A := (blk_new' _ #[Value.bool false, Value.slice none 0 0, Value.slice none 0 0] 38 (g := w5.heap.size) rfl).next (by first | exact hB | exact below_drew hB); have ltA := A.lt; have cA0 : _ = some (Value.bool false) := A.cell 0; have fA0 := A.free 0; have cA1 : _ = some (Value.slice none 0 0) := A.cell 1; have fA1 := A.free 1; have cA2 : _ = some (Value.slice none 0 0) := A.cell 2; have fA2 := A.free 2) | skip); try clear hB))))
    all_goals (go_wp2_with fail; go_meet; first | exact boxD_new hO hO' hD (by first | omega | (simp; omega) | simp) acc_6 | exact boxD_set A hO hO' hD (by first | omega | (simp; omega) | simp) (by first | omega | (simp; omega) | simp) acc_6)
  case rest =>
    obtain ⟨gP, Pa, Pn, Pc, Pb, Pm, Pd, rfl, hbk, hgeP, hO, hO', awP, awP', hBc, hdP⟩ := hcut
    have hB_5 : Below w4.heap.size w4 wc := hBc
    have X_5 := X_4.next hB_5
    have cX_5_0 : _ = some (Value.bool s) := X_5.cell 0
    have cX_5_1 : _ = some (Value.slice a1 n1 c1) := X_5.cell 1
    have cX_5_2 : _ = some (Value.slice b1 m1 d1) := X_5.cell 2
    have Y_5 := Y_4.next hB_5
    have cY_5_0 : _ = some (Value.bool t) := Y_5.cell 0
    have cY_5_1 : _ = some (Value.slice a2 n2 c2) := Y_5.cell 1
    have cY_5_2 : _ = some (Value.slice b2 m2 d2) := Y_5.cell 2
    have R0_5 := R0_4.next hB_5
    have cR0_5_0 : _ = some (Value.bool false) := R0_5.cell 0
    have fR0_5_0 := R0_5.free 0
    have cR0_5_1 : _ = some (Value.slice none 0 0) := R0_5.cell 1
    have fR0_5_1 := R0_5.free 1
    have cR0_5_2 : _ = some (Value.slice none 0 0) := R0_5.cell 2
    have fR0_5_2 := R0_5.free 2
    have N_5 := N_4.next hB_5
    have cN_5_0 : _ = some (Value.bool (decide ((fq).num < 0))) := N_5.cell 0
    have cN_5_1 : _ = some (Value.slice fa fn fc) := N_5.cell 1
    have cN_5_2 : _ = some (Value.slice fb fm fd) := N_5.cell 2
    have hx_5 := hx_4.below hB_5
    have hy_5 := hy_4.below hB_5
    have QN_5 := QN_4.below hB_5
    have hbel_5 := hbel_4.next hB_5
    have hsz_5 := hB_5.size
    clear X_4 cX_4_0 cX_4_1 cX_4_2 Y_4 cY_4_0 cY_4_1 cY_4_2 R0_4 cR0_4_0 fR0_4_0 cR0_4_1 fR0_4_1 cR0_4_2 fR0_4_2 N_4 cN_4_0 cN_4_1 cN_4_2 hx_4 hy_4 QN_4 hbel_4 hB_5
    clear hBc
    obtain ⟨wc5, hwc⟩ : ∃ x : World, x = wc := ⟨_, rfl⟩
    subst hwc
    have P_5 := hbk
    have hltP := hbk.lt
    clear hbk
    have cP_5_0 : _ = some (Value.bool (decide ((p).num < 0))) := P_5.cell 0
    have cP_5_1 : _ = some (Value.slice Pa Pn Pc) := P_5.cell 1
    have cP_5_2 : _ = some (Value.slice Pb Pm Pd) := P_5.cell 2
    have OP_5 := hO
    have ltOP := hO.ltB
    clear hO
    have OP'_5 := hO'
    have ltOP' := hO'.ltB
    clear hO'
    have QP_5 := OP_5.rdQ OP'_5 hqp.out
    clear OP_5
    clear OP'_5
    go_wp2_with fail
    refine (rqcmp QP_5 (by omega) hy_5 (by omega)).mono ?_
    rw [hc2.out]
    rintro e w6 ⟨rfl, hB⟩
    have hB_6 : Below wc5.heap.size wc5 w6 := (bl.next hB)
    have X_6 := X_5.next hB_6
    have cX_6_0 : _ = some (Value.bool s) := X_6.cell 0
    have cX_6_1 : _ = some (Value.slice a1 n1 c1) := X_6.cell 1
    have cX_6_2 : _ = some (Value.slice b1 m1 d1) := X_6.cell 2
    have Y_6 := Y_5.next hB_6
    have cY_6_0 : _ = some (Value.bool t) := Y_6.cell 0
    have cY_6_1 : _ = some (Value.slice a2 n2 c2) := Y_6.cell 1
    have cY_6_2 : _ = some (Value.slice b2 m2 d2) := Y_6.cell 2
    have R0_6 := R0_5.next hB_6
    have cR0_6_0 : _ = some (Value.bool false) := R0_6.cell 0
    have fR0_6_0 := R0_6.free 0
    have cR0_6_1 : _ = some (Value.slice none 0 0) := R0_6.cell 1
    have fR0_6_1 := R0_6.free 1
    have cR0_6_2 : _ = some (Value.slice none 0 0) := R0_6.cell 2
    have fR0_6_2 := R0_6.free 2
    have N_6 := N_5.next hB_6
    have cN_6_0 : _ = some (Value.bool (decide ((fq).num < 0))) := N_6.cell 0
    have cN_6_1 : _ = some (Value.slice fa fn fc) := N_6.cell 1
    have cN_6_2 : _ = some (Value.slice fb fm fd) := N_6.cell 2
    have P_6 := P_5.next hB_6
    have cP_6_0 : _ = some (Value.bool (decide ((p).num < 0))) := P_6.cell 0
    have cP_6_1 : _ = some (Value.slice Pa Pn Pc) := P_6.cell 1
    have cP_6_2 : _ = some (Value.slice Pb Pm Pd) := P_6.cell 2
    have hx_6 := hx_5.below hB_6
    have hy_6 := hy_5.below hB_6
    have QN_6 := QN_5.below hB_6
    have QP_6 := QP_5.below hB_6
    have hbel_6 := hbel_5.next hB_6
    have hsz_6 := hB_6.size
    clear X_5 cX_5_0 cX_5_1 cX_5_2 Y_5 cY_5_0 cY_5_1 cY_5_2 R0_5 cR0_5_0 fR0_5_0 cR0_5_1 fR0_5_1 cR0_5_2 fR0_5_2 N_5 cN_5_0 cN_5_1 cN_5_2 P_5 cP_5_0 cP_5_1 cP_5_2 hx_5 hy_5 QN_5 QP_5 hbel_5 hB_6
    try clear hB
    go_wp2_with fail
    go_cut [7] (fun s7 wx => BoxQ w6 (xx) s7 wx)
    case first =>
      have acc_6 : Below w6.heap.size w6 w6 := Below.refl _ _
      go_wp2_with fail
      go_region_held3 (fun w' => w'.cell? ⟨w.heap.size, 0, none⟩ = some (Value.bool s) ∧ w'.cell? ⟨w.heap.size, 1, none⟩ = some (Value.slice a1 n1 c1) ∧ w'.cell? ⟨w.heap.size, 2, none⟩ = some (Value.slice b1 m1 d1) ∧ w'.cell? ⟨w.heap.size + 1, 0, none⟩ = some (Value.bool t) ∧ w'.cell? ⟨w.heap.size + 1, 1, none⟩ = some (Value.slice a2 n2 c2) ∧ w'.cell? ⟨w.heap.size + 1, 2, none⟩ = some (Value.slice b2 m2 d2) ∧ w'.cell? ⟨w2.heap.size, 0, none⟩ = some (Value.bool (decide ((fq).num < 0))) ∧ w'.cell? ⟨w2.heap.size, 1, none⟩ = some (Value.slice fa fn fc) ∧ w'.cell? ⟨w2.heap.size, 2, none⟩ = some (Value.slice fb fm fd) ∧ w'.cell? ⟨gP, 0, none⟩ = some (Value.bool (decide ((p).num < 0))) ∧ w'.cell? ⟨gP, 1, none⟩ = some (Value.slice Pa Pn Pc) ∧ w'.cell? ⟨gP, 2, none⟩ = some (Value.slice Pb Pm Pd))
        (first | exact ⟨cX_6_0, cX_6_1, cX_6_2, cY_6_0, cY_6_1, cY_6_2, cN_6_0, cN_6_1, cN_6_2, cP_6_0, cP_6_1, cP_6_2⟩ | exact ⟨cX_7_0, cX_7_1, cX_7_2, cY_7_0, cY_7_1, cY_7_2, cN_7_0, cN_7_1, cN_7_2, cP_7_0, cP_7_1, cP_7_2⟩ | exact ⟨cX_8_0, cX_8_1, cX_8_2, cY_8_0, cY_8_1, cY_8_2, cN_8_0, cN_8_1, cN_8_2, cP_8_0, cP_8_1, cP_8_2⟩ | exact ⟨cX_9_0, cX_9_1, cX_9_2, cY_9_0, cY_9_1, cY_9_2, cN_9_0, cN_9_1, cN_9_2, cP_9_0, cP_9_1, cP_9_2⟩ | exact ⟨(cell_set3 (by omega) _ _ _).trans (cX_9_0), (cell_set3 (by omega) _ _ _).trans (cX_9_1), (cell_set3 (by omega) _ _ _).trans (cX_9_2), (cell_set3 (by omega) _ _ _).trans (cY_9_0), (cell_set3 (by omega) _ _ _).trans (cY_9_1), (cell_set3 (by omega) _ _ _).trans (cY_9_2), (cell_set3 (by omega) _ _ _).trans (cN_9_0), (cell_set3 (by omega) _ _ _).trans (cN_9_1), (cell_set3 (by omega) _ _ _).trans (cN_9_2), (cell_set3 (by omega) _ _ _).trans (cP_9_0), (cell_set3 (by omega) _ _ _).trans (cP_9_1), (cell_set3 (by omega) _ _ _).trans (cP_9_2)⟩ | exact ⟨(X_6.alloc _).cell 0, (X_6.alloc _).cell 1, (X_6.alloc _).cell 2, (Y_6.alloc _).cell 0, (Y_6.alloc _).cell 1, (Y_6.alloc _).cell 2, (N_6.alloc _).cell 0, (N_6.alloc _).cell 1, (N_6.alloc _).cell 2, (P_6.alloc _).cell 0, (P_6.alloc _).cell 1, (P_6.alloc _).cell 2⟩ | exact ⟨(X_7.alloc _).cell 0, (X_7.alloc _).cell 1, (X_7.alloc _).cell 2, (Y_7.alloc _).cell 0, (Y_7.alloc _).cell 1, (Y_7.alloc _).cell 2, (N_7.alloc _).cell 0, (N_7.alloc _).cell 1, (N_7.alloc _).cell 2, (P_7.alloc _).cell 0, (P_7.alloc _).cell 1, (P_7.alloc _).cell 2⟩ | exact ⟨(X_8.alloc _).cell 0, (X_8.alloc _).cell 1, (X_8.alloc _).cell 2, (Y_8.alloc _).cell 0, (Y_8.alloc _).cell 1, (Y_8.alloc _).cell 2, (N_8.alloc _).cell 0, (N_8.alloc _).cell 1, (N_8.alloc _).cell 2, (P_8.alloc _).cell 0, (P_8.alloc _).cell 1, (P_8.alloc _).cell 2⟩ | exact ⟨(X_9.alloc _).cell 0, (X_9.alloc _).cell 1, (X_9.alloc _).cell 2, (Y_9.alloc _).cell 0, (Y_9.alloc _).cell 1, (Y_9.alloc _).cell 2, (N_9.alloc _).cell 0, (N_9.alloc _).cell 1, (N_9.alloc _).cell 2, (P_9.alloc _).cell 0, (P_9.alloc _).cell 1, (P_9.alloc _).cell 2⟩ | go_keep)
        (first
          | (go_at_call 93; ((with_reducible refine (rqs1r).mono ?_); (rintro e w7 ⟨oa, on, oc, ob, om, od, rfl, hQO, hB⟩; have hB_7 : Below w6.heap.size w6 w7 := (bl.next hB); have X_7 := X_6.next hB_7; have cX_7_0 : _ = some (Value.bool s) := X_7.cell 0; have cX_7_1 : _ = some (Value.slice a1 n1 c1) := X_7.cell 1; have cX_7_2 : _ = some (Value.slice b1 m1 d1) := X_7.cell 2; have Y_7 := Y_6.next hB_7; have cY_7_0 : _ = some (Value.bool t) := Y_7.cell 0; have cY_7_1 : _ = some (Value.slice a2 n2 c2) := Y_7.cell 1; have cY_7_2 : _ = some (Value.slice b2 m2 d2) := Y_7.cell 2; have R0_7 := R0_6.next hB_7; have cR0_7_0 : _ = some (Value.bool false) := R0_7.cell 0; have fR0_7_0 := R0_7.free 0; have cR0_7_1 : _ = some (Value.slice none 0 0) := R0_7.cell 1; have fR0_7_1 := R0_7.free 1; have cR0_7_2 : _ = some (Value.slice none 0 0) := R0_7.cell 2; have fR0_7_2 := R0_7.free 2; have N_7 := N_6.next hB_7; have cN_7_0 : _ = some (Value.bool (decide ((fq).num < 0))) := N_7.cell 0; have cN_7_1 : _ = some (Value.slice fa fn fc) := N_7.cell 1; have cN_7_2 : _ = some (Value.slice fb fm fd) := N_7.cell 2; have P_7 := P_6.next hB_7; have cP_7_0 : _ = some (Value.bool (decide ((p).num < 0))) := P_7.cell 0; have cP_7_1 : _ = some (Value.slice Pa Pn Pc) := P_7.cell 1; have cP_7_2 : _ = some (Value.slice Pb Pm Pd) := P_7.cell 2; have hx_7 := hx_6.below hB_7; have hy_7 := hy_6.below hB_7; have QN_7 := QN_6.below hB_7; have QP_7 := QP_6.below hB_7; have hbel_7 := hbel_6.next hB_7; have hsz_7 := hB_7.size; clear X_6 cX_6_0 cX_6_1 cX_6_2 Y_6 cY_6_0 cY_6_1 cY_6_2 R0_6 cR0_6_0 fR0_6_0 cR0_6_1 fR0_6_1 cR0_6_2 fR0_6_2 N_6 cN_6_0 cN_6_1 cN_6_2 P_6 cP_6_0 cP_6_1 cP_6_2 hx_6 hy_6 QN_6 QP_6 hbel_6 hB_7; have acc_7 := acc_6.next (show Below _ _ _ from (bl.next hB)); (first | (have A := A.next (show Below _ _ _ from (bl.next hB)); have ltA := A.lt; have cA0 : _ = some (Value.bool false) := A.cell 0; have fA0 := A.free 0; have cA1 : _ = some (Value.slice none 0 0) := A.cell 1; have fA1 := A.free 1; have cA2 : _ = some (Value.slice none 0 0) := A.cell 2; have fA2 := A.free 2) | (have A := (blk_new' _ #[Value.bool false, Value.slice none 0 0, Value.slice none 0 0] 38 (g := w6.heap.size) rfl).next (by first | exact hB | exact below_drew hB); have ltA := A.lt; have cA0 : _ = some (Value.bool false) := A.cell 0; have fA0 := A.free 0; have cA1 : _ = some (Value.slice none 0 0) := A.cell 1; have fA1 := A.free 1; have cA2 : _ = some (Value.slice none 0 0) := A.cell 2; have fA2 := A.free 2) | skip); have QO_7 := hQO; clear hQO; try clear hB)))
          | (go_at_call 126; ((with_reducible refine (rqsub (hy_7.below bl) (by omega) (QN_7.below bl) (by omega)).mono ?_); (rw [hu.out]; rintro e w8 ⟨ua, un, uc, ub, um, ud, rfl, hO, hO', hDu, hB⟩; have hB_8 : Below w7.heap.size w7 w8 := (bl.next hB); have X_8 := X_7.next hB_8; have cX_8_0 : _ = some (Value.bool s) := X_8.cell 0; have cX_8_1 : _ = some (Value.slice a1 n1 c1) := X_8.cell 1; have cX_8_2 : _ = some (Value.slice b1 m1 d1) := X_8.cell 2; have Y_8 := Y_7.next hB_8; have cY_8_0 : _ = some (Value.bool t) := Y_8.cell 0; have cY_8_1 : _ = some (Value.slice a2 n2 c2) := Y_8.cell 1; have cY_8_2 : _ = some (Value.slice b2 m2 d2) := Y_8.cell 2; have R0_8 := R0_7.next hB_8; have cR0_8_0 : _ = some (Value.bool false) := R0_8.cell 0; have fR0_8_0 := R0_8.free 0; have cR0_8_1 : _ = some (Value.slice none 0 0) := R0_8.cell 1; have fR0_8_1 := R0_8.free 1; have cR0_8_2 : _ = some (Value.slice none 0 0) := R0_8.cell 2; have fR0_8_2 := R0_8.free 2; have N_8 := N_7.next hB_8; have cN_8_0 : _ = some (Value.bool (decide ((fq).num < 0))) := N_8.cell 0; have cN_8_1 : _ = some (Value.slice fa fn fc) := N_8.cell 1; have cN_8_2 : _ = some (Value.slice fb fm fd) := N_8.cell 2; have P_8 := P_7.next hB_8; have cP_8_0 : _ = some (Value.bool (decide ((p).num < 0))) := P_8.cell 0; have cP_8_1 : _ = some (Value.slice Pa Pn Pc) := P_8.cell 1; have cP_8_2 : _ = some (Value.slice Pb Pm Pd) := P_8.cell 2; have hx_8 := hx_7.below hB_8; have hy_8 := hy_7.below hB_8; have QN_8 := QN_7.below hB_8; have QP_8 := QP_7.below hB_8; have QO_8 := QO_7.below hB_8; have hbel_8 := hbel_7.next hB_8; have hsz_8 := hB_8.size; clear X_7 cX_7_0 cX_7_1 cX_7_2 Y_7 cY_7_0 cY_7_1 cY_7_2 R0_7 cR0_7_0 fR0_7_0 cR0_7_1 fR0_7_1 cR0_7_2 fR0_7_2 N_7 cN_7_0 cN_7_1 cN_7_2 P_7 cP_7_0 cP_7_1 cP_7_2 hx_7 hy_7 QN_7 QP_7 QO_7 hbel_7 hB_8; have acc_8 := acc_7.next (show Below _ _ _ from (bl.next hB)); (first | (have A := A.next (show Below _ _ _ from (bl.next hB)); have ltA := A.lt; have cA0 : _ = some (Value.bool false) := A.cell 0; have fA0 := A.free 0; have cA1 : _ = some (Value.slice none 0 0) := A.cell 1; have fA1 := A.free 1; have cA2 : _ = some (Value.slice none 0 0) := A.cell 2; have fA2 := A.free 2) | (have A := (blk_new' _ #[Value.bool false, Value.slice none 0 0, Value.slice none 0 0] 38 (g := w7.heap.size) rfl).next (by first | exact hB | exact below_drew hB); have ltA := A.lt; have cA0 : _ = some (Value.bool false) := A.cell 0; have fA0 := A.free 0; have cA1 : _ = some (Value.slice none 0 0) := A.cell 1; have fA1 := A.free 1; have cA2 : _ = some (Value.slice none 0 0) := A.cell 2; have fA2 := A.free 2) | skip); have QU_8 := hO.rdQ hO' HG2.out; clear hO hO'; try clear hB)))
          | (go_at_call 122; ((with_reducible refine (rqdiv (QO_8.below bl) (by omega) (QU_8.below bl) (by omega)).mono ?_); (rw [hxx.out, rretqe_k _ e2.out]; rintro e w9 ⟨qa, qn, qc, qb, qm, qd, rfl, hO, hO', hDq, hB⟩; have hB_9 : Below w8.heap.size w8 w9 := (bl.next hB); have X_9 := X_8.next hB_9; have cX_9_0 : _ = some (Value.bool s) := X_9.cell 0; have cX_9_1 : _ = some (Value.slice a1 n1 c1) := X_9.cell 1; have cX_9_2 : _ = some (Value.slice b1 m1 d1) := X_9.cell 2; have Y_9 := Y_8.next hB_9; have cY_9_0 : _ = some (Value.bool t) := Y_9.cell 0; have cY_9_1 : _ = some (Value.slice a2 n2 c2) := Y_9.cell 1; have cY_9_2 : _ = some (Value.slice b2 m2 d2) := Y_9.cell 2; have R0_9 := R0_8.next hB_9; have cR0_9_0 : _ = some (Value.bool false) := R0_9.cell 0; have fR0_9_0 := R0_9.free 0; have cR0_9_1 : _ = some (Value.slice none 0 0) := R0_9.cell 1; have fR0_9_1 := R0_9.free 1; have cR0_9_2 : _ = some (Value.slice none 0 0) := R0_9.cell 2; have fR0_9_2 := R0_9.free 2; have N_9 := N_8.next hB_9; have cN_9_0 : _ = some (Value.bool (decide ((fq).num < 0))) := N_9.cell 0; have cN_9_1 : _ = some (Value.slice fa fn fc) := N_9.cell 1; have cN_9_2 : _ = some (Value.slice fb fm fd) := N_9.cell 2; have P_9 := P_8.next hB_9; have cP_9_0 : _ = some (Value.bool (decide ((p).num < 0))) := P_9.cell 0; have cP_9_1 : _ = some (Value.slice Pa Pn Pc) := P_9.cell 1; have cP_9_2 : _ = some (Value.slice Pb Pm Pd) := P_9.cell 2; have hx_9 := hx_8.below hB_9; have hy_9 := hy_8.below hB_9; have QN_9 := QN_8.below hB_9; have QP_9 := QP_8.below hB_9; have QO_9 := QO_8.below hB_9; have QU_9 := QU_8.below hB_9; have hbel_9 := hbel_8.next hB_9; have hsz_9 := hB_9.size; clear X_8 cX_8_0 cX_8_1 cX_8_2 Y_8 cY_8_0 cY_8_1 cY_8_2 R0_8 cR0_8_0 fR0_8_0 cR0_8_1 fR0_8_1 cR0_8_2 fR0_8_2 N_8 cN_8_0 cN_8_1 cN_8_2 P_8 cP_8_0 cP_8_1 cP_8_2 hx_8 hy_8 QN_8 QP_8 QO_8 QU_8 hbel_8 hB_9; have acc_9 := acc_8.next (show Below _ _ _ from (bl.next hB)); (first | (have A := A.next (show Below _ _ _ from (bl.next hB)); have ltA := A.lt; have cA0 : _ = some (Value.bool false) := A.cell 0; have fA0 := A.free 0; have cA1 : _ = some (Value.slice none 0 0) := A.cell 1; have fA1 := A.free 1; have cA2 : _ = some (Value.slice none 0 0) := A.cell 2; have fA2 := A.free 2) | (have A := (blk_new' _ #[Value.bool false, Value.slice none 0 0, Value.slice none 0 0] 38 (g := w8.heap.size) rfl).next (by first | exact hB | exact below_drew hB); have ltA := A.lt; have cA0 : _ = some (Value.bool false) := A.cell 0; have fA0 := A.free 0; have cA1 : _ = some (Value.slice none 0 0) := A.cell 1; have fA1 := A.free 1; have cA2 : _ = some (Value.slice none 0 0) := A.cell 2; have fA2 := A.free 2) | skip); try clear hB))))
      all_goals (go_wp2_with fail; go_meet; first | exact boxQ_new hO hO' (by first | omega | (simp; omega) | simp) acc_9 | exact boxQ_set A hO hO' (by first | omega | (simp; omega) | simp) (by first | omega | (simp; omega) | simp) acc_9)
    case rest =>
      obtain ⟨gA, Aa, An, Ac, Ab, Am, Ad, rfl, hbk, hgeA, hO, hO', awA, awA', hBc⟩ := hcut
      have hB_7 : Below w6.heap.size w6 wc := hBc
      have X_7 := X_6.next hB_7
      have cX_7_0 : _ = some (Value.bool s) := X_7.cell 0
      have cX_7_1 : _ = some (Value.slice a1 n1 c1) := X_7.cell 1
      have cX_7_2 : _ = some (Value.slice b1 m1 d1) := X_7.cell 2
      have Y_7 := Y_6.next hB_7
      have cY_7_0 : _ = some (Value.bool t) := Y_7.cell 0
      have cY_7_1 : _ = some (Value.slice a2 n2 c2) := Y_7.cell 1
      have cY_7_2 : _ = some (Value.slice b2 m2 d2) := Y_7.cell 2
      have R0_7 := R0_6.next hB_7
      have cR0_7_0 : _ = some (Value.bool false) := R0_7.cell 0
      have fR0_7_0 := R0_7.free 0
      have cR0_7_1 : _ = some (Value.slice none 0 0) := R0_7.cell 1
      have fR0_7_1 := R0_7.free 1
      have cR0_7_2 : _ = some (Value.slice none 0 0) := R0_7.cell 2
      have fR0_7_2 := R0_7.free 2
      have N_7 := N_6.next hB_7
      have cN_7_0 : _ = some (Value.bool (decide ((fq).num < 0))) := N_7.cell 0
      have cN_7_1 : _ = some (Value.slice fa fn fc) := N_7.cell 1
      have cN_7_2 : _ = some (Value.slice fb fm fd) := N_7.cell 2
      have P_7 := P_6.next hB_7
      have cP_7_0 : _ = some (Value.bool (decide ((p).num < 0))) := P_7.cell 0
      have cP_7_1 : _ = some (Value.slice Pa Pn Pc) := P_7.cell 1
      have cP_7_2 : _ = some (Value.slice Pb Pm Pd) := P_7.cell 2
      have hx_7 := hx_6.below hB_7
      have hy_7 := hy_6.below hB_7
      have QN_7 := QN_6.below hB_7
      have QP_7 := QP_6.below hB_7
      have hbel_7 := hbel_6.next hB_7
      have hsz_7 := hB_7.size
      clear X_6 cX_6_0 cX_6_1 cX_6_2 Y_6 cY_6_0 cY_6_1 cY_6_2 R0_6 cR0_6_0 fR0_6_0 cR0_6_1 fR0_6_1 cR0_6_2 fR0_6_2 N_6 cN_6_0 cN_6_1 cN_6_2 P_6 cP_6_0 cP_6_1 cP_6_2 hx_6 hy_6 QN_6 QP_6 hbel_6 hB_7
      clear hBc
      obtain ⟨wc7, hwc⟩ : ∃ x : World, x = wc := ⟨_, rfl⟩
      subst hwc
      have A_7 := hbk
      have hltA := hbk.lt
      clear hbk
      have cA_7_0 : _ = some (Value.bool (decide ((xx).num < 0))) := A_7.cell 0
      have cA_7_1 : _ = some (Value.slice Aa An Ac) := A_7.cell 1
      have cA_7_2 : _ = some (Value.slice Ab Am Ad) := A_7.cell 2
      have OA_7 := hO
      have ltOA := hO.ltB
      clear hO
      have OA'_7 := hO'
      have ltOA' := hO'.ltB
      clear hO'
      have QA_7 := OA_7.rdQ OA'_7 HG3.out
      clear OA_7
      clear OA'_7
      go_wp2_with fail
      go_cut [9] (fun s9 wx => BoxQ wc7 (yy) s9 wx)
      case first =>
        have acc_7 : Below wc7.heap.size wc7 wc7 := Below.refl _ _
        go_wp2_with fail
        go_region_held3 (fun w' => w'.cell? ⟨w.heap.size, 0, none⟩ = some (Value.bool s) ∧ w'.cell? ⟨w.heap.size, 1, none⟩ = some (Value.slice a1 n1 c1) ∧ w'.cell? ⟨w.heap.size, 2, none⟩ = some (Value.slice b1 m1 d1) ∧ w'.cell? ⟨w.heap.size + 1, 0, none⟩ = some (Value.bool t) ∧ w'.cell? ⟨w.heap.size + 1, 1, none⟩ = some (Value.slice a2 n2 c2) ∧ w'.cell? ⟨w.heap.size + 1, 2, none⟩ = some (Value.slice b2 m2 d2) ∧ w'.cell? ⟨w2.heap.size, 0, none⟩ = some (Value.bool (decide ((fq).num < 0))) ∧ w'.cell? ⟨w2.heap.size, 1, none⟩ = some (Value.slice fa fn fc) ∧ w'.cell? ⟨w2.heap.size, 2, none⟩ = some (Value.slice fb fm fd) ∧ w'.cell? ⟨gP, 0, none⟩ = some (Value.bool (decide ((p).num < 0))) ∧ w'.cell? ⟨gP, 1, none⟩ = some (Value.slice Pa Pn Pc) ∧ w'.cell? ⟨gP, 2, none⟩ = some (Value.slice Pb Pm Pd) ∧ w'.cell? ⟨gA, 0, none⟩ = some (Value.bool (decide ((xx).num < 0))) ∧ w'.cell? ⟨gA, 1, none⟩ = some (Value.slice Aa An Ac) ∧ w'.cell? ⟨gA, 2, none⟩ = some (Value.slice Ab Am Ad))
          (first | exact ⟨cX_7_0, cX_7_1, cX_7_2, cY_7_0, cY_7_1, cY_7_2, cN_7_0, cN_7_1, cN_7_2, cP_7_0, cP_7_1, cP_7_2, cA_7_0, cA_7_1, cA_7_2⟩ | exact ⟨cX_8_0, cX_8_1, cX_8_2, cY_8_0, cY_8_1, cY_8_2, cN_8_0, cN_8_1, cN_8_2, cP_8_0, cP_8_1, cP_8_2, cA_8_0, cA_8_1, cA_8_2⟩ | exact ⟨cX_9_0, cX_9_1, cX_9_2, cY_9_0, cY_9_1, cY_9_2, cN_9_0, cN_9_1, cN_9_2, cP_9_0, cP_9_1, cP_9_2, cA_9_0, cA_9_1, cA_9_2⟩ | exact ⟨cX_10_0, cX_10_1, cX_10_2, cY_10_0, cY_10_1, cY_10_2, cN_10_0, cN_10_1, cN_10_2, cP_10_0, cP_10_1, cP_10_2, cA_10_0, cA_10_1, cA_10_2⟩ | exact ⟨(cell_set3 (by omega) _ _ _).trans (cX_10_0), (cell_set3 (by omega) _ _ _).trans (cX_10_1), (cell_set3 (by omega) _ _ _).trans (cX_10_2), (cell_set3 (by omega) _ _ _).trans (cY_10_0), (cell_set3 (by omega) _ _ _).trans (cY_10_1), (cell_set3 (by omega) _ _ _).trans (cY_10_2), (cell_set3 (by omega) _ _ _).trans (cN_10_0), (cell_set3 (by omega) _ _ _).trans (cN_10_1), (cell_set3 (by omega) _ _ _).trans (cN_10_2), (cell_set3 (by omega) _ _ _).trans (cP_10_0), (cell_set3 (by omega) _ _ _).trans (cP_10_1), (cell_set3 (by omega) _ _ _).trans (cP_10_2), (cell_set3 (by omega) _ _ _).trans (cA_10_0), (cell_set3 (by omega) _ _ _).trans (cA_10_1), (cell_set3 (by omega) _ _ _).trans (cA_10_2)⟩ | exact ⟨(X_7.alloc _).cell 0, (X_7.alloc _).cell 1, (X_7.alloc _).cell 2, (Y_7.alloc _).cell 0, (Y_7.alloc _).cell 1, (Y_7.alloc _).cell 2, (N_7.alloc _).cell 0, (N_7.alloc _).cell 1, (N_7.alloc _).cell 2, (P_7.alloc _).cell 0, (P_7.alloc _).cell 1, (P_7.alloc _).cell 2, (A_7.alloc _).cell 0, (A_7.alloc _).cell 1, (A_7.alloc _).cell 2⟩ | exact ⟨(X_8.alloc _).cell 0, (X_8.alloc _).cell 1, (X_8.alloc _).cell 2, (Y_8.alloc _).cell 0, (Y_8.alloc _).cell 1, (Y_8.alloc _).cell 2, (N_8.alloc _).cell 0, (N_8.alloc _).cell 1, (N_8.alloc _).cell 2, (P_8.alloc _).cell 0, (P_8.alloc _).cell 1, (P_8.alloc _).cell 2, (A_8.alloc _).cell 0, (A_8.alloc _).cell 1, (A_8.alloc _).cell 2⟩ | exact ⟨(X_9.alloc _).cell 0, (X_9.alloc _).cell 1, (X_9.alloc _).cell 2, (Y_9.alloc _).cell 0, (Y_9.alloc _).cell 1, (Y_9.alloc _).cell 2, (N_9.alloc _).cell 0, (N_9.alloc _).cell 1, (N_9.alloc _).cell 2, (P_9.alloc _).cell 0, (P_9.alloc _).cell 1, (P_9.alloc _).cell 2, (A_9.alloc _).cell 0, (A_9.alloc _).cell 1, (A_9.alloc _).cell 2⟩ | exact ⟨(X_10.alloc _).cell 0, (X_10.alloc _).cell 1, (X_10.alloc _).cell 2, (Y_10.alloc _).cell 0, (Y_10.alloc _).cell 1, (Y_10.alloc _).cell 2, (N_10.alloc _).cell 0, (N_10.alloc _).cell 1, (N_10.alloc _).cell 2, (P_10.alloc _).cell 0, (P_10.alloc _).cell 1, (P_10.alloc _).cell 2, (A_10.alloc _).cell 0, (A_10.alloc _).cell 1, (A_10.alloc _).cell 2⟩ | go_keep)
          (first
            | (go_at_call 93; ((with_reducible refine (rqs1r).mono ?_); (rintro e w8 ⟨oa, on, oc, ob, om, od, rfl, hQO, hB⟩; have hB_8 : Below wc7.heap.size wc7 w8 := (bl.next hB); have X_8 := X_7.next hB_8; have cX_8_0 : _ = some (Value.bool s) := X_8.cell 0; have cX_8_1 : _ = some (Value.slice a1 n1 c1) := X_8.cell 1; have cX_8_2 : _ = some (Value.slice b1 m1 d1) := X_8.cell 2; have Y_8 := Y_7.next hB_8; have cY_8_0 : _ = some (Value.bool t) := Y_8.cell 0; have cY_8_1 : _ = some (Value.slice a2 n2 c2) := Y_8.cell 1; have cY_8_2 : _ = some (Value.slice b2 m2 d2) := Y_8.cell 2; have R0_8 := R0_7.next hB_8; have cR0_8_0 : _ = some (Value.bool false) := R0_8.cell 0; have fR0_8_0 := R0_8.free 0; have cR0_8_1 : _ = some (Value.slice none 0 0) := R0_8.cell 1; have fR0_8_1 := R0_8.free 1; have cR0_8_2 : _ = some (Value.slice none 0 0) := R0_8.cell 2; have fR0_8_2 := R0_8.free 2; have N_8 := N_7.next hB_8; have cN_8_0 : _ = some (Value.bool (decide ((fq).num < 0))) := N_8.cell 0; have cN_8_1 : _ = some (Value.slice fa fn fc) := N_8.cell 1; have cN_8_2 : _ = some (Value.slice fb fm fd) := N_8.cell 2; have P_8 := P_7.next hB_8; have cP_8_0 : _ = some (Value.bool (decide ((p).num < 0))) := P_8.cell 0; have cP_8_1 : _ = some (Value.slice Pa Pn Pc) := P_8.cell 1; have cP_8_2 : _ = some (Value.slice Pb Pm Pd) := P_8.cell 2; have A_8 := A_7.next hB_8; have cA_8_0 : _ = some (Value.bool (decide ((xx).num < 0))) := A_8.cell 0; have cA_8_1 : _ = some (Value.slice Aa An Ac) := A_8.cell 1; have cA_8_2 : _ = some (Value.slice Ab Am Ad) := A_8.cell 2; have hx_8 := hx_7.below hB_8; have hy_8 := hy_7.below hB_8; have QN_8 := QN_7.below hB_8; have QP_8 := QP_7.below hB_8; have QA_8 := QA_7.below hB_8; have hbel_8 := hbel_7.next hB_8; have hsz_8 := hB_8.size; clear X_7 cX_7_0 cX_7_1 cX_7_2 Y_7 cY_7_0 cY_7_1 cY_7_2 R0_7 cR0_7_0 fR0_7_0 cR0_7_1 fR0_7_1 cR0_7_2 fR0_7_2 N_7 cN_7_0 cN_7_1 cN_7_2 P_7 cP_7_0 cP_7_1 cP_7_2 A_7 cA_7_0 cA_7_1 cA_7_2 hx_7 hy_7 QN_7 QP_7 QA_7 hbel_7 hB_8; have acc_8 := acc_7.next (show Below _ _ _ from (bl.next hB)); (first | (have A := A.next (show Below _ _ _ from (bl.next hB)); have ltA := A.lt; have cA0 : _ = some (Value.bool false) := A.cell 0; have fA0 := A.free 0; have cA1 : _ = some (Value.slice none 0 0) := A.cell 1; have fA1 := A.free 1; have cA2 : _ = some (Value.slice none 0 0) := A.cell 2; have fA2 := A.free 2) | (have A := (blk_new' _ #[Value.bool false, Value.slice none 0 0, Value.slice none 0 0] 38 (g := wc7.heap.size) rfl).next (by first | exact hB | exact below_drew hB); have ltA := A.lt; have cA0 : _ = some (Value.bool false) := A.cell 0; have fA0 := A.free 0; have cA1 : _ = some (Value.slice none 0 0) := A.cell 1; have fA1 := A.free 1; have cA2 : _ = some (Value.slice none 0 0) := A.cell 2; have fA2 := A.free 2) | skip); have QO_8 := hQO; clear hQO; try clear hB)))
            | (go_at_call 126; ((with_reducible refine (rqsub (hx_8.below bl) (by omega) (QN_8.below bl) (by omega)).mono ?_); (rw [hv.out]; rintro e w9 ⟨va, vn, vc, vb, vm, vd, rfl, hO, hO', hDv, hB⟩; have hB_9 : Below w8.heap.size w8 w9 := (bl.next hB); have X_9 := X_8.next hB_9; have cX_9_0 : _ = some (Value.bool s) := X_9.cell 0; have cX_9_1 : _ = some (Value.slice a1 n1 c1) := X_9.cell 1; have cX_9_2 : _ = some (Value.slice b1 m1 d1) := X_9.cell 2; have Y_9 := Y_8.next hB_9; have cY_9_0 : _ = some (Value.bool t) := Y_9.cell 0; have cY_9_1 : _ = some (Value.slice a2 n2 c2) := Y_9.cell 1; have cY_9_2 : _ = some (Value.slice b2 m2 d2) := Y_9.cell 2; have R0_9 := R0_8.next hB_9; have cR0_9_0 : _ = some (Value.bool false) := R0_9.cell 0; have fR0_9_0 := R0_9.free 0; have cR0_9_1 : _ = some (Value.slice none 0 0) := R0_9.cell 1; have fR0_9_1 := R0_9.free 1; have cR0_9_2 : _ = some (Value.slice none 0 0) := R0_9.cell 2; have fR0_9_2 := R0_9.free 2; have N_9 := N_8.next hB_9; have cN_9_0 : _ = some (Value.bool (decide ((fq).num < 0))) := N_9.cell 0; have cN_9_1 : _ = some (Value.slice fa fn fc) := N_9.cell 1; have cN_9_2 : _ = some (Value.slice fb fm fd) := N_9.cell 2; have P_9 := P_8.next hB_9; have cP_9_0 : _ = some (Value.bool (decide ((p).num < 0))) := P_9.cell 0; have cP_9_1 : _ = some (Value.slice Pa Pn Pc) := P_9.cell 1; have cP_9_2 : _ = some (Value.slice Pb Pm Pd) := P_9.cell 2; have A_9 := A_8.next hB_9; have cA_9_0 : _ = some (Value.bool (decide ((xx).num < 0))) := A_9.cell 0; have cA_9_1 : _ = some (Value.slice Aa An Ac) := A_9.cell 1; have cA_9_2 : _ = some (Value.slice Ab Am Ad) := A_9.cell 2; have hx_9 := hx_8.below hB_9; have hy_9 := hy_8.below hB_9; have QN_9 := QN_8.below hB_9; have QP_9 := QP_8.below hB_9; have QA_9 := QA_8.below hB_9; have QO_9 := QO_8.below hB_9; have hbel_9 := hbel_8.next hB_9; have hsz_9 := hB_9.size; clear X_8 cX_8_0 cX_8_1 cX_8_2 Y_8 cY_8_0 cY_8_1 cY_8_2 R0_8 cR0_8_0 fR0_8_0 cR0_8_1 fR0_8_1 cR0_8_2 fR0_8_2 N_8 cN_8_0 cN_8_1 cN_8_2 P_8 cP_8_0 cP_8_1 cP_8_2 A_8 cA_8_0 cA_8_1 cA_8_2 hx_8 hy_8 QN_8 QP_8 QA_8 QO_8 hbel_8 hB_9; have acc_9 := acc_8.next (show Below _ _ _ from (bl.next hB)); (first | (have A := A.next (show Below _ _ _ from (bl.next hB)); have ltA := A.lt; have cA0 : _ = some (Value.bool false) := A.cell 0; have fA0 := A.free 0; have cA1 : _ = some (Value.slice none 0 0) := A.cell 1; have fA1 := A.free 1; have cA2 : _ = some (Value.slice none 0 0) := A.cell 2; have fA2 := A.free 2) | (have A := (blk_new' _ #[Value.bool false, Value.slice none 0 0, Value.slice none 0 0] 38 (g := w8.heap.size) rfl).next (by first | exact hB | exact below_drew hB); have ltA := A.lt; have cA0 : _ = some (Value.bool false) := A.cell 0; have fA0 := A.free 0; have cA1 : _ = some (Value.slice none 0 0) := A.cell 1; have fA1 := A.free 1; have cA2 : _ = some (Value.slice none 0 0) := A.cell 2; have fA2 := A.free 2) | skip); have QV_9 := hO.rdQ hO' HG1.out; clear hO hO'; try clear hB)))
            | (go_at_call 122; ((with_reducible refine (rqdiv (QO_9.below bl) (by omega) (QV_9.below bl) (by omega)).mono ?_); (rw [hyy.out, rretqe_k _ e3.out]; rintro e w10 ⟨qa, qn, qc, qb, qm, qd, rfl, hO, hO', hDq, hB⟩; have hB_10 : Below w9.heap.size w9 w10 := (bl.next hB); have X_10 := X_9.next hB_10; have cX_10_0 : _ = some (Value.bool s) := X_10.cell 0; have cX_10_1 : _ = some (Value.slice a1 n1 c1) := X_10.cell 1; have cX_10_2 : _ = some (Value.slice b1 m1 d1) := X_10.cell 2; have Y_10 := Y_9.next hB_10; have cY_10_0 : _ = some (Value.bool t) := Y_10.cell 0; have cY_10_1 : _ = some (Value.slice a2 n2 c2) := Y_10.cell 1; have cY_10_2 : _ = some (Value.slice b2 m2 d2) := Y_10.cell 2; have R0_10 := R0_9.next hB_10; have cR0_10_0 : _ = some (Value.bool false) := R0_10.cell 0; have fR0_10_0 := R0_10.free 0; have cR0_10_1 : _ = some (Value.slice none 0 0) := R0_10.cell 1; have fR0_10_1 := R0_10.free 1; have cR0_10_2 : _ = some (Value.slice none 0 0) := R0_10.cell 2; have fR0_10_2 := R0_10.free 2; have N_10 := N_9.next hB_10; have cN_10_0 : _ = some (Value.bool (decide ((fq).num < 0))) := N_10.cell 0; have cN_10_1 : _ = some (Value.slice fa fn fc) := N_10.cell 1; have cN_10_2 : _ = some (Value.slice fb fm fd) := N_10.cell 2; have P_10 := P_9.next hB_10; have cP_10_0 : _ = some (Value.bool (decide ((p).num < 0))) := P_10.cell 0; have cP_10_1 : _ = some (Value.slice Pa Pn Pc) := P_10.cell 1; have cP_10_2 : _ = some (Value.slice Pb Pm Pd) := P_10.cell 2; have A_10 := A_9.next hB_10; have cA_10_0 : _ = some (Value.bool (decide ((xx).num < 0))) := A_10.cell 0; have cA_10_1 : _ = some (Value.slice Aa An Ac) := A_10.cell 1; have cA_10_2 : _ = some (Value.slice Ab Am Ad) := A_10.cell 2; have hx_10 := hx_9.below hB_10; have hy_10 := hy_9.below hB_10; have QN_10 := QN_9.below hB_10; have QP_10 := QP_9.below hB_10; have QA_10 := QA_9.below hB_10; have QO_10 := QO_9.below hB_10; have QV_10 := QV_9.below hB_10; have hbel_10 := hbel_9.next hB_10; have hsz_10 := hB_10.size; clear X_9 cX_9_0 cX_9_1 cX_9_2 Y_9 cY_9_0 cY_9_1 cY_9_2 R0_9 cR0_9_0 fR0_9_0 cR0_9_1 fR0_9_1 cR0_9_2 fR0_9_2 N_9 cN_9_0 cN_9_1 cN_9_2 P_9 cP_9_0 cP_9_1 cP_9_2 A_9 cA_9_0 cA_9_1 cA_9_2 hx_9 hy_9 QN_9 QP_9 QA_9 QO_9 QV_9 hbel_9 hB_10; have acc_10 := acc_9.next (show Below _ _ _ from (bl.next hB)); (first | (have A := A.next (show Below _ _ _ from (bl.next hB)); have ltA := A.lt; have cA0 : _ = some (Value.bool false) := A.cell 0; have fA0 := A.free 0; have cA1 : _ = some (Value.slice none 0 0) := A.cell 1; have fA1 := A.free 1; have cA2 : _ = some (Value.slice none 0 0) := A.cell 2; have fA2 := A.free 2) | (have A := (blk_new' _ #[Value.bool false, Value.slice none 0 0, Value.slice none 0 0] 38 (g := w9.heap.size) rfl).next (by first | exact hB | exact below_drew hB); have ltA := A.lt; have cA0 : _ = some (Value.bool false) := A.cell 0; have fA0 := A.free 0; have cA1 : _ = some (Value.slice none 0 0) := A.cell 1; have fA1 := A.free 1; have cA2 : _ = some (Value.slice none 0 0) := A.cell 2; have fA2 := A.free 2) | skip); try clear hB))))
        all_goals (go_wp2_with fail; go_meet; first | exact boxQ_new hO hO' (by first | omega | (simp; omega) | simp) acc_10 | exact boxQ_set A hO hO' (by first | omega | (simp; omega) | simp) (by first | omega | (simp; omega) | simp) acc_10)
      case rest =>
        obtain ⟨gB, Ba, Bn, Bc, Bb, Bm, Bd, rfl, hbk, hgeB, hO, hO', awB, awB', hBc⟩ := hcut
        have hB_8 : Below wc7.heap.size wc7 wc := hBc
        have X_8 := X_7.next hB_8
        have cX_8_0 : _ = some (Value.bool s) := X_8.cell 0
        have cX_8_1 : _ = some (Value.slice a1 n1 c1) := X_8.cell 1
        have cX_8_2 : _ = some (Value.slice b1 m1 d1) := X_8.cell 2
        have Y_8 := Y_7.next hB_8
        have cY_8_0 : _ = some (Value.bool t) := Y_8.cell 0
        have cY_8_1 : _ = some (Value.slice a2 n2 c2) := Y_8.cell 1
        have cY_8_2 : _ = some (Value.slice b2 m2 d2) := Y_8.cell 2
        have R0_8 := R0_7.next hB_8
        have cR0_8_0 : _ = some (Value.bool false) := R0_8.cell 0
        have fR0_8_0 := R0_8.free 0
        have cR0_8_1 : _ = some (Value.slice none 0 0) := R0_8.cell 1
        have fR0_8_1 := R0_8.free 1
        have cR0_8_2 : _ = some (Value.slice none 0 0) := R0_8.cell 2
        have fR0_8_2 := R0_8.free 2
        have N_8 := N_7.next hB_8
        have cN_8_0 : _ = some (Value.bool (decide ((fq).num < 0))) := N_8.cell 0
        have cN_8_1 : _ = some (Value.slice fa fn fc) := N_8.cell 1
        have cN_8_2 : _ = some (Value.slice fb fm fd) := N_8.cell 2
        have P_8 := P_7.next hB_8
        have cP_8_0 : _ = some (Value.bool (decide ((p).num < 0))) := P_8.cell 0
        have cP_8_1 : _ = some (Value.slice Pa Pn Pc) := P_8.cell 1
        have cP_8_2 : _ = some (Value.slice Pb Pm Pd) := P_8.cell 2
        have A_8 := A_7.next hB_8
        have cA_8_0 : _ = some (Value.bool (decide ((xx).num < 0))) := A_8.cell 0
        have cA_8_1 : _ = some (Value.slice Aa An Ac) := A_8.cell 1
        have cA_8_2 : _ = some (Value.slice Ab Am Ad) := A_8.cell 2
        have hx_8 := hx_7.below hB_8
        have hy_8 := hy_7.below hB_8
        have QN_8 := QN_7.below hB_8
        have QP_8 := QP_7.below hB_8
        have QA_8 := QA_7.below hB_8
        have hbel_8 := hbel_7.next hB_8
        have hsz_8 := hB_8.size
        clear X_7 cX_7_0 cX_7_1 cX_7_2 Y_7 cY_7_0 cY_7_1 cY_7_2 R0_7 cR0_7_0 fR0_7_0 cR0_7_1 fR0_7_1 cR0_7_2 fR0_7_2 N_7 cN_7_0 cN_7_1 cN_7_2 P_7 cP_7_0 cP_7_1 cP_7_2 A_7 cA_7_0 cA_7_1 cA_7_2 hx_7 hy_7 QN_7 QP_7 QA_7 hbel_7 hB_8
        clear hBc
        obtain ⟨wc8, hwc⟩ : ∃ x : World, x = wc := ⟨_, rfl⟩
        subst hwc
        have B_8 := hbk
        have hltB := hbk.lt
        clear hbk
        have cB_8_0 : _ = some (Value.bool (decide ((yy).num < 0))) := B_8.cell 0
        have cB_8_1 : _ = some (Value.slice Ba Bn Bc) := B_8.cell 1
        have cB_8_2 : _ = some (Value.slice Bb Bm Bd) := B_8.cell 2
        have OB_8 := hO
        have ltOB := hO.ltB
        clear hO
        have OB'_8 := hO'
        have ltOB' := hO'.ltB
        clear hO'
        have QB_8 := OB_8.rdQ OB'_8 HG4.out
        clear OB_8
        clear OB'_8
        go_wp2_with fail
        go_cut [11] (fun s11 wx => BoxQ wc8 (iz) s11 wx)
        case first =>
          have acc_8 : Below wc8.heap.size wc8 wc8 := Below.refl _ _
          go_wp2_with fail
          go_region_held3 (fun w' => w'.cell? ⟨w.heap.size, 0, none⟩ = some (Value.bool s) ∧ w'.cell? ⟨w.heap.size, 1, none⟩ = some (Value.slice a1 n1 c1) ∧ w'.cell? ⟨w.heap.size, 2, none⟩ = some (Value.slice b1 m1 d1) ∧ w'.cell? ⟨w.heap.size + 1, 0, none⟩ = some (Value.bool t) ∧ w'.cell? ⟨w.heap.size + 1, 1, none⟩ = some (Value.slice a2 n2 c2) ∧ w'.cell? ⟨w.heap.size + 1, 2, none⟩ = some (Value.slice b2 m2 d2) ∧ w'.cell? ⟨w2.heap.size, 0, none⟩ = some (Value.bool (decide ((fq).num < 0))) ∧ w'.cell? ⟨w2.heap.size, 1, none⟩ = some (Value.slice fa fn fc) ∧ w'.cell? ⟨w2.heap.size, 2, none⟩ = some (Value.slice fb fm fd) ∧ w'.cell? ⟨gP, 0, none⟩ = some (Value.bool (decide ((p).num < 0))) ∧ w'.cell? ⟨gP, 1, none⟩ = some (Value.slice Pa Pn Pc) ∧ w'.cell? ⟨gP, 2, none⟩ = some (Value.slice Pb Pm Pd) ∧ w'.cell? ⟨gA, 0, none⟩ = some (Value.bool (decide ((xx).num < 0))) ∧ w'.cell? ⟨gA, 1, none⟩ = some (Value.slice Aa An Ac) ∧ w'.cell? ⟨gA, 2, none⟩ = some (Value.slice Ab Am Ad) ∧ w'.cell? ⟨gB, 0, none⟩ = some (Value.bool (decide ((yy).num < 0))) ∧ w'.cell? ⟨gB, 1, none⟩ = some (Value.slice Ba Bn Bc) ∧ w'.cell? ⟨gB, 2, none⟩ = some (Value.slice Bb Bm Bd))
            (first | exact ⟨cX_8_0, cX_8_1, cX_8_2, cY_8_0, cY_8_1, cY_8_2, cN_8_0, cN_8_1, cN_8_2, cP_8_0, cP_8_1, cP_8_2, cA_8_0, cA_8_1, cA_8_2, cB_8_0, cB_8_1, cB_8_2⟩ | exact ⟨cX_9_0, cX_9_1, cX_9_2, cY_9_0, cY_9_1, cY_9_2, cN_9_0, cN_9_1, cN_9_2, cP_9_0, cP_9_1, cP_9_2, cA_9_0, cA_9_1, cA_9_2, cB_9_0, cB_9_1, cB_9_2⟩ | exact ⟨cX_10_0, cX_10_1, cX_10_2, cY_10_0, cY_10_1, cY_10_2, cN_10_0, cN_10_1, cN_10_2, cP_10_0, cP_10_1, cP_10_2, cA_10_0, cA_10_1, cA_10_2, cB_10_0, cB_10_1, cB_10_2⟩ | exact ⟨cX_11_0, cX_11_1, cX_11_2, cY_11_0, cY_11_1, cY_11_2, cN_11_0, cN_11_1, cN_11_2, cP_11_0, cP_11_1, cP_11_2, cA_11_0, cA_11_1, cA_11_2, cB_11_0, cB_11_1, cB_11_2⟩ | exact ⟨(cell_set3 (by omega) _ _ _).trans (cX_11_0), (cell_set3 (by omega) _ _ _).trans (cX_11_1), (cell_set3 (by omega) _ _ _).trans (cX_11_2), (cell_set3 (by omega) _ _ _).trans (cY_11_0), (cell_set3 (by omega) _ _ _).trans (cY_11_1), (cell_set3 (by omega) _ _ _).trans (cY_11_2), (cell_set3 (by omega) _ _ _).trans (cN_11_0), (cell_set3 (by omega) _ _ _).trans (cN_11_1), (cell_set3 (by omega) _ _ _).trans (cN_11_2), (cell_set3 (by omega) _ _ _).trans (cP_11_0), (cell_set3 (by omega) _ _ _).trans (cP_11_1), (cell_set3 (by omega) _ _ _).trans (cP_11_2), (cell_set3 (by omega) _ _ _).trans (cA_11_0), (cell_set3 (by omega) _ _ _).trans (cA_11_1), (cell_set3 (by omega) _ _ _).trans (cA_11_2), (cell_set3 (by omega) _ _ _).trans (cB_11_0), (cell_set3 (by omega) _ _ _).trans (cB_11_1), (cell_set3 (by omega) _ _ _).trans (cB_11_2)⟩ | exact ⟨(X_8.alloc _).cell 0, (X_8.alloc _).cell 1, (X_8.alloc _).cell 2, (Y_8.alloc _).cell 0, (Y_8.alloc _).cell 1, (Y_8.alloc _).cell 2, (N_8.alloc _).cell 0, (N_8.alloc _).cell 1, (N_8.alloc _).cell 2, (P_8.alloc _).cell 0, (P_8.alloc _).cell 1, (P_8.alloc _).cell 2, (A_8.alloc _).cell 0, (A_8.alloc _).cell 1, (A_8.alloc _).cell 2, (B_8.alloc _).cell 0, (B_8.alloc _).cell 1, (B_8.alloc _).cell 2⟩ | exact ⟨(X_9.alloc _).cell 0, (X_9.alloc _).cell 1, (X_9.alloc _).cell 2, (Y_9.alloc _).cell 0, (Y_9.alloc _).cell 1, (Y_9.alloc _).cell 2, (N_9.alloc _).cell 0, (N_9.alloc _).cell 1, (N_9.alloc _).cell 2, (P_9.alloc _).cell 0, (P_9.alloc _).cell 1, (P_9.alloc _).cell 2, (A_9.alloc _).cell 0, (A_9.alloc _).cell 1, (A_9.alloc _).cell 2, (B_9.alloc _).cell 0, (B_9.alloc _).cell 1, (B_9.alloc _).cell 2⟩ | exact ⟨(X_10.alloc _).cell 0, (X_10.alloc _).cell 1, (X_10.alloc _).cell 2, (Y_10.alloc _).cell 0, (Y_10.alloc _).cell 1, (Y_10.alloc _).cell 2, (N_10.alloc _).cell 0, (N_10.alloc _).cell 1, (N_10.alloc _).cell 2, (P_10.alloc _).cell 0, (P_10.alloc _).cell 1, (P_10.alloc _).cell 2, (A_10.alloc _).cell 0, (A_10.alloc _).cell 1, (A_10.alloc _).cell 2, (B_10.alloc _).cell 0, (B_10.alloc _).cell 1, (B_10.alloc _).cell 2⟩ | exact ⟨(X_11.alloc _).cell 0, (X_11.alloc _).cell 1, (X_11.alloc _).cell 2, (Y_11.alloc _).cell 0, (Y_11.alloc _).cell 1, (Y_11.alloc _).cell 2, (N_11.alloc _).cell 0, (N_11.alloc _).cell 1, (N_11.alloc _).cell 2, (P_11.alloc _).cell 0, (P_11.alloc _).cell 1, (P_11.alloc _).cell 2, (A_11.alloc _).cell 0, (A_11.alloc _).cell 1, (A_11.alloc _).cell 2, (B_11.alloc _).cell 0, (B_11.alloc _).cell 1, (B_11.alloc _).cell 2⟩ | go_keep)
            (first
              | (go_at_call 93; ((with_reducible refine (rqs1r).mono ?_); (rintro e w9 ⟨oa, on, oc, ob, om, od, rfl, hQO, hB⟩; have hB_9 : Below wc8.heap.size wc8 w9 := (bl.next hB); have X_9 := X_8.next hB_9; have cX_9_0 : _ = some (Value.bool s) := X_9.cell 0; have cX_9_1 : _ = some (Value.slice a1 n1 c1) := X_9.cell 1; have cX_9_2 : _ = some (Value.slice b1 m1 d1) := X_9.cell 2; have Y_9 := Y_8.next hB_9; have cY_9_0 : _ = some (Value.bool t) := Y_9.cell 0; have cY_9_1 : _ = some (Value.slice a2 n2 c2) := Y_9.cell 1; have cY_9_2 : _ = some (Value.slice b2 m2 d2) := Y_9.cell 2; have R0_9 := R0_8.next hB_9; have cR0_9_0 : _ = some (Value.bool false) := R0_9.cell 0; have fR0_9_0 := R0_9.free 0; have cR0_9_1 : _ = some (Value.slice none 0 0) := R0_9.cell 1; have fR0_9_1 := R0_9.free 1; have cR0_9_2 : _ = some (Value.slice none 0 0) := R0_9.cell 2; have fR0_9_2 := R0_9.free 2; have N_9 := N_8.next hB_9; have cN_9_0 : _ = some (Value.bool (decide ((fq).num < 0))) := N_9.cell 0; have cN_9_1 : _ = some (Value.slice fa fn fc) := N_9.cell 1; have cN_9_2 : _ = some (Value.slice fb fm fd) := N_9.cell 2; have P_9 := P_8.next hB_9; have cP_9_0 : _ = some (Value.bool (decide ((p).num < 0))) := P_9.cell 0; have cP_9_1 : _ = some (Value.slice Pa Pn Pc) := P_9.cell 1; have cP_9_2 : _ = some (Value.slice Pb Pm Pd) := P_9.cell 2; have A_9 := A_8.next hB_9; have cA_9_0 : _ = some (Value.bool (decide ((xx).num < 0))) := A_9.cell 0; have cA_9_1 : _ = some (Value.slice Aa An Ac) := A_9.cell 1; have cA_9_2 : _ = some (Value.slice Ab Am Ad) := A_9.cell 2; have B_9 := B_8.next hB_9; have cB_9_0 : _ = some (Value.bool (decide ((yy).num < 0))) := B_9.cell 0; have cB_9_1 : _ = some (Value.slice Ba Bn Bc) := B_9.cell 1; have cB_9_2 : _ = some (Value.slice Bb Bm Bd) := B_9.cell 2; have hx_9 := hx_8.below hB_9; have hy_9 := hy_8.below hB_9; have QN_9 := QN_8.below hB_9; have QP_9 := QP_8.below hB_9; have QA_9 := QA_8.below hB_9; have QB_9 := QB_8.below hB_9; have hbel_9 := hbel_8.next hB_9; have hsz_9 := hB_9.size; clear X_8 cX_8_0 cX_8_1 cX_8_2 Y_8 cY_8_0 cY_8_1 cY_8_2 R0_8 cR0_8_0 fR0_8_0 cR0_8_1 fR0_8_1 cR0_8_2 fR0_8_2 N_8 cN_8_0 cN_8_1 cN_8_2 P_8 cP_8_0 cP_8_1 cP_8_2 A_8 cA_8_0 cA_8_1 cA_8_2 B_8 cB_8_0 cB_8_1 cB_8_2 hx_8 hy_8 QN_8 QP_8 QA_8 QB_8 hbel_8 hB_9; have acc_9 := acc_8.next (show Below _ _ _ from (bl.next hB)); (first | (have A := A.next (show Below _ _ _ from (bl.next hB)); have ltA := A.lt; have cA0 : _ = some (Value.bool false) := A.cell 0; have fA0 := A.free 0; have cA1 : _ = some (Value.slice none 0 0) := A.cell 1; have fA1 := A.free 1; have cA2 : _ = some (Value.slice none 0 0) := A.cell 2; have fA2 := A.free 2) | (have A := (blk_new' _ #[Value.bool false, Value.slice none 0 0, Value.slice none 0 0] 38 (g := wc8.heap.size) rfl).next (by first | exact hB | exact below_drew hB); have ltA := A.lt; have cA0 : _ = some (Value.bool false) := A.cell 0; have fA0 := A.free 0; have cA1 : _ = some (Value.slice none 0 0) := A.cell 1; have fA1 := A.free 1; have cA2 : _ = some (Value.slice none 0 0) := A.cell 2; have fA2 := A.free 2) | skip); have QO_9 := hQO; clear hQO; try clear hB)))
              | (go_at_call 137; ((with_reducible refine (ih.go HG5.out HG6.out (QA_9.below bl) (QB_9.below bl)).mono ?_); (rw [hzz.out]; rintro e w10 ⟨za, zn, zc, zb, zm, zd, rfl, hO, hO', hDz, hB⟩; have hB_10 : Below w9.heap.size w9 w10 := (bl.next hB); have X_10 := X_9.next hB_10; have cX_10_0 : _ = some (Value.bool s) := X_10.cell 0; have cX_10_1 : _ = some (Value.slice a1 n1 c1) := X_10.cell 1; have cX_10_2 : _ = some (Value.slice b1 m1 d1) := X_10.cell 2; have Y_10 := Y_9.next hB_10; have cY_10_0 : _ = some (Value.bool t) := Y_10.cell 0; have cY_10_1 : _ = some (Value.slice a2 n2 c2) := Y_10.cell 1; have cY_10_2 : _ = some (Value.slice b2 m2 d2) := Y_10.cell 2; have R0_10 := R0_9.next hB_10; have cR0_10_0 : _ = some (Value.bool false) := R0_10.cell 0; have fR0_10_0 := R0_10.free 0; have cR0_10_1 : _ = some (Value.slice none 0 0) := R0_10.cell 1; have fR0_10_1 := R0_10.free 1; have cR0_10_2 : _ = some (Value.slice none 0 0) := R0_10.cell 2; have fR0_10_2 := R0_10.free 2; have N_10 := N_9.next hB_10; have cN_10_0 : _ = some (Value.bool (decide ((fq).num < 0))) := N_10.cell 0; have cN_10_1 : _ = some (Value.slice fa fn fc) := N_10.cell 1; have cN_10_2 : _ = some (Value.slice fb fm fd) := N_10.cell 2; have P_10 := P_9.next hB_10; have cP_10_0 : _ = some (Value.bool (decide ((p).num < 0))) := P_10.cell 0; have cP_10_1 : _ = some (Value.slice Pa Pn Pc) := P_10.cell 1; have cP_10_2 : _ = some (Value.slice Pb Pm Pd) := P_10.cell 2; have A_10 := A_9.next hB_10; have cA_10_0 : _ = some (Value.bool (decide ((xx).num < 0))) := A_10.cell 0; have cA_10_1 : _ = some (Value.slice Aa An Ac) := A_10.cell 1; have cA_10_2 : _ = some (Value.slice Ab Am Ad) := A_10.cell 2; have B_10 := B_9.next hB_10; have cB_10_0 : _ = some (Value.bool (decide ((yy).num < 0))) := B_10.cell 0; have cB_10_1 : _ = some (Value.slice Ba Bn Bc) := B_10.cell 1; have cB_10_2 : _ = some (Value.slice Bb Bm Bd) := B_10.cell 2; have hx_10 := hx_9.below hB_10; have hy_10 := hy_9.below hB_10; have QN_10 := QN_9.below hB_10; have QP_10 := QP_9.below hB_10; have QA_10 := QA_9.below hB_10; have QB_10 := QB_9.below hB_10; have QO_10 := QO_9.below hB_10; have hbel_10 := hbel_9.next hB_10; have hsz_10 := hB_10.size; clear X_9 cX_9_0 cX_9_1 cX_9_2 Y_9 cY_9_0 cY_9_1 cY_9_2 R0_9 cR0_9_0 fR0_9_0 cR0_9_1 fR0_9_1 cR0_9_2 fR0_9_2 N_9 cN_9_0 cN_9_1 cN_9_2 P_9 cP_9_0 cP_9_1 cP_9_2 A_9 cA_9_0 cA_9_1 cA_9_2 B_9 cB_9_0 cB_9_1 cB_9_2 hx_9 hy_9 QN_9 QP_9 QA_9 QB_9 QO_9 hbel_9 hB_10; have acc_10 := acc_9.next (show Below _ _ _ from (bl.next hB)); (first | (have A := A.next (show Below _ _ _ from (bl.next hB)); have ltA := A.lt; have cA0 : _ = some (Value.bool false) := A.cell 0; have fA0 := A.free 0; have cA1 : _ = some (Value.slice none 0 0) := A.cell 1; have fA1 := A.free 1; have cA2 : _ = some (Value.slice none 0 0) := A.cell 2; have fA2 := A.free 2) | (have A := (blk_new' _ #[Value.bool false, Value.slice none 0 0, Value.slice none 0 0] 38 (g := w9.heap.size) rfl).next (by first | exact hB | exact below_drew hB); have ltA := A.lt; have cA0 : _ = some (Value.bool false) := A.cell 0; have fA0 := A.free 0; have cA1 : _ = some (Value.slice none 0 0) := A.cell 1; have fA1 := A.free 1; have cA2 : _ = some (Value.slice none 0 0) := A.cell 2; have fA2 := A.free 2) | skip); have QZ_10 := hO.rdQ hO' HG9.out; clear hO hO'; try clear hB)))
              | (go_at_call 122; ((with_reducible refine (rqdiv (QO_10.below bl) (by omega) (QZ_10.below bl) (by omega)).mono ?_); (rw [hiz.out, rretqe_k _ e4.out]; rintro e w11 ⟨qa, qn, qc, qb, qm, qd, rfl, hO, hO', hDq, hB⟩; have hB_11 : Below w10.heap.size w10 w11 := (bl.next hB); have X_11 := X_10.next hB_11; have cX_11_0 : _ = some (Value.bool s) := X_11.cell 0; have cX_11_1 : _ = some (Value.slice a1 n1 c1) := X_11.cell 1; have cX_11_2 : _ = some (Value.slice b1 m1 d1) := X_11.cell 2; have Y_11 := Y_10.next hB_11; have cY_11_0 : _ = some (Value.bool t) := Y_11.cell 0; have cY_11_1 : _ = some (Value.slice a2 n2 c2) := Y_11.cell 1; have cY_11_2 : _ = some (Value.slice b2 m2 d2) := Y_11.cell 2; have R0_11 := R0_10.next hB_11; have cR0_11_0 : _ = some (Value.bool false) := R0_11.cell 0; have fR0_11_0 := R0_11.free 0; have cR0_11_1 : _ = some (Value.slice none 0 0) := R0_11.cell 1; have fR0_11_1 := R0_11.free 1; have cR0_11_2 : _ = some (Value.slice none 0 0) := R0_11.cell 2; have fR0_11_2 := R0_11.free 2; have N_11 := N_10.next hB_11; have cN_11_0 : _ = some (Value.bool (decide ((fq).num < 0))) := N_11.cell 0; have cN_11_1 : _ = some (Value.slice fa fn fc) := N_11.cell 1; have cN_11_2 : _ = some (Value.slice fb fm fd) := N_11.cell 2; have P_11 := P_10.next hB_11; have cP_11_0 : _ = some (Value.bool (decide ((p).num < 0))) := P_11.cell 0; have cP_11_1 : _ = some (Value.slice Pa Pn Pc) := P_11.cell 1; have cP_11_2 : _ = some (Value.slice Pb Pm Pd) := P_11.cell 2; have A_11 := A_10.next hB_11; have cA_11_0 : _ = some (Value.bool (decide ((xx).num < 0))) := A_11.cell 0; have cA_11_1 : _ = some (Value.slice Aa An Ac) := A_11.cell 1; have cA_11_2 : _ = some (Value.slice Ab Am Ad) := A_11.cell 2; have B_11 := B_10.next hB_11; have cB_11_0 : _ = some (Value.bool (decide ((yy).num < 0))) := B_11.cell 0; have cB_11_1 : _ = some (Value.slice Ba Bn Bc) := B_11.cell 1; have cB_11_2 : _ = some (Value.slice Bb Bm Bd) := B_11.cell 2; have hx_11 := hx_10.below hB_11; have hy_11 := hy_10.below hB_11; have QN_11 := QN_10.below hB_11; have QP_11 := QP_10.below hB_11; have QA_11 := QA_10.below hB_11; have QB_11 := QB_10.below hB_11; have QO_11 := QO_10.below hB_11; have QZ_11 := QZ_10.below hB_11; have hbel_11 := hbel_10.next hB_11; have hsz_11 := hB_11.size; clear X_10 cX_10_0 cX_10_1 cX_10_2 Y_10 cY_10_0 cY_10_1 cY_10_2 R0_10 cR0_10_0 fR0_10_0 cR0_10_1 fR0_10_1 cR0_10_2 fR0_10_2 N_10 cN_10_0 cN_10_1 cN_10_2 P_10 cP_10_0 cP_10_1 cP_10_2 A_10 cA_10_0 cA_10_1 cA_10_2 B_10 cB_10_0 cB_10_1 cB_10_2 hx_10 hy_10 QN_10 QP_10 QA_10 QB_10 QO_10 QZ_10 hbel_10 hB_11; have acc_11 := acc_10.next (show Below _ _ _ from (bl.next hB)); (first | (have A := A.next (show Below _ _ _ from (bl.next hB)); have ltA := A.lt; have cA0 : _ = some (Value.bool false) := A.cell 0; have fA0 := A.free 0; have cA1 : _ = some (Value.slice none 0 0) := A.cell 1; have fA1 := A.free 1; have cA2 : _ = some (Value.slice none 0 0) := A.cell 2; have fA2 := A.free 2) | (have A := (blk_new' _ #[Value.bool false, Value.slice none 0 0, Value.slice none 0 0] 38 (g := w10.heap.size) rfl).next (by first | exact hB | exact below_drew hB); have ltA := A.lt; have cA0 : _ = some (Value.bool false) := A.cell 0; have fA0 := A.free 0; have cA1 : _ = some (Value.slice none 0 0) := A.cell 1; have fA1 := A.free 1; have cA2 : _ = some (Value.slice none 0 0) := A.cell 2; have fA2 := A.free 2) | skip); try clear hB))))
          all_goals (go_wp2_with fail; go_meet; first | exact boxQ_new hO hO' (by first | omega | (simp; omega) | simp) acc_11 | exact boxQ_set A hO hO' (by first | omega | (simp; omega) | simp) (by first | omega | (simp; omega) | simp) acc_11)
        case rest =>
          obtain ⟨gZ, Za, Zn, Zc, Zb, Zm, Zd, rfl, hbk, hgeZ, hO, hO', awZ, awZ', hBc⟩ := hcut
          have hB_9 : Below wc8.heap.size wc8 wc := hBc
          have X_9 := X_8.next hB_9
          have cX_9_0 : _ = some (Value.bool s) := X_9.cell 0
          have cX_9_1 : _ = some (Value.slice a1 n1 c1) := X_9.cell 1
          have cX_9_2 : _ = some (Value.slice b1 m1 d1) := X_9.cell 2
          have Y_9 := Y_8.next hB_9
          have cY_9_0 : _ = some (Value.bool t) := Y_9.cell 0
          have cY_9_1 : _ = some (Value.slice a2 n2 c2) := Y_9.cell 1
          have cY_9_2 : _ = some (Value.slice b2 m2 d2) := Y_9.cell 2
          have R0_9 := R0_8.next hB_9
          have cR0_9_0 : _ = some (Value.bool false) := R0_9.cell 0
          have fR0_9_0 := R0_9.free 0
          have cR0_9_1 : _ = some (Value.slice none 0 0) := R0_9.cell 1
          have fR0_9_1 := R0_9.free 1
          have cR0_9_2 : _ = some (Value.slice none 0 0) := R0_9.cell 2
          have fR0_9_2 := R0_9.free 2
          have N_9 := N_8.next hB_9
          have cN_9_0 : _ = some (Value.bool (decide ((fq).num < 0))) := N_9.cell 0
          have cN_9_1 : _ = some (Value.slice fa fn fc) := N_9.cell 1
          have cN_9_2 : _ = some (Value.slice fb fm fd) := N_9.cell 2
          have P_9 := P_8.next hB_9
          have cP_9_0 : _ = some (Value.bool (decide ((p).num < 0))) := P_9.cell 0
          have cP_9_1 : _ = some (Value.slice Pa Pn Pc) := P_9.cell 1
          have cP_9_2 : _ = some (Value.slice Pb Pm Pd) := P_9.cell 2
          have A_9 := A_8.next hB_9
          have cA_9_0 : _ = some (Value.bool (decide ((xx).num < 0))) := A_9.cell 0
          have cA_9_1 : _ = some (Value.slice Aa An Ac) := A_9.cell 1
          have cA_9_2 : _ = some (Value.slice Ab Am Ad) := A_9.cell 2
          have B_9 := B_8.next hB_9
          have cB_9_0 : _ = some (Value.bool (decide ((yy).num < 0))) := B_9.cell 0
          have cB_9_1 : _ = some (Value.slice Ba Bn Bc) := B_9.cell 1
          have cB_9_2 : _ = some (Value.slice Bb Bm Bd) := B_9.cell 2
          have hx_9 := hx_8.below hB_9
          have hy_9 := hy_8.below hB_9
          have QN_9 := QN_8.below hB_9
          have QP_9 := QP_8.below hB_9
          have QA_9 := QA_8.below hB_9
          have QB_9 := QB_8.below hB_9
          have hbel_9 := hbel_8.next hB_9
          have hsz_9 := hB_9.size
          clear X_8 cX_8_0 cX_8_1 cX_8_2 Y_8 cY_8_0 cY_8_1 cY_8_2 R0_8 cR0_8_0 fR0_8_0 cR0_8_1 fR0_8_1 cR0_8_2 fR0_8_2 N_8 cN_8_0 cN_8_1 cN_8_2 P_8 cP_8_0 cP_8_1 cP_8_2 A_8 cA_8_0 cA_8_1 cA_8_2 B_8 cB_8_0 cB_8_1 cB_8_2 hx_8 hy_8 QN_8 QP_8 QA_8 QB_8 hbel_8 hB_9
          clear hBc
          obtain ⟨wc9, hwc⟩ : ∃ x : World, x = wc := ⟨_, rfl⟩
          subst hwc
          have Z_9 := hbk
          have hltZ := hbk.lt
          clear hbk
          have cZ_9_0 : _ = some (Value.bool (decide ((iz).num < 0))) := Z_9.cell 0
          have cZ_9_1 : _ = some (Value.slice Za Zn Zc) := Z_9.cell 1
          have cZ_9_2 : _ = some (Value.slice Zb Zm Zd) := Z_9.cell 2
          have OZ_9 := hO
          have ltOZ := hO.ltB
          clear hO
          have OZ'_9 := hO'
          have ltOZ' := hO'.ltB
          clear hO'
          have QI_9 := OZ_9.rdQ OZ'_9 qiz.out
          clear OZ_9
          clear OZ'_9
          go_wp2_with fail
          refine (rqadd QN_9 (by omega) QI_9 (by omega)).mono ?_
          rintro e w10 ⟨ra, rn, rc, rb, rm, rd, rfl, hO, hO', hDr, hB⟩
          have hB_10 : Below wc9.heap.size wc9 w10 := (bl.next hB)
          have X_10 := X_9.next hB_10
          have cX_10_0 : _ = some (Value.bool s) := X_10.cell 0
          have cX_10_1 : _ = some (Value.slice a1 n1 c1) := X_10.cell 1
          have cX_10_2 : _ = some (Value.slice b1 m1 d1) := X_10.cell 2
          have Y_10 := Y_9.next hB_10
          have cY_10_0 : _ = some (Value.bool t) := Y_10.cell 0
          have cY_10_1 : _ = some (Value.slice a2 n2 c2) := Y_10.cell 1
          have cY_10_2 : _ = some (Value.slice b2 m2 d2) := Y_10.cell 2
          have R0_10 := R0_9.next hB_10
          have cR0_10_0 : _ = some (Value.bool false) := R0_10.cell 0
          have fR0_10_0 := R0_10.free 0
          have cR0_10_1 : _ = some (Value.slice none 0 0) := R0_10.cell 1
          have fR0_10_1 := R0_10.free 1
          have cR0_10_2 : _ = some (Value.slice none 0 0) := R0_10.cell 2
          have fR0_10_2 := R0_10.free 2
          have N_10 := N_9.next hB_10
          have cN_10_0 : _ = some (Value.bool (decide ((fq).num < 0))) := N_10.cell 0
          have cN_10_1 : _ = some (Value.slice fa fn fc) := N_10.cell 1
          have cN_10_2 : _ = some (Value.slice fb fm fd) := N_10.cell 2
          have P_10 := P_9.next hB_10
          have cP_10_0 : _ = some (Value.bool (decide ((p).num < 0))) := P_10.cell 0
          have cP_10_1 : _ = some (Value.slice Pa Pn Pc) := P_10.cell 1
          have cP_10_2 : _ = some (Value.slice Pb Pm Pd) := P_10.cell 2
          have A_10 := A_9.next hB_10
          have cA_10_0 : _ = some (Value.bool (decide ((xx).num < 0))) := A_10.cell 0
          have cA_10_1 : _ = some (Value.slice Aa An Ac) := A_10.cell 1
          have cA_10_2 : _ = some (Value.slice Ab Am Ad) := A_10.cell 2
          have B_10 := B_9.next hB_10
          have cB_10_0 : _ = some (Value.bool (decide ((yy).num < 0))) := B_10.cell 0
          have cB_10_1 : _ = some (Value.slice Ba Bn Bc) := B_10.cell 1
          have cB_10_2 : _ = some (Value.slice Bb Bm Bd) := B_10.cell 2
          have Z_10 := Z_9.next hB_10
          have cZ_10_0 : _ = some (Value.bool (decide ((iz).num < 0))) := Z_10.cell 0
          have cZ_10_1 : _ = some (Value.slice Za Zn Zc) := Z_10.cell 1
          have cZ_10_2 : _ = some (Value.slice Zb Zm Zd) := Z_10.cell 2
          have hx_10 := hx_9.below hB_10
          have hy_10 := hy_9.below hB_10
          have QN_10 := QN_9.below hB_10
          have QP_10 := QP_9.below hB_10
          have QA_10 := QA_9.below hB_10
          have QB_10 := QB_9.below hB_10
          have QI_10 := QI_9.below hB_10
          have hbel_10 := hbel_9.next hB_10
          have hsz_10 := hB_10.size
          clear X_9 cX_9_0 cX_9_1 cX_9_2 Y_9 cY_9_0 cY_9_1 cY_9_2 R0_9 cR0_9_0 fR0_9_0 cR0_9_1 fR0_9_1 cR0_9_2 fR0_9_2 N_9 cN_9_0 cN_9_1 cN_9_2 P_9 cP_9_0 cP_9_1 cP_9_2 A_9 cA_9_0 cA_9_1 cA_9_2 B_9 cB_9_0 cB_9_1 cB_9_2 Z_9 cZ_9_0 cZ_9_1 cZ_9_2 hx_9 hy_9 QN_9 QP_9 QA_9 QB_9 QI_9 hbel_9 hB_10
          have Or_10 := hO
          have ltOr := hO.ltB
          have Pr_10 := hO'
          have ltPr := hO'.ltB
          clear hO hO'
          try clear hB
          go_wp2
          refine bodyPost_ret (v := .agg #[.bool (decide ((fq + iz).num < 0)), .slice ra rn rc, .slice rb rm rd]) (by simp [results, Tryz.results137, go_sem, cR0_10_0, cR0_10_1, cR0_10_2]) rfl ?_
          exact retq_set Or_10 Pr_10 hDr hbel_10 (by omega) (by omega)

end Go.Proofs.YtgddnmmllchndaaGreat
/- WALKS OF FRACTIONS, 21: the simplest between two, of the reference. -/
namespace Go.Proofs.YtgddnmmllchndaaGreat
set_option linter.unusedVariables false
set_option linter.unusedSimpArgs false
open Go.ChangeShapes Go.WideShapes Go.ChangeAt Go.RowKit Go.NatP

theorem rat_lt_le {a b c : Rat} (h : a < b) (h' : b ≤ c) : a < c := Rat.not_le.1 fun h2 => absurd (Rat.le_trans h' h2) (Rat.not_le.2 h)
theorem rqbtw (J : Nat) (hJ1 : 1 ≤ J) (hJ : J ≤ 200000) : ∀ k, RBtwC J k
  | 0 => ⟨fun {w a1 b1 n1 c1 m1 d1 s x a2 b2 n2 c2 m2 d2 t y} hin hk hx hy => by have := x.den_nz; omega⟩
  | k + 1 => ⟨fun {w a1 b1 n1 c1 m1 d1 s x a2 b2 n2 c2 m2 d2 t y} hin hk hx hy => by
    by_cases h1 : (x.floor : Rat) = x
    · exact rqbtw1 hJ1 hJ hin hx hy h1
    · by_cases h2 : (x.floor : Rat) + 1 ≤ y
      · exact rqbtw2 hJ1 hJ hin hx hy h1 h2
      · exact rqbtw3 hJ1 hJ hin hx hy (rqbtw J hJ1 hJ k) hk h1 h2⟩

set_option maxRecDepth 100000 in
set_option maxHeartbeats 8000000 in
theorem rqsimpE {w : World} {a1 b1 : Option Addr} {n1 c1 m1 d1 : Nat} {s : Bool} {x : Rat} {a2 b2 : Option Addr} {n2 c2 m2 d2 : Nat} {t : Bool} {y : Rat} {J : Nat} (hJ1 : 1 ≤ J) (hJ : J ≤ 200000) (hx : RdQ J w s a1 n1 c1 b1 m1 d1 x) (hy : RdQ J w t a2 n2 c2 b2 m2 d2 y) (h1 : y < x) :
    Calls Tryz.prog 89 #[.agg #[.bool s, .slice a1 n1 c1, .slice b1 m1 d1], .agg #[.bool t, .slice a2 n2 c2, .slice b2 m2 d2]] w (RetQE w (spl x y) 3) := by
  have hqx := hx.qs hJ1
  have hqy := hy.qs hJ1
  have hc : 0 < cmpQ x y := by rw [cmpQ_swap, cmpQ_lt h1]; omega
  obtain ⟨c, hc0⟩ : ∃ c, cmpQ x y = c := ⟨_, rfl⟩
  rw [hc0] at hc
  have hch := hid hc0
  clear hc0 hqx hqy h1
  have hent := ent3 w #[Value.bool s, Value.slice a1 n1 c1, Value.slice b1 m1 d1] #[Value.bool t, Value.slice a2 n2 c2, Value.slice b2 m2 d2] #[Value.bool false, Value.slice none 0 0, Value.slice none 0 0] 38 38 38
  go_enter Tryz.func89, Tryz.ntmps89
  go_wp2_with fail
  generalize (((w.alloc (.cells #[Value.bool s, Value.slice a1 n1 c1, Value.slice b1 m1 d1] 38)).alloc (.cells #[Value.bool t, Value.slice a2 n2 c2, Value.slice b2 m2 d2] 38)).alloc (.cells #[Value.bool false, Value.slice none 0 0, Value.slice none 0 0] 38)) = W0 at hent ⊢
  obtain ⟨X_0, Y_0, R0_0, hbel_0, hsz_0⟩ := hent
  have cX_0_0 : _ = some (Value.bool s) := X_0.cell 0
  have cX_0_1 : _ = some (Value.slice a1 n1 c1) := X_0.cell 1
  have cX_0_2 : _ = some (Value.slice b1 m1 d1) := X_0.cell 2
  have cY_0_0 : _ = some (Value.bool t) := Y_0.cell 0
  have cY_0_1 : _ = some (Value.slice a2 n2 c2) := Y_0.cell 1
  have cY_0_2 : _ = some (Value.slice b2 m2 d2) := Y_0.cell 2
  have cR0_0_0 : _ = some (Value.bool false) := R0_0.cell 0
  have fR0_0_0 := R0_0.free 0
  have cR0_0_1 : _ = some (Value.slice none 0 0) := R0_0.cell 1
  have fR0_0_1 := R0_0.free 1
  have cR0_0_2 : _ = some (Value.slice none 0 0) := R0_0.cell 2
  have fR0_0_2 := R0_0.free 2
  have hx_0 := hx.below hbel_0
  clear hx
  have hy_0 := hy.below hbel_0
  clear hy
  go_wp2_with fail
  refine (rqcmp hx_0 (by omega) hy_0 (by omega)).mono ?_
  rw [hch.out]
  rintro e w1 ⟨rfl, hB⟩
  have hB_1 : Below W0.heap.size W0 w1 := (bl.next hB)
  have X_1 := X_0.next hB_1
  have cX_1_0 : _ = some (Value.bool s) := X_1.cell 0
  have cX_1_1 : _ = some (Value.slice a1 n1 c1) := X_1.cell 1
  have cX_1_2 : _ = some (Value.slice b1 m1 d1) := X_1.cell 2
  have Y_1 := Y_0.next hB_1
  have cY_1_0 : _ = some (Value.bool t) := Y_1.cell 0
  have cY_1_1 : _ = some (Value.slice a2 n2 c2) := Y_1.cell 1
  have cY_1_2 : _ = some (Value.slice b2 m2 d2) := Y_1.cell 2
  have R0_1 := R0_0.next hB_1
  have cR0_1_0 : _ = some (Value.bool false) := R0_1.cell 0
  have fR0_1_0 := R0_1.free 0
  have cR0_1_1 : _ = some (Value.slice none 0 0) := R0_1.cell 1
  have fR0_1_1 := R0_1.free 1
  have cR0_1_2 : _ = some (Value.slice none 0 0) := R0_1.cell 2
  have fR0_1_2 := R0_1.free 2
  have hx_1 := hx_0.below hB_1
  have hy_1 := hy_0.below hB_1
  have hbel_1 := hbel_0.next hB_1
  have hsz_1 := hB_1.size
  clear X_0 cX_0_0 cX_0_1 cX_0_2 Y_0 cY_0_0 cY_0_1 cY_0_2 R0_0 cR0_0_0 fR0_0_0 cR0_0_1 fR0_0_1 cR0_0_2 fR0_0_2 hx_0 hy_0 hbel_0 hB_1
  try clear hB
  go_wp2
  refine bodyPost_ret (v := .tuple #[.agg #[.bool false, .slice none 0 0, .slice none 0 0], .int .i64 3]) (by simp [results, Tryz.results89, go_sem, cR0_1_0, cR0_1_1, cR0_1_2]) rfl ?_
  exact retqe_nil (by decide) hbel_1 (by omega)

set_option maxRecDepth 100000 in
set_option maxHeartbeats 8000000 in
theorem rqsimpP {w : World} {a1 b1 : Option Addr} {n1 c1 m1 d1 : Nat} {s : Bool} {x : Rat} {a2 b2 : Option Addr} {n2 c2 m2 d2 : Nat} {t : Bool} {y : Rat} {J : Nat} (hJ1 : 1 ≤ J) (hJ : J ≤ 200000) (hx : RdQ J w s a1 n1 c1 b1 m1 d1 x) (hy : RdQ J w t a2 n2 c2 b2 m2 d2 y) (h1 : x ≤ y) (h2 : 0 < x) :
    Calls Tryz.prog 89 #[.agg #[.bool s, .slice a1 n1 c1, .slice b1 m1 d1], .agg #[.bool t, .slice a2 n2 c2, .slice b2 m2 d2]] w (RetQE w (spl x y) 0) := by
  have hqx := hx.qs hJ1
  have hqy := hy.qs hJ1
  have hc : cmpQ x y ≤ 0 := by rcases cmpQ_cases x y with ⟨_, e⟩ | ⟨_, e⟩ | ⟨h, e⟩ <;> first | omega | exact absurd h1 (Rat.not_le.2 h)
  have hs1 : 0 < sgnQ x := by rcases sgnQ_cases x with ⟨h, e⟩ | ⟨h, e⟩ | ⟨h, e⟩ <;> first | omega | exact absurd h2 (Rat.not_lt.2 (Rat.le_of_lt h)) | (rw [h] at h2; exact absurd h2 Rat.lt_irrefl) | exact absurd h h2
  have h3 : ¬ y < 0 := fun e => absurd (rat_lt_le h2 h1) (Rat.not_lt.2 (Rat.le_of_lt e))
  have hs2 : 0 ≤ sgnQ y := by rcases sgnQ_cases y with ⟨h, e⟩ | ⟨h, e⟩ | ⟨h, e⟩ <;> first | omega | exact absurd h h3 | exact absurd h3 (Rat.not_lt.2 (Rat.le_of_lt h)) | (rw [h] at h3; exact absurd h3 Rat.lt_irrefl)
  have hin := hid (smpIn_of h2 h1)
  rw [spl_pos h2]
  obtain ⟨q, hq0⟩ : ∃ q, smp (x.den + y.den) x y = q := ⟨_, rfl⟩
  rw [hq0]
  have hq := hid hq0
  have HB := hid (@rqbtw J hJ1 hJ (x.den + y.den))
  clear hq0 h1 h2 h3
  obtain ⟨c, hc0⟩ : ∃ c, cmpQ x y = c := ⟨_, rfl⟩
  rw [hc0] at hc
  have hch := hid hc0
  clear hc0 hqx hqy
  obtain ⟨sx, hsx0⟩ : ∃ c, sgnQ x = c := ⟨_, rfl⟩
  rw [hsx0] at hs1
  have hsx := hid hsx0
  clear hsx0
  obtain ⟨sy, hsy0⟩ : ∃ c, sgnQ y = c := ⟨_, rfl⟩
  rw [hsy0] at hs2
  have hsy := hid hsy0
  clear hsy0
  have hent := ent3 w #[Value.bool s, Value.slice a1 n1 c1, Value.slice b1 m1 d1] #[Value.bool t, Value.slice a2 n2 c2, Value.slice b2 m2 d2] #[Value.bool false, Value.slice none 0 0, Value.slice none 0 0] 38 38 38
  go_enter Tryz.func89, Tryz.ntmps89
  go_wp2_with fail
  generalize (((w.alloc (.cells #[Value.bool s, Value.slice a1 n1 c1, Value.slice b1 m1 d1] 38)).alloc (.cells #[Value.bool t, Value.slice a2 n2 c2, Value.slice b2 m2 d2] 38)).alloc (.cells #[Value.bool false, Value.slice none 0 0, Value.slice none 0 0] 38)) = W0 at hent ⊢
  obtain ⟨X_0, Y_0, R0_0, hbel_0, hsz_0⟩ := hent
  have cX_0_0 : _ = some (Value.bool s) := X_0.cell 0
  have cX_0_1 : _ = some (Value.slice a1 n1 c1) := X_0.cell 1
  have cX_0_2 : _ = some (Value.slice b1 m1 d1) := X_0.cell 2
  have cY_0_0 : _ = some (Value.bool t) := Y_0.cell 0
  have cY_0_1 : _ = some (Value.slice a2 n2 c2) := Y_0.cell 1
  have cY_0_2 : _ = some (Value.slice b2 m2 d2) := Y_0.cell 2
  have cR0_0_0 : _ = some (Value.bool false) := R0_0.cell 0
  have fR0_0_0 := R0_0.free 0
  have cR0_0_1 : _ = some (Value.slice none 0 0) := R0_0.cell 1
  have fR0_0_1 := R0_0.free 1
  have cR0_0_2 : _ = some (Value.slice none 0 0) := R0_0.cell 2
  have fR0_0_2 := R0_0.free 2
  have hx_0 := hx.below hbel_0
  clear hx
  have hy_0 := hy.below hbel_0
  clear hy
  go_wp2_with fail
  refine (rqcmp hx_0 (by omega) hy_0 (by omega)).mono ?_
  rw [hch.out]
  rintro e w1 ⟨rfl, hB⟩
  have hB_1 : Below W0.heap.size W0 w1 := (bl.next hB)
  have X_1 := X_0.next hB_1
  have cX_1_0 : _ = some (Value.bool s) := X_1.cell 0
  have cX_1_1 : _ = some (Value.slice a1 n1 c1) := X_1.cell 1
  have cX_1_2 : _ = some (Value.slice b1 m1 d1) := X_1.cell 2
  have Y_1 := Y_0.next hB_1
  have cY_1_0 : _ = some (Value.bool t) := Y_1.cell 0
  have cY_1_1 : _ = some (Value.slice a2 n2 c2) := Y_1.cell 1
  have cY_1_2 : _ = some (Value.slice b2 m2 d2) := Y_1.cell 2
  have R0_1 := R0_0.next hB_1
  have cR0_1_0 : _ = some (Value.bool false) := R0_1.cell 0
  have fR0_1_0 := R0_1.free 0
  have cR0_1_1 : _ = some (Value.slice none 0 0) := R0_1.cell 1
  have fR0_1_1 := R0_1.free 1
  have cR0_1_2 : _ = some (Value.slice none 0 0) := R0_1.cell 2
  have fR0_1_2 := R0_1.free 2
  have hx_1 := hx_0.below hB_1
  have hy_1 := hy_0.below hB_1
  have hbel_1 := hbel_0.next hB_1
  have hsz_1 := hB_1.size
  clear X_0 cX_0_0 cX_0_1 cX_0_2 Y_0 cY_0_0 cY_0_1 cY_0_2 R0_0 cR0_0_0 fR0_0_0 cR0_0_1 fR0_0_1 cR0_0_2 fR0_0_2 hx_0 hy_0 hbel_0 hB_1
  try clear hB
  go_wp2_with fail
  refine (rqsign hx_1 (by omega)).mono ?_
  rw [hsx.out]
  rintro e w2 ⟨rfl, hB⟩
  have hB_2 : Below w1.heap.size w1 w2 := (bl.next hB)
  have X_2 := X_1.next hB_2
  have cX_2_0 : _ = some (Value.bool s) := X_2.cell 0
  have cX_2_1 : _ = some (Value.slice a1 n1 c1) := X_2.cell 1
  have cX_2_2 : _ = some (Value.slice b1 m1 d1) := X_2.cell 2
  have Y_2 := Y_1.next hB_2
  have cY_2_0 : _ = some (Value.bool t) := Y_2.cell 0
  have cY_2_1 : _ = some (Value.slice a2 n2 c2) := Y_2.cell 1
  have cY_2_2 : _ = some (Value.slice b2 m2 d2) := Y_2.cell 2
  have R0_2 := R0_1.next hB_2
  have cR0_2_0 : _ = some (Value.bool false) := R0_2.cell 0
  have fR0_2_0 := R0_2.free 0
  have cR0_2_1 : _ = some (Value.slice none 0 0) := R0_2.cell 1
  have fR0_2_1 := R0_2.free 1
  have cR0_2_2 : _ = some (Value.slice none 0 0) := R0_2.cell 2
  have fR0_2_2 := R0_2.free 2
  have hx_2 := hx_1.below hB_2
  have hy_2 := hy_1.below hB_2
  have hbel_2 := hbel_1.next hB_2
  have hsz_2 := hB_2.size
  clear X_1 cX_1_0 cX_1_1 cX_1_2 Y_1 cY_1_0 cY_1_1 cY_1_2 R0_1 cR0_1_0 fR0_1_0 cR0_1_1 fR0_1_1 cR0_1_2 fR0_1_2 hx_1 hy_1 hbel_1 hB_2
  try clear hB
  go_wp2_with fail
  refine (rqsign hy_2 (by omega)).mono ?_
  rw [hsy.out]
  rintro e w3 ⟨rfl, hB⟩
  have hB_3 : Below w2.heap.size w2 w3 := (bl.next hB)
  have X_3 := X_2.next hB_3
  have cX_3_0 : _ = some (Value.bool s) := X_3.cell 0
  have cX_3_1 : _ = some (Value.slice a1 n1 c1) := X_3.cell 1
  have cX_3_2 : _ = some (Value.slice b1 m1 d1) := X_3.cell 2
  have Y_3 := Y_2.next hB_3
  have cY_3_0 : _ = some (Value.bool t) := Y_3.cell 0
  have cY_3_1 : _ = some (Value.slice a2 n2 c2) := Y_3.cell 1
  have cY_3_2 : _ = some (Value.slice b2 m2 d2) := Y_3.cell 2
  have R0_3 := R0_2.next hB_3
  have cR0_3_0 : _ = some (Value.bool false) := R0_3.cell 0
  have fR0_3_0 := R0_3.free 0
  have cR0_3_1 : _ = some (Value.slice none 0 0) := R0_3.cell 1
  have fR0_3_1 := R0_3.free 1
  have cR0_3_2 : _ = some (Value.slice none 0 0) := R0_3.cell 2
  have fR0_3_2 := R0_3.free 2
  have hx_3 := hx_2.below hB_3
  have hy_3 := hy_2.below hB_3
  have hbel_3 := hbel_2.next hB_3
  have hsz_3 := hB_3.size
  clear X_2 cX_2_0 cX_2_1 cX_2_2 Y_2 cY_2_0 cY_2_1 cY_2_2 R0_2 cR0_2_0 fR0_2_0 cR0_2_1 fR0_2_1 cR0_2_2 fR0_2_2 hx_2 hy_2 hbel_2 hB_3
  try clear hB
  go_wp2_with fail
  refine (HB.out.go hin.out (Nat.le_refl _) hx_3 hy_3).mono ?_
  rw [hq.out]
  rintro e w4 ⟨qa, qn, qc, qb, qm, qd, rfl, hO, hO', hDq, hB⟩
  have hB_4 : Below w3.heap.size w3 w4 := (bl.next hB)
  have X_4 := X_3.next hB_4
  have cX_4_0 : _ = some (Value.bool s) := X_4.cell 0
  have cX_4_1 : _ = some (Value.slice a1 n1 c1) := X_4.cell 1
  have cX_4_2 : _ = some (Value.slice b1 m1 d1) := X_4.cell 2
  have Y_4 := Y_3.next hB_4
  have cY_4_0 : _ = some (Value.bool t) := Y_4.cell 0
  have cY_4_1 : _ = some (Value.slice a2 n2 c2) := Y_4.cell 1
  have cY_4_2 : _ = some (Value.slice b2 m2 d2) := Y_4.cell 2
  have R0_4 := R0_3.next hB_4
  have cR0_4_0 : _ = some (Value.bool false) := R0_4.cell 0
  have fR0_4_0 := R0_4.free 0
  have cR0_4_1 : _ = some (Value.slice none 0 0) := R0_4.cell 1
  have fR0_4_1 := R0_4.free 1
  have cR0_4_2 : _ = some (Value.slice none 0 0) := R0_4.cell 2
  have fR0_4_2 := R0_4.free 2
  have hx_4 := hx_3.below hB_4
  have hy_4 := hy_3.below hB_4
  have hbel_4 := hbel_3.next hB_4
  have hsz_4 := hB_4.size
  clear X_3 cX_3_0 cX_3_1 cX_3_2 Y_3 cY_3_0 cY_3_1 cY_3_2 R0_3 cR0_3_0 fR0_3_0 cR0_3_1 fR0_3_1 cR0_3_2 fR0_3_2 hx_3 hy_3 hbel_3 hB_4
  have Oq_4 := hO
  have ltOq := hO.ltB
  have Pq_4 := hO'
  have ltPq := hO'.ltB
  clear hO hO'
  try clear hB
  go_wp2
  refine bodyPost_ret (v := .tuple #[.agg #[.bool (decide ((q : Rat).num < 0)), .slice qa qn qc, .slice qb qm qd], .int .i64 0]) (by simp [results, Tryz.results89, go_sem, cR0_4_0, cR0_4_1, cR0_4_2]) rfl ?_
  exact retqe_set (er := 0) Oq_4 Pq_4 hDq hbel_4 (by omega) (by omega)

set_option maxRecDepth 100000 in
set_option maxHeartbeats 8000000 in
theorem rqsimpN {w : World} {a1 b1 : Option Addr} {n1 c1 m1 d1 : Nat} {s : Bool} {x : Rat} {a2 b2 : Option Addr} {n2 c2 m2 d2 : Nat} {t : Bool} {y : Rat} {J : Nat} (hJ1 : 1 ≤ J) (hJ : J ≤ 200000) (hx : RdQ J w s a1 n1 c1 b1 m1 d1 x) (hy : RdQ J w t a2 n2 c2 b2 m2 d2 y) (h1 : x ≤ y) (h2 : ¬ 0 < x) (h3 : y < 0) :
    Calls Tryz.prog 89 #[.agg #[.bool s, .slice a1 n1 c1, .slice b1 m1 d1], .agg #[.bool t, .slice a2 n2 c2, .slice b2 m2 d2]] w (RetQE w (spl x y) 0) := by
  have hqx := hx.qs hJ1
  have hqy := hy.qs hJ1
  have hc : cmpQ x y ≤ 0 := by rcases cmpQ_cases x y with ⟨_, e⟩ | ⟨_, e⟩ | ⟨h, e⟩ <;> first | omega | exact absurd h1 (Rat.not_le.2 h)
  have hs1 : sgnQ x ≤ 0 := by rcases sgnQ_cases x with ⟨h, e⟩ | ⟨h, e⟩ | ⟨h, e⟩ <;> first | omega | exact absurd h2 (Rat.not_lt.2 (Rat.le_of_lt h)) | (rw [h] at h2; exact absurd h2 Rat.lt_irrefl) | exact absurd h h2
  have hs2 : sgnQ y < 0 := by rcases sgnQ_cases y with ⟨h, e⟩ | ⟨h, e⟩ | ⟨h, e⟩ <;> first | omega | exact absurd h h3 | exact absurd h3 (Rat.not_lt.2 (Rat.le_of_lt h)) | (rw [h] at h3; exact absurd h3 Rat.lt_irrefl)
  have hle := hid (Rat.neg_le_neg h1)
  have hpos := hid (neg_pos' h3)
  have hspl := hid (spl_pos (b := -x) (neg_pos' h3))
  have hqs := hid (smp_qs (smpIn_of (neg_pos' h3) (Rat.neg_le_neg h1)) (show (-y).den + (-x).den ≤ (-y).den + (-x).den from Nat.le_refl _) hqy.neg)
  have q1 := hid hqy.neg
  have q2 := hid hqx.neg
  rw [spl_neg h2 h3, show y.den + x.den = (-y).den + (-x).den by simp]
  generalize hu0 : -y = u at *
  generalize hv0 : -x = v at *
  have hu := hid hu0
  have hv := hid hv0
  generalize hq0 : smp (u.den + v.den) u v = q at *
  clear hq0 hu0 hv0 h1 h2 h3
  obtain ⟨r, hr0⟩ : ∃ r, -q = r := ⟨_, rfl⟩
  rw [hr0]
  have hr := hid hr0
  clear hr0
  obtain ⟨c, hc0⟩ : ∃ c, cmpQ x y = c := ⟨_, rfl⟩
  rw [hc0] at hc
  have hch := hid hc0
  clear hc0 hqx hqy
  obtain ⟨sx, hsx0⟩ : ∃ c, sgnQ x = c := ⟨_, rfl⟩
  rw [hsx0] at hs1
  have hsx := hid hsx0
  clear hsx0
  obtain ⟨sy, hsy0⟩ : ∃ c, sgnQ y = c := ⟨_, rfl⟩
  rw [hsy0] at hs2
  have hsy := hid hsy0
  clear hsy0
  have hent := ent3 w #[Value.bool s, Value.slice a1 n1 c1, Value.slice b1 m1 d1] #[Value.bool t, Value.slice a2 n2 c2, Value.slice b2 m2 d2] #[Value.bool false, Value.slice none 0 0, Value.slice none 0 0] 38 38 38
  go_enter Tryz.func89, Tryz.ntmps89
  go_wp2_with fail
  generalize (((w.alloc (.cells #[Value.bool s, Value.slice a1 n1 c1, Value.slice b1 m1 d1] 38)).alloc (.cells #[Value.bool t, Value.slice a2 n2 c2, Value.slice b2 m2 d2] 38)).alloc (.cells #[Value.bool false, Value.slice none 0 0, Value.slice none 0 0] 38)) = W0 at hent ⊢
  obtain ⟨X_0, Y_0, R0_0, hbel_0, hsz_0⟩ := hent
  have cX_0_0 : _ = some (Value.bool s) := X_0.cell 0
  have cX_0_1 : _ = some (Value.slice a1 n1 c1) := X_0.cell 1
  have cX_0_2 : _ = some (Value.slice b1 m1 d1) := X_0.cell 2
  have cY_0_0 : _ = some (Value.bool t) := Y_0.cell 0
  have cY_0_1 : _ = some (Value.slice a2 n2 c2) := Y_0.cell 1
  have cY_0_2 : _ = some (Value.slice b2 m2 d2) := Y_0.cell 2
  have cR0_0_0 : _ = some (Value.bool false) := R0_0.cell 0
  have fR0_0_0 := R0_0.free 0
  have cR0_0_1 : _ = some (Value.slice none 0 0) := R0_0.cell 1
  have fR0_0_1 := R0_0.free 1
  have cR0_0_2 : _ = some (Value.slice none 0 0) := R0_0.cell 2
  have fR0_0_2 := R0_0.free 2
  have hx_0 := hx.below hbel_0
  clear hx
  have hy_0 := hy.below hbel_0
  clear hy
  go_wp2_with fail
  refine (rqcmp hx_0 (by omega) hy_0 (by omega)).mono ?_
  rw [hch.out]
  rintro e w1 ⟨rfl, hB⟩
  have hB_1 : Below W0.heap.size W0 w1 := (bl.next hB)
  have X_1 := X_0.next hB_1
  have cX_1_0 : _ = some (Value.bool s) := X_1.cell 0
  have cX_1_1 : _ = some (Value.slice a1 n1 c1) := X_1.cell 1
  have cX_1_2 : _ = some (Value.slice b1 m1 d1) := X_1.cell 2
  have Y_1 := Y_0.next hB_1
  have cY_1_0 : _ = some (Value.bool t) := Y_1.cell 0
  have cY_1_1 : _ = some (Value.slice a2 n2 c2) := Y_1.cell 1
  have cY_1_2 : _ = some (Value.slice b2 m2 d2) := Y_1.cell 2
  have R0_1 := R0_0.next hB_1
  have cR0_1_0 : _ = some (Value.bool false) := R0_1.cell 0
  have fR0_1_0 := R0_1.free 0
  have cR0_1_1 : _ = some (Value.slice none 0 0) := R0_1.cell 1
  have fR0_1_1 := R0_1.free 1
  have cR0_1_2 : _ = some (Value.slice none 0 0) := R0_1.cell 2
  have fR0_1_2 := R0_1.free 2
  have hx_1 := hx_0.below hB_1
  have hy_1 := hy_0.below hB_1
  have hbel_1 := hbel_0.next hB_1
  have hsz_1 := hB_1.size
  clear X_0 cX_0_0 cX_0_1 cX_0_2 Y_0 cY_0_0 cY_0_1 cY_0_2 R0_0 cR0_0_0 fR0_0_0 cR0_0_1 fR0_0_1 cR0_0_2 fR0_0_2 hx_0 hy_0 hbel_0 hB_1
  try clear hB
  go_wp2_with fail
  refine (rqsign hx_1 (by omega)).mono ?_
  rw [hsx.out]
  rintro e w2 ⟨rfl, hB⟩
  have hB_2 : Below w1.heap.size w1 w2 := (bl.next hB)
  have X_2 := X_1.next hB_2
  have cX_2_0 : _ = some (Value.bool s) := X_2.cell 0
  have cX_2_1 : _ = some (Value.slice a1 n1 c1) := X_2.cell 1
  have cX_2_2 : _ = some (Value.slice b1 m1 d1) := X_2.cell 2
  have Y_2 := Y_1.next hB_2
  have cY_2_0 : _ = some (Value.bool t) := Y_2.cell 0
  have cY_2_1 : _ = some (Value.slice a2 n2 c2) := Y_2.cell 1
  have cY_2_2 : _ = some (Value.slice b2 m2 d2) := Y_2.cell 2
  have R0_2 := R0_1.next hB_2
  have cR0_2_0 : _ = some (Value.bool false) := R0_2.cell 0
  have fR0_2_0 := R0_2.free 0
  have cR0_2_1 : _ = some (Value.slice none 0 0) := R0_2.cell 1
  have fR0_2_1 := R0_2.free 1
  have cR0_2_2 : _ = some (Value.slice none 0 0) := R0_2.cell 2
  have fR0_2_2 := R0_2.free 2
  have hx_2 := hx_1.below hB_2
  have hy_2 := hy_1.below hB_2
  have hbel_2 := hbel_1.next hB_2
  have hsz_2 := hB_2.size
  clear X_1 cX_1_0 cX_1_1 cX_1_2 Y_1 cY_1_0 cY_1_1 cY_1_2 R0_1 cR0_1_0 fR0_1_0 cR0_1_1 fR0_1_1 cR0_1_2 fR0_1_2 hx_1 hy_1 hbel_1 hB_2
  try clear hB
  go_wp2_with fail
  refine (rqsign hy_2 (by omega)).mono ?_
  rw [hsy.out]
  rintro e w3 ⟨rfl, hB⟩
  have hB_3 : Below w2.heap.size w2 w3 := (bl.next hB)
  have X_3 := X_2.next hB_3
  have cX_3_0 : _ = some (Value.bool s) := X_3.cell 0
  have cX_3_1 : _ = some (Value.slice a1 n1 c1) := X_3.cell 1
  have cX_3_2 : _ = some (Value.slice b1 m1 d1) := X_3.cell 2
  have Y_3 := Y_2.next hB_3
  have cY_3_0 : _ = some (Value.bool t) := Y_3.cell 0
  have cY_3_1 : _ = some (Value.slice a2 n2 c2) := Y_3.cell 1
  have cY_3_2 : _ = some (Value.slice b2 m2 d2) := Y_3.cell 2
  have R0_3 := R0_2.next hB_3
  have cR0_3_0 : _ = some (Value.bool false) := R0_3.cell 0
  have fR0_3_0 := R0_3.free 0
  have cR0_3_1 : _ = some (Value.slice none 0 0) := R0_3.cell 1
  have fR0_3_1 := R0_3.free 1
  have cR0_3_2 : _ = some (Value.slice none 0 0) := R0_3.cell 2
  have fR0_3_2 := R0_3.free 2
  have hx_3 := hx_2.below hB_3
  have hy_3 := hy_2.below hB_3
  have hbel_3 := hbel_2.next hB_3
  have hsz_3 := hB_3.size
  clear X_2 cX_2_0 cX_2_1 cX_2_2 Y_2 cY_2_0 cY_2_1 cY_2_2 R0_2 cR0_2_0 fR0_2_0 cR0_2_1 fR0_2_1 cR0_2_2 fR0_2_2 hx_2 hy_2 hbel_2 hB_3
  try clear hB
  go_wp2_with fail
  refine (rqsign hy_3 (by omega)).mono ?_
  rw [hsy.out]
  rintro e w4 ⟨rfl, hB⟩
  have hB_4 : Below w3.heap.size w3 w4 := (bl.next hB)
  have X_4 := X_3.next hB_4
  have cX_4_0 : _ = some (Value.bool s) := X_4.cell 0
  have cX_4_1 : _ = some (Value.slice a1 n1 c1) := X_4.cell 1
  have cX_4_2 : _ = some (Value.slice b1 m1 d1) := X_4.cell 2
  have Y_4 := Y_3.next hB_4
  have cY_4_0 : _ = some (Value.bool t) := Y_4.cell 0
  have cY_4_1 : _ = some (Value.slice a2 n2 c2) := Y_4.cell 1
  have cY_4_2 : _ = some (Value.slice b2 m2 d2) := Y_4.cell 2
  have R0_4 := R0_3.next hB_4
  have cR0_4_0 : _ = some (Value.bool false) := R0_4.cell 0
  have fR0_4_0 := R0_4.free 0
  have cR0_4_1 : _ = some (Value.slice none 0 0) := R0_4.cell 1
  have fR0_4_1 := R0_4.free 1
  have cR0_4_2 : _ = some (Value.slice none 0 0) := R0_4.cell 2
  have fR0_4_2 := R0_4.free 2
  have hx_4 := hx_3.below hB_4
  have hy_4 := hy_3.below hB_4
  have hbel_4 := hbel_3.next hB_4
  have hsz_4 := hB_4.size
  clear X_3 cX_3_0 cX_3_1 cX_3_2 Y_3 cY_3_0 cY_3_1 cY_3_2 R0_3 cR0_3_0 fR0_3_0 cR0_3_1 fR0_3_1 cR0_3_2 fR0_3_2 hx_3 hy_3 hbel_3 hB_4
  try clear hB
  go_wp2_with fail
  go_cut [6, 7] (fun s6 s7 wx => BoxQ w4 (q) s6 wx ∧ s7 = .int .i64 0)
  case first =>
    have acc_4 : Below w4.heap.size w4 w4 := Below.refl _ _
    go_wp2_with fail
    go_region_held3 (fun w' => w'.cell? ⟨w.heap.size, 0, none⟩ = some (Value.bool s) ∧ w'.cell? ⟨w.heap.size, 1, none⟩ = some (Value.slice a1 n1 c1) ∧ w'.cell? ⟨w.heap.size, 2, none⟩ = some (Value.slice b1 m1 d1) ∧ w'.cell? ⟨w.heap.size + 1, 0, none⟩ = some (Value.bool t) ∧ w'.cell? ⟨w.heap.size + 1, 1, none⟩ = some (Value.slice a2 n2 c2) ∧ w'.cell? ⟨w.heap.size + 1, 2, none⟩ = some (Value.slice b2 m2 d2))
      (first | exact ⟨cX_4_0, cX_4_1, cX_4_2, cY_4_0, cY_4_1, cY_4_2⟩ | exact ⟨cX_5_0, cX_5_1, cX_5_2, cY_5_0, cY_5_1, cY_5_2⟩ | exact ⟨cX_6_0, cX_6_1, cX_6_2, cY_6_0, cY_6_1, cY_6_2⟩ | exact ⟨cX_7_0, cX_7_1, cX_7_2, cY_7_0, cY_7_1, cY_7_2⟩ | exact ⟨(cell_set3 (by omega) _ _ _).trans (cX_7_0), (cell_set3 (by omega) _ _ _).trans (cX_7_1), (cell_set3 (by omega) _ _ _).trans (cX_7_2), (cell_set3 (by omega) _ _ _).trans (cY_7_0), (cell_set3 (by omega) _ _ _).trans (cY_7_1), (cell_set3 (by omega) _ _ _).trans (cY_7_2)⟩ | exact ⟨(X_4.alloc _).cell 0, (X_4.alloc _).cell 1, (X_4.alloc _).cell 2, (Y_4.alloc _).cell 0, (Y_4.alloc _).cell 1, (Y_4.alloc _).cell 2⟩ | exact ⟨(X_5.alloc _).cell 0, (X_5.alloc _).cell 1, (X_5.alloc _).cell 2, (Y_5.alloc _).cell 0, (Y_5.alloc _).cell 1, (Y_5.alloc _).cell 2⟩ | exact ⟨(X_6.alloc _).cell 0, (X_6.alloc _).cell 1, (X_6.alloc _).cell 2, (Y_6.alloc _).cell 0, (Y_6.alloc _).cell 1, (Y_6.alloc _).cell 2⟩ | exact ⟨(X_7.alloc _).cell 0, (X_7.alloc _).cell 1, (X_7.alloc _).cell 2, (Y_7.alloc _).cell 0, (Y_7.alloc _).cell 1, (Y_7.alloc _).cell 2⟩ | go_keep)
      (first
        | (go_at_call 136; ((with_reducible refine (rqneg (hy_4.below bl) (by omega)).mono ?_); (rw [hu.out]; rintro e w5 ⟨ua, un, uc, ub, um, ud, rfl, hO, hO', hDu, hB⟩; have hB_5 : Below w4.heap.size w4 w5 := (bl.next hB); have X_5 := X_4.next hB_5; have cX_5_0 : _ = some (Value.bool s) := X_5.cell 0; have cX_5_1 : _ = some (Value.slice a1 n1 c1) := X_5.cell 1; have cX_5_2 : _ = some (Value.slice b1 m1 d1) := X_5.cell 2; have Y_5 := Y_4.next hB_5; have cY_5_0 : _ = some (Value.bool t) := Y_5.cell 0; have cY_5_1 : _ = some (Value.slice a2 n2 c2) := Y_5.cell 1; have cY_5_2 : _ = some (Value.slice b2 m2 d2) := Y_5.cell 2; have R0_5 := R0_4.next hB_5; have cR0_5_0 : _ = some (Value.bool false) := R0_5.cell 0; have fR0_5_0 := R0_5.free 0; have cR0_5_1 : _ = some (Value.slice none 0 0) := R0_5.cell 1; have fR0_5_1 := R0_5.free 1; have cR0_5_2 : _ = some (Value.slice none 0 0) := R0_5.cell 2; have fR0_5_2 := R0_5.free 2; have hx_5 := hx_4.below hB_5; have hy_5 := hy_4.below hB_5; have hbel_5 := hbel_4.next hB_5; have hsz_5 := hB_5.size; clear X_4 cX_4_0 cX_4_1 cX_4_2 Y_4 cY_4_0 cY_4_1 cY_4_2 R0_4 cR0_4_0 fR0_4_0 cR0_4_1 fR0_4_1 cR0_4_2 fR0_4_2 hx_4 hy_4 hbel_4 hB_5; have acc_5 := acc_4.next (show Below _ _ _ from (bl.next hB)); (first | (have A := A.next (show Below _ _ _ from (bl.next hB)); have ltA := A.lt; have cA0 : _ = some (Value.bool false) := A.cell 0; have fA0 := A.free 0; have cA1 : _ = some (Value.slice none 0 0) := A.cell 1; have fA1 := A.free 1; have cA2 : _ = some (Value.slice none 0 0) := A.cell 2; have fA2 := A.free 2) | (have A := (blk_new' _ #[Value.bool false, Value.slice none 0 0, Value.slice none 0 0] 38 (g := w4.heap.size) rfl).next (by first | exact hB | exact below_drew hB); have ltA := A.lt; have cA0 : _ = some (Value.bool false) := A.cell 0; have fA0 := A.free 0; have cA1 : _ = some (Value.slice none 0 0) := A.cell 1; have fA1 := A.free 1; have cA2 : _ = some (Value.slice none 0 0) := A.cell 2; have fA2 := A.free 2) | skip); have QU_5 := hO.rdQ hO' q1.out; clear hO hO'; try clear hB)))
        | (go_at_call 136; ((with_reducible refine (rqneg (hx_5.below bl) (by omega)).mono ?_); (rw [hv.out]; rintro e w6 ⟨va, vn, vc, vb, vm, vd, rfl, hO, hO', hDv, hB⟩; have hB_6 : Below w5.heap.size w5 w6 := (bl.next hB); have X_6 := X_5.next hB_6; have cX_6_0 : _ = some (Value.bool s) := X_6.cell 0; have cX_6_1 : _ = some (Value.slice a1 n1 c1) := X_6.cell 1; have cX_6_2 : _ = some (Value.slice b1 m1 d1) := X_6.cell 2; have Y_6 := Y_5.next hB_6; have cY_6_0 : _ = some (Value.bool t) := Y_6.cell 0; have cY_6_1 : _ = some (Value.slice a2 n2 c2) := Y_6.cell 1; have cY_6_2 : _ = some (Value.slice b2 m2 d2) := Y_6.cell 2; have R0_6 := R0_5.next hB_6; have cR0_6_0 : _ = some (Value.bool false) := R0_6.cell 0; have fR0_6_0 := R0_6.free 0; have cR0_6_1 : _ = some (Value.slice none 0 0) := R0_6.cell 1; have fR0_6_1 := R0_6.free 1; have cR0_6_2 : _ = some (Value.slice none 0 0) := R0_6.cell 2; have fR0_6_2 := R0_6.free 2; have hx_6 := hx_5.below hB_6; have hy_6 := hy_5.below hB_6; have QU_6 := QU_5.below hB_6; have hbel_6 := hbel_5.next hB_6; have hsz_6 := hB_6.size; clear X_5 cX_5_0 cX_5_1 cX_5_2 Y_5 cY_5_0 cY_5_1 cY_5_2 R0_5 cR0_5_0 fR0_5_0 cR0_5_1 fR0_5_1 cR0_5_2 fR0_5_2 hx_5 hy_5 QU_5 hbel_5 hB_6; have acc_6 := acc_5.next (show Below _ _ _ from (bl.next hB)); (first | (have A := A.next (show Below _ _ _ from (bl.next hB)); have ltA := A.lt; have cA0 : _ = some (Value.bool false) := A.cell 0; have fA0 := A.free 0; have cA1 : _ = some (Value.slice none 0 0) := A.cell 1; have fA1 := A.free 1; have cA2 : _ = some (Value.slice none 0 0) := A.cell 2; have fA2 := A.free 2) | (have A := (blk_new' _ #[Value.bool false, Value.slice none 0 0, Value.slice none 0 0] 38 (g := w5.heap.size) rfl).next (by first | exact hB | exact below_drew hB); have ltA := A.lt; have cA0 : _ = some (Value.bool false) := A.cell 0; have fA0 := A.free 0; have cA1 : _ = some (Value.slice none 0 0) := A.cell 1; have fA1 := A.free 1; have cA2 : _ = some (Value.slice none 0 0) := A.cell 2; have fA2 := A.free 2) | skip); have QV_6 := hO.rdQ hO' q2.out; clear hO hO'; try clear hB)))
        | (go_at_call 89; ((with_reducible refine (rqsimpP hJ1 hJ (QU_6.below bl) (QV_6.below bl) hle.out hpos.out).mono ?_); (rw [hspl.out, rretqe_k _ rfl]; rintro e w7 ⟨qa, qn, qc, qb, qm, qd, rfl, hO, hO', hDq, hB⟩; have hB_7 : Below w6.heap.size w6 w7 := (bl.next hB); have X_7 := X_6.next hB_7; have cX_7_0 : _ = some (Value.bool s) := X_7.cell 0; have cX_7_1 : _ = some (Value.slice a1 n1 c1) := X_7.cell 1; have cX_7_2 : _ = some (Value.slice b1 m1 d1) := X_7.cell 2; have Y_7 := Y_6.next hB_7; have cY_7_0 : _ = some (Value.bool t) := Y_7.cell 0; have cY_7_1 : _ = some (Value.slice a2 n2 c2) := Y_7.cell 1; have cY_7_2 : _ = some (Value.slice b2 m2 d2) := Y_7.cell 2; have R0_7 := R0_6.next hB_7; have cR0_7_0 : _ = some (Value.bool false) := R0_7.cell 0; have fR0_7_0 := R0_7.free 0; have cR0_7_1 : _ = some (Value.slice none 0 0) := R0_7.cell 1; have fR0_7_1 := R0_7.free 1; have cR0_7_2 : _ = some (Value.slice none 0 0) := R0_7.cell 2; have fR0_7_2 := R0_7.free 2; have hx_7 := hx_6.below hB_7; have hy_7 := hy_6.below hB_7; have QU_7 := QU_6.below hB_7; have QV_7 := QV_6.below hB_7; have hbel_7 := hbel_6.next hB_7; have hsz_7 := hB_7.size; clear X_6 cX_6_0 cX_6_1 cX_6_2 Y_6 cY_6_0 cY_6_1 cY_6_2 R0_6 cR0_6_0 fR0_6_0 cR0_6_1 fR0_6_1 cR0_6_2 fR0_6_2 hx_6 hy_6 QU_6 QV_6 hbel_6 hB_7; have acc_7 := acc_6.next (show Below _ _ _ from (bl.next hB)); (first | (have A := A.next (show Below _ _ _ from (bl.next hB)); have ltA := A.lt; have cA0 : _ = some (Value.bool false) := A.cell 0; have fA0 := A.free 0; have cA1 : _ = some (Value.slice none 0 0) := A.cell 1; have fA1 := A.free 1; have cA2 : _ = some (Value.slice none 0 0) := A.cell 2; have fA2 := A.free 2) | (have A := (blk_new' _ #[Value.bool false, Value.slice none 0 0, Value.slice none 0 0] 38 (g := w6.heap.size) rfl).next (by first | exact hB | exact below_drew hB); have ltA := A.lt; have cA0 : _ = some (Value.bool false) := A.cell 0; have fA0 := A.free 0; have cA1 : _ = some (Value.slice none 0 0) := A.cell 1; have fA1 := A.free 1; have cA2 : _ = some (Value.slice none 0 0) := A.cell 2; have fA2 := A.free 2) | skip); try clear hB))))
    all_goals (go_wp2_with fail; go_meet; first | exact ⟨boxQ_new hO hO' (by first | omega | (simp; omega) | simp) acc_7, rfl⟩ | exact ⟨boxQ_set A hO hO' (by first | omega | (simp; omega) | simp) (by first | omega | (simp; omega) | simp) acc_7, rfl⟩)
  case rest =>
    obtain ⟨hcut, rfl⟩ := hcut
    obtain ⟨gA, Aa, An, Ac, Ab, Am, Ad, rfl, hbk, hgeA, hO, hO', awA, awA', hBc⟩ := hcut
    have hB_5 : Below w4.heap.size w4 wc := hBc
    have X_5 := X_4.next hB_5
    have cX_5_0 : _ = some (Value.bool s) := X_5.cell 0
    have cX_5_1 : _ = some (Value.slice a1 n1 c1) := X_5.cell 1
    have cX_5_2 : _ = some (Value.slice b1 m1 d1) := X_5.cell 2
    have Y_5 := Y_4.next hB_5
    have cY_5_0 : _ = some (Value.bool t) := Y_5.cell 0
    have cY_5_1 : _ = some (Value.slice a2 n2 c2) := Y_5.cell 1
    have cY_5_2 : _ = some (Value.slice b2 m2 d2) := Y_5.cell 2
    have R0_5 := R0_4.next hB_5
    have cR0_5_0 : _ = some (Value.bool false) := R0_5.cell 0
    have fR0_5_0 := R0_5.free 0
    have cR0_5_1 : _ = some (Value.slice none 0 0) := R0_5.cell 1
    have fR0_5_1 := R0_5.free 1
    have cR0_5_2 : _ = some (Value.slice none 0 0) := R0_5.cell 2
    have fR0_5_2 := R0_5.free 2
    have hx_5 := hx_4.below hB_5
    have hy_5 := hy_4.below hB_5
    have hbel_5 := hbel_4.next hB_5
    have hsz_5 := hB_5.size
    clear X_4 cX_4_0 cX_4_1 cX_4_2 Y_4 cY_4_0 cY_4_1 cY_4_2 R0_4 cR0_4_0 fR0_4_0 cR0_4_1 fR0_4_1 cR0_4_2 fR0_4_2 hx_4 hy_4 hbel_4 hB_5
    clear hBc
    obtain ⟨wc5, hwc⟩ : ∃ x : World, x = wc := ⟨_, rfl⟩
    subst hwc
    have A_5 := hbk
    have hltA := hbk.lt
    clear hbk
    have cA_5_0 : _ = some (Value.bool (decide ((q).num < 0))) := A_5.cell 0
    have cA_5_1 : _ = some (Value.slice Aa An Ac) := A_5.cell 1
    have cA_5_2 : _ = some (Value.slice Ab Am Ad) := A_5.cell 2
    have OA_5 := hO
    have ltOA := hO.ltB
    clear hO
    have OA'_5 := hO'
    have ltOA' := hO'.ltB
    clear hO'
    have QA_5 := OA_5.rdQ OA'_5 hqs.out
    clear OA_5
    clear OA'_5
    go_wp2_with fail
    refine (rqneg QA_5 (by omega)).mono ?_
    rw [hr.out]
    rintro e w6 ⟨qa, qn, qc, qb, qm, qd, rfl, hO, hO', hDq, hB⟩
    have hB_6 : Below wc5.heap.size wc5 w6 := (bl.next hB)
    have X_6 := X_5.next hB_6
    have cX_6_0 : _ = some (Value.bool s) := X_6.cell 0
    have cX_6_1 : _ = some (Value.slice a1 n1 c1) := X_6.cell 1
    have cX_6_2 : _ = some (Value.slice b1 m1 d1) := X_6.cell 2
    have Y_6 := Y_5.next hB_6
    have cY_6_0 : _ = some (Value.bool t) := Y_6.cell 0
    have cY_6_1 : _ = some (Value.slice a2 n2 c2) := Y_6.cell 1
    have cY_6_2 : _ = some (Value.slice b2 m2 d2) := Y_6.cell 2
    have R0_6 := R0_5.next hB_6
    have cR0_6_0 : _ = some (Value.bool false) := R0_6.cell 0
    have fR0_6_0 := R0_6.free 0
    have cR0_6_1 : _ = some (Value.slice none 0 0) := R0_6.cell 1
    have fR0_6_1 := R0_6.free 1
    have cR0_6_2 : _ = some (Value.slice none 0 0) := R0_6.cell 2
    have fR0_6_2 := R0_6.free 2
    have A_6 := A_5.next hB_6
    have cA_6_0 : _ = some (Value.bool (decide ((q).num < 0))) := A_6.cell 0
    have cA_6_1 : _ = some (Value.slice Aa An Ac) := A_6.cell 1
    have cA_6_2 : _ = some (Value.slice Ab Am Ad) := A_6.cell 2
    have hx_6 := hx_5.below hB_6
    have hy_6 := hy_5.below hB_6
    have QA_6 := QA_5.below hB_6
    have hbel_6 := hbel_5.next hB_6
    have hsz_6 := hB_6.size
    clear X_5 cX_5_0 cX_5_1 cX_5_2 Y_5 cY_5_0 cY_5_1 cY_5_2 R0_5 cR0_5_0 fR0_5_0 cR0_5_1 fR0_5_1 cR0_5_2 fR0_5_2 A_5 cA_5_0 cA_5_1 cA_5_2 hx_5 hy_5 QA_5 hbel_5 hB_6
    have Oq_6 := hO
    have ltOq := hO.ltB
    have Pq_6 := hO'
    have ltPq := hO'.ltB
    clear hO hO'
    try clear hB
    go_wp2
    refine bodyPost_ret (v := .tuple #[.agg #[.bool (decide ((r : Rat).num < 0)), .slice qa qn qc, .slice qb qm qd], .int .i64 0]) (by simp [results, Tryz.results89, go_sem, cR0_6_0, cR0_6_1, cR0_6_2]) rfl ?_
    exact retqe_set (er := 0) Oq_6 Pq_6 hDq hbel_6 (by omega) (by omega)

set_option maxRecDepth 100000 in
set_option maxHeartbeats 8000000 in
theorem rqsimpZ {w : World} {a1 b1 : Option Addr} {n1 c1 m1 d1 : Nat} {s : Bool} {x : Rat} {a2 b2 : Option Addr} {n2 c2 m2 d2 : Nat} {t : Bool} {y : Rat} {J : Nat} (hJ1 : 1 ≤ J) (hJ : J ≤ 200000) (hx : RdQ J w s a1 n1 c1 b1 m1 d1 x) (hy : RdQ J w t a2 n2 c2 b2 m2 d2 y) (h1 : x ≤ y) (h2 : ¬ 0 < x) (h3 : ¬ y < 0) :
    Calls Tryz.prog 89 #[.agg #[.bool s, .slice a1 n1 c1, .slice b1 m1 d1], .agg #[.bool t, .slice a2 n2 c2, .slice b2 m2 d2]] w (RetQE w (spl x y) 0) := by
  have hqx := hx.qs hJ1
  have hqy := hy.qs hJ1
  have hc : cmpQ x y ≤ 0 := by rcases cmpQ_cases x y with ⟨_, e⟩ | ⟨_, e⟩ | ⟨h, e⟩ <;> first | omega | exact absurd h1 (Rat.not_le.2 h)
  have hs1 : sgnQ x ≤ 0 := by rcases sgnQ_cases x with ⟨h, e⟩ | ⟨h, e⟩ | ⟨h, e⟩ <;> first | omega | exact absurd h2 (Rat.not_lt.2 (Rat.le_of_lt h)) | (rw [h] at h2; exact absurd h2 Rat.lt_irrefl) | exact absurd h h2
  have hs2 : 0 ≤ sgnQ y := by rcases sgnQ_cases y with ⟨h, e⟩ | ⟨h, e⟩ | ⟨h, e⟩ <;> first | omega | exact absurd h h3 | exact absurd h3 (Rat.not_lt.2 (Rat.le_of_lt h)) | (rw [h] at h3; exact absurd h3 Rat.lt_irrefl)
  rw [spl_zero h2 h3]
  clear h1 h2 h3
  obtain ⟨c, hc0⟩ : ∃ c, cmpQ x y = c := ⟨_, rfl⟩
  rw [hc0] at hc
  have hch := hid hc0
  clear hc0 hqx hqy
  obtain ⟨sx, hsx0⟩ : ∃ c, sgnQ x = c := ⟨_, rfl⟩
  rw [hsx0] at hs1
  have hsx := hid hsx0
  clear hsx0
  obtain ⟨sy, hsy0⟩ : ∃ c, sgnQ y = c := ⟨_, rfl⟩
  rw [hsy0] at hs2
  have hsy := hid hsy0
  clear hsy0
  have hent := ent3 w #[Value.bool s, Value.slice a1 n1 c1, Value.slice b1 m1 d1] #[Value.bool t, Value.slice a2 n2 c2, Value.slice b2 m2 d2] #[Value.bool false, Value.slice none 0 0, Value.slice none 0 0] 38 38 38
  go_enter Tryz.func89, Tryz.ntmps89
  go_wp2_with fail
  generalize (((w.alloc (.cells #[Value.bool s, Value.slice a1 n1 c1, Value.slice b1 m1 d1] 38)).alloc (.cells #[Value.bool t, Value.slice a2 n2 c2, Value.slice b2 m2 d2] 38)).alloc (.cells #[Value.bool false, Value.slice none 0 0, Value.slice none 0 0] 38)) = W0 at hent ⊢
  obtain ⟨X_0, Y_0, R0_0, hbel_0, hsz_0⟩ := hent
  have cX_0_0 : _ = some (Value.bool s) := X_0.cell 0
  have cX_0_1 : _ = some (Value.slice a1 n1 c1) := X_0.cell 1
  have cX_0_2 : _ = some (Value.slice b1 m1 d1) := X_0.cell 2
  have cY_0_0 : _ = some (Value.bool t) := Y_0.cell 0
  have cY_0_1 : _ = some (Value.slice a2 n2 c2) := Y_0.cell 1
  have cY_0_2 : _ = some (Value.slice b2 m2 d2) := Y_0.cell 2
  have cR0_0_0 : _ = some (Value.bool false) := R0_0.cell 0
  have fR0_0_0 := R0_0.free 0
  have cR0_0_1 : _ = some (Value.slice none 0 0) := R0_0.cell 1
  have fR0_0_1 := R0_0.free 1
  have cR0_0_2 : _ = some (Value.slice none 0 0) := R0_0.cell 2
  have fR0_0_2 := R0_0.free 2
  have hx_0 := hx.below hbel_0
  clear hx
  have hy_0 := hy.below hbel_0
  clear hy
  go_wp2_with fail
  refine (rqcmp hx_0 (by omega) hy_0 (by omega)).mono ?_
  rw [hch.out]
  rintro e w1 ⟨rfl, hB⟩
  have hB_1 : Below W0.heap.size W0 w1 := (bl.next hB)
  have X_1 := X_0.next hB_1
  have cX_1_0 : _ = some (Value.bool s) := X_1.cell 0
  have cX_1_1 : _ = some (Value.slice a1 n1 c1) := X_1.cell 1
  have cX_1_2 : _ = some (Value.slice b1 m1 d1) := X_1.cell 2
  have Y_1 := Y_0.next hB_1
  have cY_1_0 : _ = some (Value.bool t) := Y_1.cell 0
  have cY_1_1 : _ = some (Value.slice a2 n2 c2) := Y_1.cell 1
  have cY_1_2 : _ = some (Value.slice b2 m2 d2) := Y_1.cell 2
  have R0_1 := R0_0.next hB_1
  have cR0_1_0 : _ = some (Value.bool false) := R0_1.cell 0
  have fR0_1_0 := R0_1.free 0
  have cR0_1_1 : _ = some (Value.slice none 0 0) := R0_1.cell 1
  have fR0_1_1 := R0_1.free 1
  have cR0_1_2 : _ = some (Value.slice none 0 0) := R0_1.cell 2
  have fR0_1_2 := R0_1.free 2
  have hx_1 := hx_0.below hB_1
  have hy_1 := hy_0.below hB_1
  have hbel_1 := hbel_0.next hB_1
  have hsz_1 := hB_1.size
  clear X_0 cX_0_0 cX_0_1 cX_0_2 Y_0 cY_0_0 cY_0_1 cY_0_2 R0_0 cR0_0_0 fR0_0_0 cR0_0_1 fR0_0_1 cR0_0_2 fR0_0_2 hx_0 hy_0 hbel_0 hB_1
  try clear hB
  go_wp2_with fail
  refine (rqsign hx_1 (by omega)).mono ?_
  rw [hsx.out]
  rintro e w2 ⟨rfl, hB⟩
  have hB_2 : Below w1.heap.size w1 w2 := (bl.next hB)
  have X_2 := X_1.next hB_2
  have cX_2_0 : _ = some (Value.bool s) := X_2.cell 0
  have cX_2_1 : _ = some (Value.slice a1 n1 c1) := X_2.cell 1
  have cX_2_2 : _ = some (Value.slice b1 m1 d1) := X_2.cell 2
  have Y_2 := Y_1.next hB_2
  have cY_2_0 : _ = some (Value.bool t) := Y_2.cell 0
  have cY_2_1 : _ = some (Value.slice a2 n2 c2) := Y_2.cell 1
  have cY_2_2 : _ = some (Value.slice b2 m2 d2) := Y_2.cell 2
  have R0_2 := R0_1.next hB_2
  have cR0_2_0 : _ = some (Value.bool false) := R0_2.cell 0
  have fR0_2_0 := R0_2.free 0
  have cR0_2_1 : _ = some (Value.slice none 0 0) := R0_2.cell 1
  have fR0_2_1 := R0_2.free 1
  have cR0_2_2 : _ = some (Value.slice none 0 0) := R0_2.cell 2
  have fR0_2_2 := R0_2.free 2
  have hx_2 := hx_1.below hB_2
  have hy_2 := hy_1.below hB_2
  have hbel_2 := hbel_1.next hB_2
  have hsz_2 := hB_2.size
  clear X_1 cX_1_0 cX_1_1 cX_1_2 Y_1 cY_1_0 cY_1_1 cY_1_2 R0_1 cR0_1_0 fR0_1_0 cR0_1_1 fR0_1_1 cR0_1_2 fR0_1_2 hx_1 hy_1 hbel_1 hB_2
  try clear hB
  go_wp2_with fail
  refine (rqsign hy_2 (by omega)).mono ?_
  rw [hsy.out]
  rintro e w3 ⟨rfl, hB⟩
  have hB_3 : Below w2.heap.size w2 w3 := (bl.next hB)
  have X_3 := X_2.next hB_3
  have cX_3_0 : _ = some (Value.bool s) := X_3.cell 0
  have cX_3_1 : _ = some (Value.slice a1 n1 c1) := X_3.cell 1
  have cX_3_2 : _ = some (Value.slice b1 m1 d1) := X_3.cell 2
  have Y_3 := Y_2.next hB_3
  have cY_3_0 : _ = some (Value.bool t) := Y_3.cell 0
  have cY_3_1 : _ = some (Value.slice a2 n2 c2) := Y_3.cell 1
  have cY_3_2 : _ = some (Value.slice b2 m2 d2) := Y_3.cell 2
  have R0_3 := R0_2.next hB_3
  have cR0_3_0 : _ = some (Value.bool false) := R0_3.cell 0
  have fR0_3_0 := R0_3.free 0
  have cR0_3_1 : _ = some (Value.slice none 0 0) := R0_3.cell 1
  have fR0_3_1 := R0_3.free 1
  have cR0_3_2 : _ = some (Value.slice none 0 0) := R0_3.cell 2
  have fR0_3_2 := R0_3.free 2
  have hx_3 := hx_2.below hB_3
  have hy_3 := hy_2.below hB_3
  have hbel_3 := hbel_2.next hB_3
  have hsz_3 := hB_3.size
  clear X_2 cX_2_0 cX_2_1 cX_2_2 Y_2 cY_2_0 cY_2_1 cY_2_2 R0_2 cR0_2_0 fR0_2_0 cR0_2_1 fR0_2_1 cR0_2_2 fR0_2_2 hx_2 hy_2 hbel_2 hB_3
  try clear hB
  go_wp2_with fail
  refine (rqs0).mono ?_
  rintro e w4 ⟨qa, qn, qc, qb, qm, qd, rfl, hO, hO', hDq, hB⟩
  have hB_4 : Below w3.heap.size w3 w4 := (bl.next hB)
  have X_4 := X_3.next hB_4
  have cX_4_0 : _ = some (Value.bool s) := X_4.cell 0
  have cX_4_1 : _ = some (Value.slice a1 n1 c1) := X_4.cell 1
  have cX_4_2 : _ = some (Value.slice b1 m1 d1) := X_4.cell 2
  have Y_4 := Y_3.next hB_4
  have cY_4_0 : _ = some (Value.bool t) := Y_4.cell 0
  have cY_4_1 : _ = some (Value.slice a2 n2 c2) := Y_4.cell 1
  have cY_4_2 : _ = some (Value.slice b2 m2 d2) := Y_4.cell 2
  have R0_4 := R0_3.next hB_4
  have cR0_4_0 : _ = some (Value.bool false) := R0_4.cell 0
  have fR0_4_0 := R0_4.free 0
  have cR0_4_1 : _ = some (Value.slice none 0 0) := R0_4.cell 1
  have fR0_4_1 := R0_4.free 1
  have cR0_4_2 : _ = some (Value.slice none 0 0) := R0_4.cell 2
  have fR0_4_2 := R0_4.free 2
  have hx_4 := hx_3.below hB_4
  have hy_4 := hy_3.below hB_4
  have hbel_4 := hbel_3.next hB_4
  have hsz_4 := hB_4.size
  clear X_3 cX_3_0 cX_3_1 cX_3_2 Y_3 cY_3_0 cY_3_1 cY_3_2 R0_3 cR0_3_0 fR0_3_0 cR0_3_1 fR0_3_1 cR0_3_2 fR0_3_2 hx_3 hy_3 hbel_3 hB_4
  have Oq_4 := hO
  have ltOq := hO.ltB
  have Pq_4 := hO'
  have ltPq := hO'.ltB
  clear hO hO'
  try clear hB
  go_wp2
  refine bodyPost_ret (v := .tuple #[.agg #[.bool (decide ((0 : Rat).num < 0)), .slice qa qn qc, .slice qb qm qd], .int .i64 0]) (by simp [results, Tryz.results89, go_sem, cR0_4_0, cR0_4_1, cR0_4_2]) rfl ?_
  exact retqe_set (er := 0) Oq_4 Pq_4 hDq hbel_4 (by omega) (by omega)

theorem rqsimp {w : World} {a1 b1 : Option Addr} {n1 c1 m1 d1 : Nat} {s : Bool} {x : Rat} {a2 b2 : Option Addr} {n2 c2 m2 d2 : Nat} {t : Bool} {y : Rat} {J : Nat} (hJ1 : 1 ≤ J) (hJ : J ≤ 200000) (hx : RdQ J w s a1 n1 c1 b1 m1 d1 x) (hy : RdQ J w t a2 n2 c2 b2 m2 d2 y) : Calls Tryz.prog 89 #[.agg #[.bool s, .slice a1 n1 c1, .slice b1 m1 d1], .agg #[.bool t, .slice a2 n2 c2, .slice b2 m2 d2]] w (RetQE w (spl x y) (spE x y)) := by
  unfold spE
  by_cases h1 : y < x
  · rw [if_pos h1]; exact rqsimpE hJ1 hJ hx hy h1
  · rw [if_neg h1]
    have h1 := Rat.not_lt.1 h1
    by_cases h2 : 0 < x
    · exact rqsimpP hJ1 hJ hx hy h1 h2
    · by_cases h3 : y < 0
      · exact rqsimpN hJ1 hJ hx hy h1 h2 h3
      · exact rqsimpZ hJ1 hJ hx hy h1 h2 h3

end Go.Proofs.YtgddnmmllchndaaGreat
