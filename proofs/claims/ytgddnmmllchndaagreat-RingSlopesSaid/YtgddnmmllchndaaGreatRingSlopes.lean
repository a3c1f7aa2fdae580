/- THE WALK OF credencelaw12.RingSlopes: of any two slopes sum, product, Zero, One, whether they are the same; what is handed in stays, what is answered is normal and new memory. -/
import Derived.Test.YtgddnmmllchndaaGreatKe
import Derived.Test.YtgddnmmllchndaaGreatKf2
namespace Go.Proofs.YtgddnmmllchndaaGreat
set_option linter.unusedVariables false
set_option linter.unusedSimpArgs false
open Go.ChangeShapes Go.WideShapes Go.ChangeAt Go.RowKit Go.NatP


set_option maxRecDepth 100000 in
set_option maxHeartbeats 64000000 in
theorem ringSlopes_walk {w : World} {a1 b1 : Option Addr} {n1 c1 m1 d1 : Nat} {la1 lb1 : List Nat} (s1 : Bool) (ha1 : Rd w a1 n1 c1 la1) (hb1 : Rd w b1 m1 d1 lb1) {a2 b2 : Option Addr} {n2 c2 m2 d2 : Nat} {la2 lb2 : List Nat} (s2 : Bool) (ha2 : Rd w a2 n2 c2 la2) (hb2 : Rd w b2 m2 d2 lb2) {a3 b3 : Option Addr} {n3 c3 m3 d3 : Nat} {la3 lb3 : List Nat} (s3 : Bool) (ha3 : Rd w a3 n3 c3 la3) (hb3 : Rd w b3 m3 d3 lb3) {a4 b4 : Option Addr} {n4 c4 m4 d4 : Nat} {la4 lb4 : List Nat} (s4 : Bool) (ha4 : Rd w a4 n4 c4 la4) (hb4 : Rd w b4 m4 d4 lb4) :
    Calls Tryz.prog 6 #[.agg #[Value.bool s1, Value.slice a1 n1 c1, Value.slice b1 m1 d1, Value.bool s2, Value.slice a2 n2 c2, Value.slice b2 m2 d2], .agg #[Value.bool s3, Value.slice a3 n3 c3, Value.slice b3 m3 d3, Value.bool s4, Value.slice a4 n4 c4, Value.slice b4 m4 d4]] w (fun e w' => e = .returned (.bool true) ∧ Below w.heap.size w w') := by
  have HA1 := hid ha1
  have HB1 := hid hb1
  have HA2 := hid ha2
  have HB2 := hid hb2
  have HA3 := hid ha3
  have HB3 := hid hb3
  have HA4 := hid ha4
  have HB4 := hid hb4
  have A1 := ha1
  have B1 := hb1
  clear ha1 hb1
  have A2 := ha2
  have B2 := hb2
  clear ha2 hb2
  have A3 := ha3
  have B3 := hb3
  clear ha3 hb3
  have A4 := ha4
  have B4 := hb4
  clear ha4 hb4
  have hent := ent2 w #[Value.bool s1, Value.slice a1 n1 c1, Value.slice b1 m1 d1, Value.bool s2, Value.slice a2 n2 c2, Value.slice b2 m2 d2] #[Value.bool s3, Value.slice a3 n3 c3, Value.slice b3 m3 d3, Value.bool s4, Value.slice a4 n4 c4, Value.slice b4 m4 d4] 57 57
  go_enter Tryz.func6, Tryz.ntmps6
  go_wp2_with fail
  generalize ((w.alloc (.cells #[Value.bool s1, Value.slice a1 n1 c1, Value.slice b1 m1 d1, Value.bool s2, Value.slice a2 n2 c2, Value.slice b2 m2 d2] 57)).alloc (.cells #[Value.bool s3, Value.slice a3 n3 c3, Value.slice b3 m3 d3, Value.bool s4, Value.slice a4 n4 c4, Value.slice b4 m4 d4] 57)) = W0 at hent ⊢
  obtain ⟨X_0, Y_0, hbel_0, hsz_0⟩ := hent
  have A1_0 := A1.below hbel_0
  clear A1
  have A2_0 := A2.below hbel_0
  clear A2
  have A3_0 := A3.below hbel_0
  clear A3
  have A4_0 := A4.below hbel_0
  clear A4
  have B1_0 := B1.below hbel_0
  clear B1
  have B2_0 := B2.below hbel_0
  clear B2
  have B3_0 := B3.below hbel_0
  clear B3
  have B4_0 := B4.below hbel_0
  clear B4
  go_wp2_with fail
  refine (kawake).mono ?_
  rintro e w1 ⟨rfl, hB⟩
  have hB_1 : Below W0.heap.size W0 w1 := (bl.next hB)
  have X_1 := X_0.next hB_1
  have Y_1 := Y_0.next hB_1
  have A1_1 := A1_0.below hB_1
  have A2_1 := A2_0.below hB_1
  have A3_1 := A3_0.below hB_1
  have A4_1 := A4_0.below hB_1
  have B1_1 := B1_0.below hB_1
  have B2_1 := B2_0.below hB_1
  have B3_1 := B3_0.below hB_1
  have B4_1 := B4_0.below hB_1
  have hbel_1 := hbel_0.next hB_1
  have hsz_1 := hB_1.size
  clear X_0 Y_0 A1_0 A2_0 A3_0 A4_0 B1_0 B2_0 B3_0 B4_0 hbel_0 hB_1
  try clear hB
  go_wp2_with fail
  refine wp_loop_rounds 3 ?_
  rw [rounds_succ]
  have cX_1_0 : _ = some (Value.bool s1) := X_1.cell 0
  have fX_1_0 := X_1.free 0
  have cX_1_1 : _ = some (Value.slice a1 n1 c1) := X_1.cell 1
  have fX_1_1 := X_1.free 1
  have cX_1_2 : _ = some (Value.slice b1 m1 d1) := X_1.cell 2
  have fX_1_2 := X_1.free 2
  have cX_1_3 : _ = some (Value.bool s2) := X_1.cell 3
  have fX_1_3 := X_1.free 3
  have cX_1_4 : _ = some (Value.slice a2 n2 c2) := X_1.cell 4
  have fX_1_4 := X_1.free 4
  have cX_1_5 : _ = some (Value.slice b2 m2 d2) := X_1.cell 5
  have fX_1_5 := X_1.free 5
  go_wp2_with fail
  refine (fcut 12 (by omega) A1_1 B1_1).mono ?_
  rintro e w2 ⟨p1, l1, q1, k1, rfl, hp1, hq1, hlA1, hlB1, hR, hR', hB⟩
  have hB_2 : Below w1.heap.size w1 w2 := (bl.next hB)
  have X_2 := X_1.next hB_2
  have Y_2 := Y_1.next hB_2
  have A1_2 := A1_1.below hB_2
  have A2_2 := A2_1.below hB_2
  have A3_2 := A3_1.below hB_2
  have A4_2 := A4_1.below hB_2
  have B1_2 := B1_1.below hB_2
  have B2_2 := B2_1.below hB_2
  have B3_2 := B3_1.below hB_2
  have B4_2 := B4_1.below hB_2
  have hbel_2 := hbel_1.next hB_2
  have hsz_2 := hB_2.size
  clear X_1 cX_1_0 fX_1_0 cX_1_1 fX_1_1 cX_1_2 fX_1_2 cX_1_3 fX_1_3 cX_1_4 fX_1_4 cX_1_5 fX_1_5 Y_1 A1_1 A2_1 A3_1 A4_1 B1_1 B2_1 B3_1 B4_1 hbel_1 hB_2
  have A1_2 := hR
  have B1_2 := hR'
  clear hR hR'
  try clear hB
  have cX_2_0 : _ = some (Value.bool s1) := X_2.cell 0
  have fX_2_0 := X_2.free 0
  have cX_2_1 : _ = some (Value.slice a1 n1 c1) := X_2.cell 1
  have fX_2_1 := X_2.free 1
  have cX_2_2 : _ = some (Value.slice b1 m1 d1) := X_2.cell 2
  have fX_2_2 := X_2.free 2
  have cX_2_3 : _ = some (Value.bool s2) := X_2.cell 3
  have fX_2_3 := X_2.free 3
  have cX_2_4 : _ = some (Value.slice a2 n2 c2) := X_2.cell 4
  have fX_2_4 := X_2.free 4
  have cX_2_5 : _ = some (Value.slice b2 m2 d2) := X_2.cell 5
  have fX_2_5 := X_2.free 5
  have hkp := ((((Kp.refl (fun j => j = w.heap.size) w2).setCell (ad := ⟨w.heap.size, 0, none⟩) rfl (Value.bool s1)).setCell (ad := ⟨w.heap.size, 1, none⟩) rfl (Value.slice a1 p1 c1)).setCell (ad := ⟨w.heap.size, 2, none⟩) rfl (Value.slice b1 q1 d1))
  have X_3 := (show Blk _ _ #[Value.bool s1, Value.slice a1 p1 c1, Value.slice b1 q1 d1, Value.bool s2, Value.slice a2 n2 c2, Value.slice b2 m2 d2] from (((X_2).setCell (i := 0) (v := Value.bool s1) (by simp)).setCell (i := 1) (v := Value.slice a1 p1 c1) (by simp)).setCell (i := 2) (v := Value.slice b1 q1 d1) (by simp))
  have Y_3 := Y_2.kp hkp (by show ¬ (w.heap.size + 1 = w.heap.size); omega)
  have A1_3 := HA1.out.kp_old hlA1 A1_2 hkp (fun b hb => by show ¬ (b = _); omega)
  have B1_3 := HB1.out.kp_old hlB1 B1_2 hkp (fun b hb => by show ¬ (b = _); omega)
  have A2_3 := HA2.out.kp_old (Nat.le_refl _) A2_2 hkp (fun b hb => by show ¬ (b = _); omega)
  have B2_3 := HB2.out.kp_old (Nat.le_refl _) B2_2 hkp (fun b hb => by show ¬ (b = _); omega)
  have A3_3 := HA3.out.kp_old (Nat.le_refl _) A3_2 hkp (fun b hb => by show ¬ (b = _); omega)
  have B3_3 := HB3.out.kp_old (Nat.le_refl _) B3_2 hkp (fun b hb => by show ¬ (b = _); omega)
  have A4_3 := HA4.out.kp_old (Nat.le_refl _) A4_2 hkp (fun b hb => by show ¬ (b = _); omega)
  have B4_3 := HB4.out.kp_old (Nat.le_refl _) B4_2 hkp (fun b hb => by show ¬ (b = _); omega)
  have hbel_3 := hbel_2.kp hkp hbel_2.size (fun j hj => by show ¬ (j = w.heap.size); omega)
  have hsz_3 := hkp.size
  have cY_3_0 : _ = some (Value.bool s3) := Y_3.cell 0
  have fY_3_0 := Y_3.free 0
  have cY_3_1 : _ = some (Value.slice a3 n3 c3) := Y_3.cell 1
  have fY_3_1 := Y_3.free 1
  have cY_3_2 : _ = some (Value.slice b3 m3 d3) := Y_3.cell 2
  have fY_3_2 := Y_3.free 2
  have cY_3_3 : _ = some (Value.bool s4) := Y_3.cell 3
  have fY_3_3 := Y_3.free 3
  have cY_3_4 : _ = some (Value.slice a4 n4 c4) := Y_3.cell 4
  have fY_3_4 := Y_3.free 4
  have cY_3_5 : _ = some (Value.slice b4 m4 d4) := Y_3.cell 5
  have fY_3_5 := Y_3.free 5
  go_wp2_with fail
  clear X_2 Y_2 cX_2_0 fX_2_0 cX_2_1 fX_2_1 cX_2_2 fX_2_2 cX_2_3 fX_2_3 cX_2_4 fX_2_4 cX_2_5 fX_2_5 A1_2 A2_2 A3_2 A4_2 B1_2 B2_2 B3_2 B4_2 hbel_2 hkp
  generalize (((w2.setCell ⟨w.heap.size, 0, none⟩ (Value.bool s1)).setCell ⟨w.heap.size, 1, none⟩ (Value.slice a1 p1 c1)).setCell ⟨w.heap.size, 2, none⟩ (Value.slice b1 q1 d1)) = v3 at *
  go_wp2_with fail
  refine (fcut 12 (by omega) A3_3 B3_3).mono ?_
  rintro e w4 ⟨p3, l3, q3, k3, rfl, hp3, hq3, hlA3, hlB3, hR, hR', hB⟩
  have hB_4 : Below v3.heap.size v3 w4 := (bl.next hB)
  have X_4 := X_3.next hB_4
  have Y_4 := Y_3.next hB_4
  have A1_4 := A1_3.below hB_4
  have B1_4 := B1_3.below hB_4
  have A2_4 := A2_3.below hB_4
  have B2_4 := B2_3.below hB_4
  have A3_4 := A3_3.below hB_4
  have B3_4 := B3_3.below hB_4
  have A4_4 := A4_3.below hB_4
  have B4_4 := B4_3.below hB_4
  have hbel_4 := hbel_3.next hB_4
  have hsz_4 := hB_4.size
  clear X_3 Y_3 cY_3_0 fY_3_0 cY_3_1 fY_3_1 cY_3_2 fY_3_2 cY_3_3 fY_3_3 cY_3_4 fY_3_4 cY_3_5 fY_3_5 A1_3 B1_3 A2_3 B2_3 A3_3 B3_3 A4_3 B4_3 hbel_3 hB_4
  have A3_4 := hR
  have B3_4 := hR'
  clear hR hR'
  try clear hB
  have cY_4_0 : _ = some (Value.bool s3) := Y_4.cell 0
  have fY_4_0 := Y_4.free 0
  have cY_4_1 : _ = some (Value.slice a3 n3 c3) := Y_4.cell 1
  have fY_4_1 := Y_4.free 1
  have cY_4_2 : _ = some (Value.slice b3 m3 d3) := Y_4.cell 2
  have fY_4_2 := Y_4.free 2
  have cY_4_3 : _ = some (Value.bool s4) := Y_4.cell 3
  have fY_4_3 := Y_4.free 3
  have cY_4_4 : _ = some (Value.slice a4 n4 c4) := Y_4.cell 4
  have fY_4_4 := Y_4.free 4
  have cY_4_5 : _ = some (Value.slice b4 m4 d4) := Y_4.cell 5
  have fY_4_5 := Y_4.free 5
  have hkp := ((((Kp.refl (fun j => j = w.heap.size + 1) w4).setCell (ad := ⟨w.heap.size + 1, 0, none⟩) rfl (Value.bool s3)).setCell (ad := ⟨w.heap.size + 1, 1, none⟩) rfl (Value.slice a3 p3 c3)).setCell (ad := ⟨w.heap.size + 1, 2, none⟩) rfl (Value.slice b3 q3 d3))
  have Y_5 := (show Blk _ _ #[Value.bool s3, Value.slice a3 p3 c3, Value.slice b3 q3 d3, Value.bool s4, Value.slice a4 n4 c4, Value.slice b4 m4 d4] from (((Y_4).setCell (i := 0) (v := Value.bool s3) (by simp)).setCell (i := 1) (v := Value.slice a3 p3 c3) (by simp)).setCell (i := 2) (v := Value.slice b3 q3 d3) (by simp))
  have X_5 := X_4.kp hkp (by show ¬ (w.heap.size = w.heap.size + 1); omega)
  have A1_5 := HA1.out.kp_old hlA1 A1_4 hkp (fun b hb => by show ¬ (b = _); omega)
  have B1_5 := HB1.out.kp_old hlB1 B1_4 hkp (fun b hb => by show ¬ (b = _); omega)
  have A2_5 := HA2.out.kp_old (Nat.le_refl _) A2_4 hkp (fun b hb => by show ¬ (b = _); omega)
  have B2_5 := HB2.out.kp_old (Nat.le_refl _) B2_4 hkp (fun b hb => by show ¬ (b = _); omega)
  have A3_5 := HA3.out.kp_old hlA3 A3_4 hkp (fun b hb => by show ¬ (b = _); omega)
  have B3_5 := HB3.out.kp_old hlB3 B3_4 hkp (fun b hb => by show ¬ (b = _); omega)
  have A4_5 := HA4.out.kp_old (Nat.le_refl _) A4_4 hkp (fun b hb => by show ¬ (b = _); omega)
  have B4_5 := HB4.out.kp_old (Nat.le_refl _) B4_4 hkp (fun b hb => by show ¬ (b = _); omega)
  have hbel_5 := hbel_4.kp hkp hbel_4.size (fun j hj => by show ¬ (j = w.heap.size + 1); omega)
  have hsz_5 := hkp.size
  go_wp2_with fail
  clear X_4 Y_4 cY_4_0 fY_4_0 cY_4_1 fY_4_1 cY_4_2 fY_4_2 cY_4_3 fY_4_3 cY_4_4 fY_4_4 cY_4_5 fY_4_5 A1_4 B1_4 A2_4 B2_4 A3_4 B3_4 A4_4 B4_4 hbel_4 hkp
  generalize (((w4.setCell ⟨w.heap.size + 1, 0, none⟩ (Value.bool s3)).setCell ⟨w.heap.size + 1, 1, none⟩ (Value.slice a3 p3 c3)).setCell ⟨w.heap.size + 1, 2, none⟩ (Value.slice b3 q3 d3)) = v5 at *
  rw [rounds_succ]
  have cX_5_0 : _ = some (Value.bool s1) := X_5.cell 0
  have fX_5_0 := X_5.free 0
  have cX_5_1 : _ = some (Value.slice a1 p1 c1) := X_5.cell 1
  have fX_5_1 := X_5.free 1
  have cX_5_2 : _ = some (Value.slice b1 q1 d1) := X_5.cell 2
  have fX_5_2 := X_5.free 2
  have cX_5_3 : _ = some (Value.bool s2) := X_5.cell 3
  have fX_5_3 := X_5.free 3
  have cX_5_4 : _ = some (Value.slice a2 n2 c2) := X_5.cell 4
  have fX_5_4 := X_5.free 4
  have cX_5_5 : _ = some (Value.slice b2 m2 d2) := X_5.cell 5
  have fX_5_5 := X_5.free 5
  go_wp2_with fail
  refine (fcut 12 (by omega) A2_5 B2_5).mono ?_
  rintro e w6 ⟨p2, l2, q2, k2, rfl, hp2, hq2, hlA2, hlB2, hR, hR', hB⟩
  have hB_6 : Below v5.heap.size v5 w6 := (bl.next hB)
  have X_6 := X_5.next hB_6
  have Y_6 := Y_5.next hB_6
  have A1_6 := A1_5.below hB_6
  have B1_6 := B1_5.below hB_6
  have A2_6 := A2_5.below hB_6
  have B2_6 := B2_5.below hB_6
  have A3_6 := A3_5.below hB_6
  have B3_6 := B3_5.below hB_6
  have A4_6 := A4_5.below hB_6
  have B4_6 := B4_5.below hB_6
  have hbel_6 := hbel_5.next hB_6
  have hsz_6 := hB_6.size
  clear X_5 cX_5_0 fX_5_0 cX_5_1 fX_5_1 cX_5_2 fX_5_2 cX_5_3 fX_5_3 cX_5_4 fX_5_4 cX_5_5 fX_5_5 Y_5 A1_5 B1_5 A2_5 B2_5 A3_5 B3_5 A4_5 B4_5 hbel_5 hB_6
  have A2_6 := hR
  have B2_6 := hR'
  clear hR hR'
  try clear hB
  have cX_6_0 : _ = some (Value.bool s1) := X_6.cell 0
  have fX_6_0 := X_6.free 0
  have cX_6_1 : _ = some (Value.slice a1 p1 c1) := X_6.cell 1
  have fX_6_1 := X_6.free 1
  have cX_6_2 : _ = some (Value.slice b1 q1 d1) := X_6.cell 2
  have fX_6_2 := X_6.free 2
  have cX_6_3 : _ = some (Value.bool s2) := X_6.cell 3
  have fX_6_3 := X_6.free 3
  have cX_6_4 : _ = some (Value.slice a2 n2 c2) := X_6.cell 4
  have fX_6_4 := X_6.free 4
  have cX_6_5 : _ = some (Value.slice b2 m2 d2) := X_6.cell 5
  have fX_6_5 := X_6.free 5
  have hkp := ((((Kp.refl (fun j => j = w.heap.size) w6).setCell (ad := ⟨w.heap.size, 3, none⟩) rfl (Value.bool s2)).setCell (ad := ⟨w.heap.size, 4, none⟩) rfl (Value.slice a2 p2 c2)).setCell (ad := ⟨w.heap.size, 5, none⟩) rfl (Value.slice b2 q2 d2))
  have X_7 := (show Blk _ _ #[Value.bool s1, Value.slice a1 p1 c1, Value.slice b1 q1 d1, Value.bool s2, Value.slice a2 p2 c2, Value.slice b2 q2 d2] from (((X_6).setCell (i := 3) (v := Value.bool s2) (by simp)).setCell (i := 4) (v := Value.slice a2 p2 c2) (by simp)).setCell (i := 5) (v := Value.slice b2 q2 d2) (by simp))
  have Y_7 := Y_6.kp hkp (by show ¬ (w.heap.size + 1 = w.heap.size); omega)
  have A1_7 := HA1.out.kp_old hlA1 A1_6 hkp (fun b hb => by show ¬ (b = _); omega)
  have B1_7 := HB1.out.kp_old hlB1 B1_6 hkp (fun b hb => by show ¬ (b = _); omega)
  have A2_7 := HA2.out.kp_old hlA2 A2_6 hkp (fun b hb => by show ¬ (b = _); omega)
  have B2_7 := HB2.out.kp_old hlB2 B2_6 hkp (fun b hb => by show ¬ (b = _); omega)
  have A3_7 := HA3.out.kp_old hlA3 A3_6 hkp (fun b hb => by show ¬ (b = _); omega)
  have B3_7 := HB3.out.kp_old hlB3 B3_6 hkp (fun b hb => by show ¬ (b = _); omega)
  have A4_7 := HA4.out.kp_old (Nat.le_refl _) A4_6 hkp (fun b hb => by show ¬ (b = _); omega)
  have B4_7 := HB4.out.kp_old (Nat.le_refl _) B4_6 hkp (fun b hb => by show ¬ (b = _); omega)
  have hbel_7 := hbel_6.kp hkp hbel_6.size (fun j hj => by show ¬ (j = w.heap.size); omega)
  have hsz_7 := hkp.size
  have cY_7_0 : _ = some (Value.bool s3) := Y_7.cell 0
  have fY_7_0 := Y_7.free 0
  have cY_7_1 : _ = some (Value.slice a3 p3 c3) := Y_7.cell 1
  have fY_7_1 := Y_7.free 1
  have cY_7_2 : _ = some (Value.slice b3 q3 d3) := Y_7.cell 2
  have fY_7_2 := Y_7.free 2
  have cY_7_3 : _ = some (Value.bool s4) := Y_7.cell 3
  have fY_7_3 := Y_7.free 3
  have cY_7_4 : _ = some (Value.slice a4 n4 c4) := Y_7.cell 4
  have fY_7_4 := Y_7.free 4
  have cY_7_5 : _ = some (Value.slice b4 m4 d4) := Y_7.cell 5
  have fY_7_5 := Y_7.free 5
  go_wp2_with fail
  clear X_6 Y_6 cX_6_0 fX_6_0 cX_6_1 fX_6_1 cX_6_2 fX_6_2 cX_6_3 fX_6_3 cX_6_4 fX_6_4 cX_6_5 fX_6_5 A1_6 B1_6 A2_6 B2_6 A3_6 B3_6 A4_6 B4_6 hbel_6 hkp
  generalize (((w6.setCell ⟨w.heap.size, 3, none⟩ (Value.bool s2)).setCell ⟨w.heap.size, 4, none⟩ (Value.slice a2 p2 c2)).setCell ⟨w.heap.size, 5, none⟩ (Value.slice b2 q2 d2)) = v7 at *
  go_wp2_with fail
  refine (fcut 12 (by omega) A4_7 B4_7).mono ?_
  rintro e w8 ⟨p4, l4, q4, k4, rfl, hp4, hq4, hlA4, hlB4, hR, hR', hB⟩
  have hB_8 : Below v7.heap.size v7 w8 := (bl.next hB)
  have X_8 := X_7.next hB_8
  have Y_8 := Y_7.next hB_8
  have A1_8 := A1_7.below hB_8
  have B1_8 := B1_7.below hB_8
  have A2_8 := A2_7.below hB_8
  have B2_8 := B2_7.below hB_8
  have A3_8 := A3_7.below hB_8
  have B3_8 := B3_7.below hB_8
  have A4_8 := A4_7.below hB_8
  have B4_8 := B4_7.below hB_8
  have hbel_8 := hbel_7.next hB_8
  have hsz_8 := hB_8.size
  clear X_7 Y_7 cY_7_0 fY_7_0 cY_7_1 fY_7_1 cY_7_2 fY_7_2 cY_7_3 fY_7_3 cY_7_4 fY_7_4 cY_7_5 fY_7_5 A1_7 B1_7 A2_7 B2_7 A3_7 B3_7 A4_7 B4_7 hbel_7 hB_8
  have A4_8 := hR
  have B4_8 := hR'
  clear hR hR'
  try clear hB
  have cY_8_0 : _ = some (Value.bool s3) := Y_8.cell 0
  have fY_8_0 := Y_8.free 0
  have cY_8_1 : _ = some (Value.slice a3 p3 c3) := Y_8.cell 1
  have fY_8_1 := Y_8.free 1
  have cY_8_2 : _ = some (Value.slice b3 q3 d3) := Y_8.cell 2
  have fY_8_2 := Y_8.free 2
  have cY_8_3 : _ = some (Value.bool s4) := Y_8.cell 3
  have fY_8_3 := Y_8.free 3
  have cY_8_4 : _ = some (Value.slice a4 n4 c4) := Y_8.cell 4
  have fY_8_4 := Y_8.free 4
  have cY_8_5 : _ = some (Value.slice b4 m4 d4) := Y_8.cell 5
  have fY_8_5 := Y_8.free 5
  have hkp := ((((Kp.refl (fun j => j = w.heap.size + 1) w8).setCell (ad := ⟨w.heap.size + 1, 3, none⟩) rfl (Value.bool s4)).setCell (ad := ⟨w.heap.size + 1, 4, none⟩) rfl (Value.slice a4 p4 c4)).setCell (ad := ⟨w.heap.size + 1, 5, none⟩) rfl (Value.slice b4 q4 d4))
  have Y_9 := (show Blk _ _ #[Value.bool s3, Value.slice a3 p3 c3, Value.slice b3 q3 d3, Value.bool s4, Value.slice a4 p4 c4, Value.slice b4 q4 d4] from (((Y_8).setCell (i := 3) (v := Value.bool s4) (by simp)).setCell (i := 4) (v := Value.slice a4 p4 c4) (by simp)).setCell (i := 5) (v := Value.slice b4 q4 d4) (by simp))
  have X_9 := X_8.kp hkp (by show ¬ (w.heap.size = w.heap.size + 1); omega)
  have A1_9 := HA1.out.kp_old hlA1 A1_8 hkp (fun b hb => by show ¬ (b = _); omega)
  have B1_9 := HB1.out.kp_old hlB1 B1_8 hkp (fun b hb => by show ¬ (b = _); omega)
  have A2_9 := HA2.out.kp_old hlA2 A2_8 hkp (fun b hb => by show ¬ (b = _); omega)
  have B2_9 := HB2.out.kp_old hlB2 B2_8 hkp (fun b hb => by show ¬ (b = _); omega)
  have A3_9 := HA3.out.kp_old hlA3 A3_8 hkp (fun b hb => by show ¬ (b = _); omega)
  have B3_9 := HB3.out.kp_old hlB3 B3_8 hkp (fun b hb => by show ¬ (b = _); omega)
  have A4_9 := HA4.out.kp_old hlA4 A4_8 hkp (fun b hb => by show ¬ (b = _); omega)
  have B4_9 := HB4.out.kp_old hlB4 B4_8 hkp (fun b hb => by show ¬ (b = _); omega)
  have hbel_9 := hbel_8.kp hkp hbel_8.size (fun j hj => by show ¬ (j = w.heap.size + 1); omega)
  have hsz_9 := hkp.size
  go_wp2_with fail
  clear X_8 Y_8 cY_8_0 fY_8_0 cY_8_1 fY_8_1 cY_8_2 fY_8_2 cY_8_3 fY_8_3 cY_8_4 fY_8_4 cY_8_5 fY_8_5 A1_8 B1_8 A2_8 B2_8 A3_8 B3_8 A4_8 B4_8 hbel_8 hkp
  generalize (((w8.setCell ⟨w.heap.size + 1, 3, none⟩ (Value.bool s4)).setCell ⟨w.heap.size + 1, 4, none⟩ (Value.slice a4 p4 c4)).setCell ⟨w.heap.size + 1, 5, none⟩ (Value.slice b4 q4 d4)) = v9 at *
  rw [rounds_succ]
  clear HA1 HB1
  clear HA2 HB2
  clear HA3 HB3
  clear HA4 HB4
  go_wp2_with fail
  go_cut [7] (fun sv wx => BoxL v9 s1 s2 p1 q1 p2 q2 l1 k1 l2 k2 sv wx)
  case first =>
    have acc_9 : Below v9.heap.size v9 v9 := Below.refl _ _
    go_wp2_with fail
    have cX_9_0 : _ = some (Value.bool s1) := X_9.cell 0
    have fX_9_0 := X_9.free 0
    have cX_9_1 : _ = some (Value.slice a1 p1 c1) := X_9.cell 1
    have fX_9_1 := X_9.free 1
    have cX_9_2 : _ = some (Value.slice b1 q1 d1) := X_9.cell 2
    have fX_9_2 := X_9.free 2
    have cX_9_3 : _ = some (Value.bool s2) := X_9.cell 3
    have fX_9_3 := X_9.free 3
    have cX_9_4 : _ = some (Value.slice a2 p2 c2) := X_9.cell 4
    have fX_9_4 := X_9.free 4
    have cX_9_5 : _ = some (Value.slice b2 q2 d2) := X_9.cell 5
    have fX_9_5 := X_9.free 5
    go_region_held3 (fun w' => w'.cell? ⟨w.heap.size, 0, none⟩ = some (Value.bool s1) ∧ w'.cell? ⟨w.heap.size, 1, none⟩ = some (Value.slice a1 p1 c1) ∧ w'.cell? ⟨w.heap.size, 2, none⟩ = some (Value.slice b1 q1 d1) ∧ w'.cell? ⟨w.heap.size, 3, none⟩ = some (Value.bool s2) ∧ w'.cell? ⟨w.heap.size, 4, none⟩ = some (Value.slice a2 p2 c2) ∧ w'.cell? ⟨w.heap.size, 5, none⟩ = some (Value.slice b2 q2 d2))
      (first | with_reducible exact ⟨cX_9_0, cX_9_1, cX_9_2, cX_9_3, cX_9_4, cX_9_5⟩ | with_reducible exact ⟨cX_10_0, cX_10_1, cX_10_2, cX_10_3, cX_10_4, cX_10_5⟩ | with_reducible exact ⟨cX_11_0, cX_11_1, cX_11_2, cX_11_3, cX_11_4, cX_11_5⟩ | with_reducible exact ⟨(cell_set6 (by omega) _ _ _ _ _ _).trans (cX_11_0), (cell_set6 (by omega) _ _ _ _ _ _).trans (cX_11_1), (cell_set6 (by omega) _ _ _ _ _ _).trans (cX_11_2), (cell_set6 (by omega) _ _ _ _ _ _).trans (cX_11_3), (cell_set6 (by omega) _ _ _ _ _ _).trans (cX_11_4), (cell_set6 (by omega) _ _ _ _ _ _).trans (cX_11_5)⟩ | with_reducible exact ⟨(X_9.alloc _).cell 0, (X_9.alloc _).cell 1, (X_9.alloc _).cell 2, (X_9.alloc _).cell 3, (X_9.alloc _).cell 4, (X_9.alloc _).cell 5⟩ | with_reducible exact ⟨(X_10.alloc _).cell 0, (X_10.alloc _).cell 1, (X_10.alloc _).cell 2, (X_10.alloc _).cell 3, (X_10.alloc _).cell 4, (X_10.alloc _).cell 5⟩ | with_reducible exact ⟨(X_11.alloc _).cell 0, (X_11.alloc _).cell 1, (X_11.alloc _).cell 2, (X_11.alloc _).cell 3, (X_11.alloc _).cell 4, (X_11.alloc _).cell 5⟩ | go_keep)
      (first
        | (go_at_call 22; ((with_reducible refine (flend2 (A1_9.below bl) (B1_9.below bl) (by omega) (by omega)).mono ?_); (rintro e w10 ⟨pa, pc, pb, pd, rfl, hL, hM, hg1, hg2, hB⟩; have hB_10 : Below v9.heap.size v9 w10 := (bl.next hB); have X_10 := X_9.next hB_10; have cX_10_0 : _ = some (Value.bool s1) := X_10.cell 0; have fX_10_0 := X_10.free 0; have cX_10_1 : _ = some (Value.slice a1 p1 c1) := X_10.cell 1; have fX_10_1 := X_10.free 1; have cX_10_2 : _ = some (Value.slice b1 q1 d1) := X_10.cell 2; have fX_10_2 := X_10.free 2; have cX_10_3 : _ = some (Value.bool s2) := X_10.cell 3; have fX_10_3 := X_10.free 3; have cX_10_4 : _ = some (Value.slice a2 p2 c2) := X_10.cell 4; have fX_10_4 := X_10.free 4; have cX_10_5 : _ = some (Value.slice b2 q2 d2) := X_10.cell 5; have fX_10_5 := X_10.free 5; have Y_10 := Y_9.next hB_10; have A1_10 := A1_9.below hB_10; have B1_10 := B1_9.below hB_10; have A2_10 := A2_9.below hB_10; have B2_10 := B2_9.below hB_10; have A3_10 := A3_9.below hB_10; have B3_10 := B3_9.below hB_10; have A4_10 := A4_9.below hB_10; have B4_10 := B4_9.below hB_10; have hbel_10 := hbel_9.next hB_10; have hsz_10 := hB_10.size; clear X_9 cX_9_0 fX_9_0 cX_9_1 fX_9_1 cX_9_2 fX_9_2 cX_9_3 fX_9_3 cX_9_4 fX_9_4 cX_9_5 fX_9_5 Y_9 A1_9 B1_9 A2_9 B2_9 A3_9 B3_9 A4_9 B4_9 hbel_9 hB_10; have acc_10 := acc_9.next (show Below _ _ _ from (bl.next hB)); (first | (have A := A.next (show Below _ _ _ from (bl.next hB)); have ltA := A.lt; have cA0 : _ = some (Value.bool false) := A.cell 0; have fA0 := A.free 0; have cA1 : _ = some (Value.slice none 0 0) := A.cell 1; have fA1 := A.free 1; have cA2 : _ = some (Value.slice none 0 0) := A.cell 2; have fA2 := A.free 2; have cA3 : _ = some (Value.bool false) := A.cell 3; have fA3 := A.free 3; have cA4 : _ = some (Value.slice none 0 0) := A.cell 4; have fA4 := A.free 4; have cA5 : _ = some (Value.slice none 0 0) := A.cell 5; have fA5 := A.free 5) | (have A := (blk_new' _ #[Value.bool false, Value.slice none 0 0, Value.slice none 0 0, Value.bool false, Value.slice none 0 0, Value.slice none 0 0] 59 (g := v9.heap.size) rfl).next (by first | exact hB | exact below_drew hB); have ltA := A.lt; have cA0 : _ = some (Value.bool false) := A.cell 0; have fA0 := A.free 0; have cA1 : _ = some (Value.slice none 0 0) := A.cell 1; have fA1 := A.free 1; have cA2 : _ = some (Value.slice none 0 0) := A.cell 2; have fA2 := A.free 2; have cA3 : _ = some (Value.bool false) := A.cell 3; have fA3 := A.free 3; have cA4 : _ = some (Value.slice none 0 0) := A.cell 4; have fA4 := A.free 4; have cA5 : _ = some (Value.slice none 0 0) := A.cell 5; have fA5 := A.free 5) | skip); have Lp_10 := hL; have Mp_10 := hM; have gp1 := hid hg1; have gp2 := hid hg2; have tp1 := hid (fun (b o : Nat) (e : pa = some ⟨b, o, none⟩) => hL.blk_lt e); have tp2 := hid (fun (b o : Nat) (e : pb = some ⟨b, o, none⟩) => hM.blk_lt e); clear hL hM hg1 hg2; try clear hB)))
        | (go_at_call 22; ((with_reducible refine (flend2 (A2_10.below bl) (B2_10.below bl) (by omega) (by omega)).mono ?_); (rintro e w11 ⟨qa, qc, qb, qd, rfl, hL, hM, hg1, hg2, hB⟩; have hB_11 : Below w10.heap.size w10 w11 := (bl.next hB); have X_11 := X_10.next hB_11; have cX_11_0 : _ = some (Value.bool s1) := X_11.cell 0; have fX_11_0 := X_11.free 0; have cX_11_1 : _ = some (Value.slice a1 p1 c1) := X_11.cell 1; have fX_11_1 := X_11.free 1; have cX_11_2 : _ = some (Value.slice b1 q1 d1) := X_11.cell 2; have fX_11_2 := X_11.free 2; have cX_11_3 : _ = some (Value.bool s2) := X_11.cell 3; have fX_11_3 := X_11.free 3; have cX_11_4 : _ = some (Value.slice a2 p2 c2) := X_11.cell 4; have fX_11_4 := X_11.free 4; have cX_11_5 : _ = some (Value.slice b2 q2 d2) := X_11.cell 5; have fX_11_5 := X_11.free 5; have Y_11 := Y_10.next hB_11; have A1_11 := A1_10.below hB_11; have B1_11 := B1_10.below hB_11; have A2_11 := A2_10.below hB_11; have B2_11 := B2_10.below hB_11; have A3_11 := A3_10.below hB_11; have B3_11 := B3_10.below hB_11; have A4_11 := A4_10.below hB_11; have B4_11 := B4_10.below hB_11; have Lp_11 := Lp_10.below hB_11; have Mp_11 := Mp_10.below hB_11; have hbel_11 := hbel_10.next hB_11; have hsz_11 := hB_11.size; clear X_10 cX_10_0 fX_10_0 cX_10_1 fX_10_1 cX_10_2 fX_10_2 cX_10_3 fX_10_3 cX_10_4 fX_10_4 cX_10_5 fX_10_5 Y_10 A1_10 B1_10 A2_10 B2_10 A3_10 B3_10 A4_10 B4_10 Lp_10 Mp_10 hbel_10 hB_11; have acc_11 := acc_10.next (show Below _ _ _ from (bl.next hB)); (first | (have A := A.next (show Below _ _ _ from (bl.next hB)); have ltA := A.lt; have cA0 : _ = some (Value.bool false) := A.cell 0; have fA0 := A.free 0; have cA1 : _ = some (Value.slice none 0 0) := A.cell 1; have fA1 := A.free 1; have cA2 : _ = some (Value.slice none 0 0) := A.cell 2; have fA2 := A.free 2; have cA3 : _ = some (Value.bool false) := A.cell 3; have fA3 := A.free 3; have cA4 : _ = some (Value.slice none 0 0) := A.cell 4; have fA4 := A.free 4; have cA5 : _ = some (Value.slice none 0 0) := A.cell 5; have fA5 := A.free 5) | (have A := (blk_new' _ #[Value.bool false, Value.slice none 0 0, Value.slice none 0 0, Value.bool false, Value.slice none 0 0, Value.slice none 0 0] 59 (g := w10.heap.size) rfl).next (by first | exact hB | exact below_drew hB); have ltA := A.lt; have cA0 : _ = some (Value.bool false) := A.cell 0; have fA0 := A.free 0; have cA1 : _ = some (Value.slice none 0 0) := A.cell 1; have fA1 := A.free 1; have cA2 : _ = some (Value.slice none 0 0) := A.cell 2; have fA2 := A.free 2; have cA3 : _ = some (Value.bool false) := A.cell 3; have fA3 := A.free 3; have cA4 : _ = some (Value.slice none 0 0) := A.cell 4; have fA4 := A.free 4; have cA5 : _ = some (Value.slice none 0 0) := A.cell 5; have fA5 := A.free 5) | skip); have Lq_11 := hL; have Mq_11 := hM; have gq1 := hid hg1; have gq2 := hid hg2; have tq1 := hid (fun (b o : Nat) (e : qa = some ⟨b, o, none⟩) => hL.blk_lt e); have tq2 := hid (fun (b o : Nat) (e : qb = some ⟨b, o, none⟩) => hM.blk_lt e); clear hL hM hg1 hg2; try clear hB))))
    all_goals (go_wp2_with fail; go_meet; first | with_reducible exact boxL_new Lp_11 Mp_11 Lq_11 Mq_11 acc_11 | with_reducible exact boxL_set A Lp_11 Mp_11 Lq_11 Mq_11 (by omega) acc_11 (fun b o e => by have h1 := tp1.out b o e; have h2 := gp1.out b o e; (try simp at h2); omega) (fun b o e => by have h1 := tp2.out b o e; have h2 := gp2.out b o e; (try simp at h2); omega) (fun b o e => by have h1 := tq1.out b o e; have h2 := gq1.out b o e; (try simp at h2); omega) (fun b o e => by have h1 := tq2.out b o e; have h2 := gq2.out b o e; (try simp at h2); omega))
  case rest =>
    obtain ⟨gP, pa, pc, pb, pd, pe, pf, pg, ph, rfl, hbk, hgeP, hL1, hL2, hL3, hL4, hBc⟩ := hcut
    have hB_10 : Below v9.heap.size v9 wc := hBc
    have X_10 := X_9.next hB_10
    have Y_10 := Y_9.next hB_10
    have A1_10 := A1_9.below hB_10
    have B1_10 := B1_9.below hB_10
    have A2_10 := A2_9.below hB_10
    have B2_10 := B2_9.below hB_10
    have A3_10 := A3_9.below hB_10
    have B3_10 := B3_9.below hB_10
    have A4_10 := A4_9.below hB_10
    have B4_10 := B4_9.below hB_10
    have hbel_10 := hbel_9.next hB_10
    have hsz_10 := hB_10.size
    clear X_9 Y_9 A1_9 B1_9 A2_9 B2_9 A3_9 B3_9 A4_9 B4_9 hbel_9 hB_10
    clear hBc
    obtain ⟨wc10, hwc⟩ : ∃ y : World, y = wc := ⟨_, rfl⟩
    subst hwc
    have P_10 := hbk
    have hltP := hbk.lt
    clear hbk
    have PL_10 := hL1
    have PM_10 := hL2
    have PN_10 := hL3
    have PO_10 := hL4
    clear hL1 hL2 hL3 hL4
    go_wp2_with fail
    go_cut [8] (fun sv wx => BoxL wc10 s3 s4 p3 q3 p4 q4 l3 k3 l4 k4 sv wx)
    case first =>
      have acc_10 : Below wc10.heap.size wc10 wc10 := Below.refl _ _
      go_wp2_with fail
      have cY_10_0 : _ = some (Value.bool s3) := Y_10.cell 0
      have fY_10_0 := Y_10.free 0
      have cY_10_1 : _ = some (Value.slice a3 p3 c3) := Y_10.cell 1
      have fY_10_1 := Y_10.free 1
      have cY_10_2 : _ = some (Value.slice b3 q3 d3) := Y_10.cell 2
      have fY_10_2 := Y_10.free 2
      have cY_10_3 : _ = some (Value.bool s4) := Y_10.cell 3
      have fY_10_3 := Y_10.free 3
      have cY_10_4 : _ = some (Value.slice a4 p4 c4) := Y_10.cell 4
      have fY_10_4 := Y_10.free 4
      have cY_10_5 : _ = some (Value.slice b4 q4 d4) := Y_10.cell 5
      have fY_10_5 := Y_10.free 5
      go_region_held3 (fun w' => w'.cell? ⟨w.heap.size + 1, 0, none⟩ = some (Value.bool s3) ∧ w'.cell? ⟨w.heap.size + 1, 1, none⟩ = some (Value.slice a3 p3 c3) ∧ w'.cell? ⟨w.heap.size + 1, 2, none⟩ = some (Value.slice b3 q3 d3) ∧ w'.cell? ⟨w.heap.size + 1, 3, none⟩ = some (Value.bool s4) ∧ w'.cell? ⟨w.heap.size + 1, 4, none⟩ = some (Value.slice a4 p4 c4) ∧ w'.cell? ⟨w.heap.size + 1, 5, none⟩ = some (Value.slice b4 q4 d4))
        (first | with_reducible exact ⟨cY_10_0, cY_10_1, cY_10_2, cY_10_3, cY_10_4, cY_10_5⟩ | with_reducible exact ⟨cY_11_0, cY_11_1, cY_11_2, cY_11_3, cY_11_4, cY_11_5⟩ | with_reducible exact ⟨cY_12_0, cY_12_1, cY_12_2, cY_12_3, cY_12_4, cY_12_5⟩ | with_reducible exact ⟨(cell_set6 (by omega) _ _ _ _ _ _).trans (cY_12_0), (cell_set6 (by omega) _ _ _ _ _ _).trans (cY_12_1), (cell_set6 (by omega) _ _ _ _ _ _).trans (cY_12_2), (cell_set6 (by omega) _ _ _ _ _ _).trans (cY_12_3), (cell_set6 (by omega) _ _ _ _ _ _).trans (cY_12_4), (cell_set6 (by omega) _ _ _ _ _ _).trans (cY_12_5)⟩ | with_reducible exact ⟨(Y_10.alloc _).cell 0, (Y_10.alloc _).cell 1, (Y_10.alloc _).cell 2, (Y_10.alloc _).cell 3, (Y_10.alloc _).cell 4, (Y_10.alloc _).cell 5⟩ | with_reducible exact ⟨(Y_11.alloc _).cell 0, (Y_11.alloc _).cell 1, (Y_11.alloc _).cell 2, (Y_11.alloc _).cell 3, (Y_11.alloc _).cell 4, (Y_11.alloc _).cell 5⟩ | with_reducible exact ⟨(Y_12.alloc _).cell 0, (Y_12.alloc _).cell 1, (Y_12.alloc _).cell 2, (Y_12.alloc _).cell 3, (Y_12.alloc _).cell 4, (Y_12.alloc _).cell 5⟩ | go_keep)
        (first
          | (go_at_call 22; ((with_reducible refine (flend2 (A3_10.below bl) (B3_10.below bl) (by omega) (by omega)).mono ?_); (rintro e w11 ⟨pa, pc, pb, pd, rfl, hL, hM, hg1, hg2, hB⟩; have hB_11 : Below wc10.heap.size wc10 w11 := (bl.next hB); have X_11 := X_10.next hB_11; have Y_11 := Y_10.next hB_11; have cY_11_0 : _ = some (Value.bool s3) := Y_11.cell 0; have fY_11_0 := Y_11.free 0; have cY_11_1 : _ = some (Value.slice a3 p3 c3) := Y_11.cell 1; have fY_11_1 := Y_11.free 1; have cY_11_2 : _ = some (Value.slice b3 q3 d3) := Y_11.cell 2; have fY_11_2 := Y_11.free 2; have cY_11_3 : _ = some (Value.bool s4) := Y_11.cell 3; have fY_11_3 := Y_11.free 3; have cY_11_4 : _ = some (Value.slice a4 p4 c4) := Y_11.cell 4; have fY_11_4 := Y_11.free 4; have cY_11_5 : _ = some (Value.slice b4 q4 d4) := Y_11.cell 5; have fY_11_5 := Y_11.free 5; have P_11 := P_10.next hB_11; have A1_11 := A1_10.below hB_11; have B1_11 := B1_10.below hB_11; have A2_11 := A2_10.below hB_11; have B2_11 := B2_10.below hB_11; have A3_11 := A3_10.below hB_11; have B3_11 := B3_10.below hB_11; have A4_11 := A4_10.below hB_11; have B4_11 := B4_10.below hB_11; have PL_11 := PL_10.below hB_11; have PM_11 := PM_10.below hB_11; have PN_11 := PN_10.below hB_11; have PO_11 := PO_10.below hB_11; have hbel_11 := hbel_10.next hB_11; have hsz_11 := hB_11.size; clear X_10 Y_10 cY_10_0 fY_10_0 cY_10_1 fY_10_1 cY_10_2 fY_10_2 cY_10_3 fY_10_3 cY_10_4 fY_10_4 cY_10_5 fY_10_5 P_10 A1_10 B1_10 A2_10 B2_10 A3_10 B3_10 A4_10 B4_10 PL_10 PM_10 PN_10 PO_10 hbel_10 hB_11; have acc_11 := acc_10.next (show Below _ _ _ from (bl.next hB)); (first | (have A := A.next (show Below _ _ _ from (bl.next hB)); have ltA := A.lt; have cA0 : _ = some (Value.bool false) := A.cell 0; have fA0 := A.free 0; have cA1 : _ = some (Value.slice none 0 0) := A.cell 1; have fA1 := A.free 1; have cA2 : _ = some (Value.slice none 0 0) := A.cell 2; have fA2 := A.free 2; have cA3 : _ = some (Value.bool false) := A.cell 3; have fA3 := A.free 3; have cA4 : _ = some (Value.slice none 0 0) := A.cell 4; have fA4 := A.free 4; have cA5 : _ = some (Value.slice none 0 0) := A.cell 5; have fA5 := A.free 5) | (have A := (blk_new' _ #[Value.bool false, Value.slice none 0 0, Value.slice none 0 0, Value.bool false, Value.slice none 0 0, Value.slice none 0 0] 59 (g := wc10.heap.size) rfl).next (by first | exact hB | exact below_drew hB); have ltA := A.lt; have cA0 : _ = some (Value.bool false) := A.cell 0; have fA0 := A.free 0; have cA1 : _ = some (Value.slice none 0 0) := A.cell 1; have fA1 := A.free 1; have cA2 : _ = some (Value.slice none 0 0) := A.cell 2; have fA2 := A.free 2; have cA3 : _ = some (Value.bool false) := A.cell 3; have fA3 := A.free 3; have cA4 : _ = some (Value.slice none 0 0) := A.cell 4; have fA4 := A.free 4; have cA5 : _ = some (Value.slice none 0 0) := A.cell 5; have fA5 := A.free 5) | skip); have Lp_11 := hL; have Mp_11 := hM; have gp1 := hid hg1; have gp2 := hid hg2; have tp1 := hid (fun (b o : Nat) (e : pa = some ⟨b, o, none⟩) => hL.blk_lt e); have tp2 := hid (fun (b o : Nat) (e : pb = some ⟨b, o, none⟩) => hM.blk_lt e); clear hL hM hg1 hg2; try clear hB)))
          | (go_at_call 22; ((with_reducible refine (flend2 (A4_11.below bl) (B4_11.below bl) (by omega) (by omega)).mono ?_); (rintro e w12 ⟨qa, qc, qb, qd, rfl, hL, hM, hg1, hg2, hB⟩; have hB_12 : Below w11.heap.size w11 w12 := (bl.next hB); have X_12 := X_11.next hB_12; have Y_12 := Y_11.next hB_12; have cY_12_0 : _ = some (Value.bool s3) := Y_12.cell 0; have fY_12_0 := Y_12.free 0; have cY_12_1 : _ = some (Value.slice a3 p3 c3) := Y_12.cell 1; have fY_12_1 := Y_12.free 1; have cY_12_2 : _ = some (Value.slice b3 q3 d3) := Y_12.cell 2; have fY_12_2 := Y_12.free 2; have cY_12_3 : _ = some (Value.bool s4) := Y_12.cell 3; have fY_12_3 := Y_12.free 3; have cY_12_4 : _ = some (Value.slice a4 p4 c4) := Y_12.cell 4; have fY_12_4 := Y_12.free 4; have cY_12_5 : _ = some (Value.slice b4 q4 d4) := Y_12.cell 5; have fY_12_5 := Y_12.free 5; have P_12 := P_11.next hB_12; have A1_12 := A1_11.below hB_12; have B1_12 := B1_11.below hB_12; have A2_12 := A2_11.below hB_12; have B2_12 := B2_11.below hB_12; have A3_12 := A3_11.below hB_12; have B3_12 := B3_11.below hB_12; have A4_12 := A4_11.below hB_12; have B4_12 := B4_11.below hB_12; have PL_12 := PL_11.below hB_12; have PM_12 := PM_11.below hB_12; have PN_12 := PN_11.below hB_12; have PO_12 := PO_11.below hB_12; have Lp_12 := Lp_11.below hB_12; have Mp_12 := Mp_11.below hB_12; have hbel_12 := hbel_11.next hB_12; have hsz_12 := hB_12.size; clear X_11 Y_11 cY_11_0 fY_11_0 cY_11_1 fY_11_1 cY_11_2 fY_11_2 cY_11_3 fY_11_3 cY_11_4 fY_11_4 cY_11_5 fY_11_5 P_11 A1_11 B1_11 A2_11 B2_11 A3_11 B3_11 A4_11 B4_11 PL_11 PM_11 PN_11 PO_11 Lp_11 Mp_11 hbel_11 hB_12; have acc_12 := acc_11.next (show Below _ _ _ from (bl.next hB)); (first | (have A := A.next (show Below _ _ _ from (bl.next hB)); have ltA := A.lt; have cA0 : _ = some (Value.bool false) := A.cell 0; have fA0 := A.free 0; have cA1 : _ = some (Value.slice none 0 0) := A.cell 1; have fA1 := A.free 1; have cA2 : _ = some (Value.slice none 0 0) := A.cell 2; have fA2 := A.free 2; have cA3 : _ = some (Value.bool false) := A.cell 3; have fA3 := A.free 3; have cA4 : _ = some (Value.slice none 0 0) := A.cell 4; have fA4 := A.free 4; have cA5 : _ = some (Value.slice none 0 0) := A.cell 5; have fA5 := A.free 5) | (have A := (blk_new' _ #[Value.bool false, Value.slice none 0 0, Value.slice none 0 0, Value.bool false, Value.slice none 0 0, Value.slice none 0 0] 59 (g := w11.heap.size) rfl).next (by first | exact hB | exact below_drew hB); have ltA := A.lt; have cA0 : _ = some (Value.bool false) := A.cell 0; have fA0 := A.free 0; have cA1 : _ = some (Value.slice none 0 0) := A.cell 1; have fA1 := A.free 1; have cA2 : _ = some (Value.slice none 0 0) := A.cell 2; have fA2 := A.free 2; have cA3 : _ = some (Value.bool false) := A.cell 3; have fA3 := A.free 3; have cA4 : _ = some (Value.slice none 0 0) := A.cell 4; have fA4 := A.free 4; have cA5 : _ = some (Value.slice none 0 0) := A.cell 5; have fA5 := A.free 5) | skip); have Lq_12 := hL; have Mq_12 := hM; have gq1 := hid hg1; have gq2 := hid hg2; have tq1 := hid (fun (b o : Nat) (e : qa = some ⟨b, o, none⟩) => hL.blk_lt e); have tq2 := hid (fun (b o : Nat) (e : qb = some ⟨b, o, none⟩) => hM.blk_lt e); clear hL hM hg1 hg2; try clear hB))))
      all_goals (go_wp2_with fail; go_meet; first | with_reducible exact boxL_new Lp_12 Mp_12 Lq_12 Mq_12 acc_12 | with_reducible exact boxL_set A Lp_12 Mp_12 Lq_12 Mq_12 (by omega) acc_12 (fun b o e => by have h1 := tp1.out b o e; have h2 := gp1.out b o e; (try simp at h2); omega) (fun b o e => by have h1 := tp2.out b o e; have h2 := gp2.out b o e; (try simp at h2); omega) (fun b o e => by have h1 := tq1.out b o e; have h2 := gq1.out b o e; (try simp at h2); omega) (fun b o e => by have h1 := tq2.out b o e; have h2 := gq2.out b o e; (try simp at h2); omega))
    case rest =>
      obtain ⟨gR, ra, rc, rb, rd, re, rf, rg, rh, rfl, hbk, hgeR, hL1, hL2, hL3, hL4, hBc⟩ := hcut
      have hB_11 : Below wc10.heap.size wc10 wc := hBc
      have X_11 := X_10.next hB_11
      have Y_11 := Y_10.next hB_11
      have P_11 := P_10.next hB_11
      have A1_11 := A1_10.below hB_11
      have B1_11 := B1_10.below hB_11
      have A2_11 := A2_10.below hB_11
      have B2_11 := B2_10.below hB_11
      have A3_11 := A3_10.below hB_11
      have B3_11 := B3_10.below hB_11
      have A4_11 := A4_10.below hB_11
      have B4_11 := B4_10.below hB_11
      have PL_11 := PL_10.below hB_11
      have PM_11 := PM_10.below hB_11
      have PN_11 := PN_10.below hB_11
      have PO_11 := PO_10.below hB_11
      have hbel_11 := hbel_10.next hB_11
      have hsz_11 := hB_11.size
      clear X_10 Y_10 P_10 A1_10 B1_10 A2_10 B2_10 A3_10 B3_10 A4_10 B4_10 PL_10 PM_10 PN_10 PO_10 hbel_10 hB_11
      clear hBc
      obtain ⟨wc11, hwc⟩ : ∃ y : World, y = wc := ⟨_, rfl⟩
      subst hwc
      have R_11 := hbk
      have hltR := hbk.lt
      clear hbk
      have RL_11 := hL1
      have RM_11 := hL2
      have RN_11 := hL3
      have RO_11 := hL4
      clear hL1 hL2 hL3 hL4
      have Q1_11 := rdq_of (K := 12) s1 A1_11 hp1 B1_11 hq1
      have Q2_11 := rdq_of (K := 12) s2 A2_11 hp2 B2_11 hq2
      have Q3_11 := rdq_of (K := 12) s3 A3_11 hp3 B3_11 hq3
      have Q4_11 := rdq_of (K := 12) s4 A4_11 hp4 B4_11 hq4
      have V1_11 := rdq_of (K := 12) s1 PL_11.2 hp1 PM_11.2 hq1
      have V2_11 := rdq_of (K := 12) s2 PN_11.2 hp2 PO_11.2 hq2
      have V3_11 := rdq_of (K := 12) s3 RL_11.2 hp3 RM_11.2 hq3
      have V4_11 := rdq_of (K := 12) s4 RN_11.2 hp4 RO_11.2 hq4
      have hx1 := hid (show QS (qv s1 (val l1) (val k1)) 12 from Q1_11.qs (by omega))
      generalize qv s1 (val l1) (val k1) = x1 at *
      have hx2 := hid (show QS (qv s2 (val l2) (val k2)) 12 from Q2_11.qs (by omega))
      generalize qv s2 (val l2) (val k2) = x2 at *
      have hy1 := hid (show QS (qv s3 (val l3) (val k3)) 12 from Q3_11.qs (by omega))
      generalize qv s3 (val l3) (val k3) = y1 at *
      have hy2 := hid (show QS (qv s4 (val l4) (val k4)) 12 from Q4_11.qs (by omega))
      generalize qv s4 (val l4) (val k4) = y2 at *
      have cX_11_0 : _ = some (Value.bool s1) := X_11.cell 0
      have fX_11_0 := X_11.free 0
      have cX_11_1 : _ = some (Value.slice a1 p1 c1) := X_11.cell 1
      have fX_11_1 := X_11.free 1
      have cX_11_2 : _ = some (Value.slice b1 q1 d1) := X_11.cell 2
      have fX_11_2 := X_11.free 2
      have cX_11_3 : _ = some (Value.bool s2) := X_11.cell 3
      have fX_11_3 := X_11.free 3
      have cX_11_4 : _ = some (Value.slice a2 p2 c2) := X_11.cell 4
      have fX_11_4 := X_11.free 4
      have cX_11_5 : _ = some (Value.slice b2 q2 d2) := X_11.cell 5
      have fX_11_5 := X_11.free 5
      have cY_11_0 : _ = some (Value.bool s3) := Y_11.cell 0
      have fY_11_0 := Y_11.free 0
      have cY_11_1 : _ = some (Value.slice a3 p3 c3) := Y_11.cell 1
      have fY_11_1 := Y_11.free 1
      have cY_11_2 : _ = some (Value.slice b3 q3 d3) := Y_11.cell 2
      have fY_11_2 := Y_11.free 2
      have cY_11_3 : _ = some (Value.bool s4) := Y_11.cell 3
      have fY_11_3 := Y_11.free 3
      have cY_11_4 : _ = some (Value.slice a4 p4 c4) := Y_11.cell 4
      have fY_11_4 := Y_11.free 4
      have cY_11_5 : _ = some (Value.slice b4 q4 d4) := Y_11.cell 5
      have fY_11_5 := Y_11.free 5
      have hbx0 : Blk (((wc11.alloc (.cells #[Value.bool s1, Value.slice a1 p1 c1, Value.slice b1 q1 d1, Value.bool s2, Value.slice a2 p2 c2, Value.slice b2 q2 d2] 60)).alloc (.cells #[Value.bool s3, Value.slice a3 p3 c3, Value.slice b3 q3 d3, Value.bool s4, Value.slice a4 p4 c4, Value.slice b4 q4 d4] 60)).alloc (.cells #[] 61)) (wc11.heap.size) #[Value.bool s1, Value.slice a1 p1 c1, Value.slice b1 q1 d1, Value.bool s2, Value.slice a2 p2 c2, Value.slice b2 q2 d2] := (((blk_new' wc11 #[Value.bool s1, Value.slice a1 p1 c1, Value.slice b1 q1 d1, Value.bool s2, Value.slice a2 p2 c2, Value.slice b2 q2 d2] 60 (g := wc11.heap.size) (by simp)).alloc _).alloc _)
      have hbx1 : Blk (((wc11.alloc (.cells #[Value.bool s1, Value.slice a1 p1 c1, Value.slice b1 q1 d1, Value.bool s2, Value.slice a2 p2 c2, Value.slice b2 q2 d2] 60)).alloc (.cells #[Value.bool s3, Value.slice a3 p3 c3, Value.slice b3 q3 d3, Value.bool s4, Value.slice a4 p4 c4, Value.slice b4 q4 d4] 60)).alloc (.cells #[] 61)) (wc11.heap.size + 1) #[Value.bool s3, Value.slice a3 p3 c3, Value.slice b3 q3 d3, Value.bool s4, Value.slice a4 p4 c4, Value.slice b4 q4 d4] := ((blk_new' (wc11.alloc (.cells #[Value.bool s1, Value.slice a1 p1 c1, Value.slice b1 q1 d1, Value.bool s2, Value.slice a2 p2 c2, Value.slice b2 q2 d2] 60)) #[Value.bool s3, Value.slice a3 p3 c3, Value.slice b3 q3 d3, Value.bool s4, Value.slice a4 p4 c4, Value.slice b4 q4 d4] 60 (g := wc11.heap.size + 1) (by simp)).alloc _)
      have hbx2 : Blk (((wc11.alloc (.cells #[Value.bool s1, Value.slice a1 p1 c1, Value.slice b1 q1 d1, Value.bool s2, Value.slice a2 p2 c2, Value.slice b2 q2 d2] 60)).alloc (.cells #[Value.bool s3, Value.slice a3 p3 c3, Value.slice b3 q3 d3, Value.bool s4, Value.slice a4 p4 c4, Value.slice b4 q4 d4] 60)).alloc (.cells #[] 61)) (wc11.heap.size + 1 + 1) #[] := (blk_new' ((wc11.alloc (.cells #[Value.bool s1, Value.slice a1 p1 c1, Value.slice b1 q1 d1, Value.bool s2, Value.slice a2 p2 c2, Value.slice b2 q2 d2] 60)).alloc (.cells #[Value.bool s3, Value.slice a3 p3 c3, Value.slice b3 q3 d3, Value.bool s4, Value.slice a4 p4 c4, Value.slice b4 q4 d4] 60)) #[] 61 (g := wc11.heap.size + 1 + 1) (by simp))
      have hbB : Below wc11.heap.size wc11 (((wc11.alloc (.cells #[Value.bool s1, Value.slice a1 p1 c1, Value.slice b1 q1 d1, Value.bool s2, Value.slice a2 p2 c2, Value.slice b2 q2 d2] 60)).alloc (.cells #[Value.bool s3, Value.slice a3 p3 c3, Value.slice b3 q3 d3, Value.bool s4, Value.slice a4 p4 c4, Value.slice b4 q4 d4] 60)).alloc (.cells #[] 61)) := bl
      have mY_1_0 : ((wc11.alloc (.cells #[Value.bool s1, Value.slice a1 p1 c1, Value.slice b1 q1 d1, Value.bool s2, Value.slice a2 p2 c2, Value.slice b2 q2 d2] 60))).cell? ⟨w.heap.size + 1, 0, none⟩ = some (Value.bool s3) := ((Y_11.alloc _)).cell 0
      have mY_1_1 : ((wc11.alloc (.cells #[Value.bool s1, Value.slice a1 p1 c1, Value.slice b1 q1 d1, Value.bool s2, Value.slice a2 p2 c2, Value.slice b2 q2 d2] 60))).cell? ⟨w.heap.size + 1, 1, none⟩ = some (Value.slice a3 p3 c3) := ((Y_11.alloc _)).cell 1
      have mY_1_2 : ((wc11.alloc (.cells #[Value.bool s1, Value.slice a1 p1 c1, Value.slice b1 q1 d1, Value.bool s2, Value.slice a2 p2 c2, Value.slice b2 q2 d2] 60))).cell? ⟨w.heap.size + 1, 2, none⟩ = some (Value.slice b3 q3 d3) := ((Y_11.alloc _)).cell 2
      have mY_1_3 : ((wc11.alloc (.cells #[Value.bool s1, Value.slice a1 p1 c1, Value.slice b1 q1 d1, Value.bool s2, Value.slice a2 p2 c2, Value.slice b2 q2 d2] 60))).cell? ⟨w.heap.size + 1, 3, none⟩ = some (Value.bool s4) := ((Y_11.alloc _)).cell 3
      have mY_1_4 : ((wc11.alloc (.cells #[Value.bool s1, Value.slice a1 p1 c1, Value.slice b1 q1 d1, Value.bool s2, Value.slice a2 p2 c2, Value.slice b2 q2 d2] 60))).cell? ⟨w.heap.size + 1, 4, none⟩ = some (Value.slice a4 p4 c4) := ((Y_11.alloc _)).cell 4
      have mY_1_5 : ((wc11.alloc (.cells #[Value.bool s1, Value.slice a1 p1 c1, Value.slice b1 q1 d1, Value.bool s2, Value.slice a2 p2 c2, Value.slice b2 q2 d2] 60))).cell? ⟨w.heap.size + 1, 5, none⟩ = some (Value.slice b4 q4 d4) := ((Y_11.alloc _)).cell 5
      have hltC := hbx0.lt
      have hltD := hbx1.lt
      have hltE := hbx2.lt
      have hB_12 : Below wc11.heap.size wc11 (((wc11.alloc (.cells #[Value.bool s1, Value.slice a1 p1 c1, Value.slice b1 q1 d1, Value.bool s2, Value.slice a2 p2 c2, Value.slice b2 q2 d2] 60)).alloc (.cells #[Value.bool s3, Value.slice a3 p3 c3, Value.slice b3 q3 d3, Value.bool s4, Value.slice a4 p4 c4, Value.slice b4 q4 d4] 60)).alloc (.cells #[] 61)) := hbB
      have X_12 := X_11.next hB_12
      have Y_12 := Y_11.next hB_12
      have P_12 := P_11.next hB_12
      have R_12 := R_11.next hB_12
      have A1_12 := A1_11.below hB_12
      have B1_12 := B1_11.below hB_12
      have A2_12 := A2_11.below hB_12
      have B2_12 := B2_11.below hB_12
      have A3_12 := A3_11.below hB_12
      have B3_12 := B3_11.below hB_12
      have A4_12 := A4_11.below hB_12
      have B4_12 := B4_11.below hB_12
      have PL_12 := PL_11.below hB_12
      have PM_12 := PM_11.below hB_12
      have PN_12 := PN_11.below hB_12
      have PO_12 := PO_11.below hB_12
      have RL_12 := RL_11.below hB_12
      have RM_12 := RM_11.below hB_12
      have RN_12 := RN_11.below hB_12
      have RO_12 := RO_11.below hB_12
      have Q1_12 := Q1_11.below hB_12
      have Q2_12 := Q2_11.below hB_12
      have Q3_12 := Q3_11.below hB_12
      have Q4_12 := Q4_11.below hB_12
      have V1_12 := V1_11.below hB_12
      have V2_12 := V2_11.below hB_12
      have V3_12 := V3_11.below hB_12
      have V4_12 := V4_11.below hB_12
      have hbel_12 := hbel_11.next hB_12
      have hsz_12 := hB_12.size
      clear hB_12
      have C_12 := hbx0
      clear hbx0
      have D_12 := hbx1
      clear hbx1
      have E_12 := hbx2
      clear hbx2
      clear hbB
      have cP_12_0 : _ = some (Value.bool s1) := P_12.cell 0
      have cP_12_1 : _ = some (Value.slice pa p1 pc) := P_12.cell 1
      have cP_12_2 : _ = some (Value.slice pb q1 pd) := P_12.cell 2
      have cP_12_3 : _ = some (Value.bool s2) := P_12.cell 3
      have cP_12_4 : _ = some (Value.slice pe p2 pf) := P_12.cell 4
      have cP_12_5 : _ = some (Value.slice pg q2 ph) := P_12.cell 5
      have cR_12_0 : _ = some (Value.bool s3) := R_12.cell 0
      have cR_12_1 : _ = some (Value.slice ra p3 rc) := R_12.cell 1
      have cR_12_2 : _ = some (Value.slice rb q3 rd) := R_12.cell 2
      have cR_12_3 : _ = some (Value.bool s4) := R_12.cell 3
      have cR_12_4 : _ = some (Value.slice re p4 rf) := R_12.cell 4
      have cR_12_5 : _ = some (Value.slice rg q4 rh) := R_12.cell 5
      go_wp2_with fail
      clear X_11 cX_11_0 fX_11_0 cX_11_1 fX_11_1 cX_11_2 fX_11_2 cX_11_3 fX_11_3 cX_11_4 fX_11_4 cX_11_5 fX_11_5 Y_11 cY_11_0 fY_11_0 cY_11_1 fY_11_1 cY_11_2 fY_11_2 cY_11_3 fY_11_3 cY_11_4 fY_11_4 cY_11_5 fY_11_5 P_11 R_11 A1_11 B1_11 A2_11 B2_11 A3_11 B3_11 A4_11 B4_11 PL_11 PM_11 PN_11 PO_11 RL_11 RM_11 RN_11 RO_11 Q1_11 Q2_11 Q3_11 Q4_11 V1_11 V2_11 V3_11 V4_11 hbel_11 mY_1_0 mY_1_1 mY_1_2 mY_1_3 mY_1_4 mY_1_5
      generalize (((wc11.alloc (.cells #[Value.bool s1, Value.slice a1 p1 c1, Value.slice b1 q1 d1, Value.bool s2, Value.slice a2 p2 c2, Value.slice b2 q2 d2] 60)).alloc (.cells #[Value.bool s3, Value.slice a3 p3 c3, Value.slice b3 q3 d3, Value.bool s4, Value.slice a4 p4 c4, Value.slice b4 q4 d4] 60)).alloc (.cells #[] 61)) = v12 at *
      have mX := hid X_12
      have mY := hid Y_12
      have mP := hid P_12
      have mR := hid R_12
      have mC := hid C_12
      have mD := hid D_12
      have mE := hid E_12
      have mA1 := hid A1_12
      have mB1 := hid B1_12
      have mA2 := hid A2_12
      have mB2 := hid B2_12
      have mA3 := hid A3_12
      have mB3 := hid B3_12
      have mA4 := hid A4_12
      have mB4 := hid B4_12
      have mPL := hid PL_12
      have mPM := hid PM_12
      have mPN := hid PN_12
      have mPO := hid PO_12
      have mRL := hid RL_12
      have mRM := hid RM_12
      have mRN := hid RN_12
      have mRO := hid RO_12
      have mQ1 := hid Q1_12
      have mQ2 := hid Q2_12
      have mQ3 := hid Q3_12
      have mQ4 := hid Q4_12
      have mV1 := hid V1_12
      have mV2 := hid V2_12
      have mV3 := hid V3_12
      have mV4 := hid V4_12
      have mhbel := hid hbel_12
      have hbM_12 : Below v12.heap.size v12 v12 := Below.refl _ _
      obtain ⟨vM, hvM⟩ : ∃ y : World, y = v12 := ⟨_, rfl⟩
      subst hvM
      have T_12 := hid (told2_nil vM.heap.size vM)
      have hbT_12 : Below vM.heap.size vM vM := Below.refl _ _
      obtain ⟨o1, ho10⟩ : ∃ q : Rat, x1 + y1 = q := ⟨_, rfl⟩
      have ho1 := hid ho10
      have qo1 := hid (show QS o1 60 from ho10 ▸ (hx1.out.add hy1.out).mono (by omega))
      clear ho10
      obtain ⟨o2, ho20⟩ : ∃ q : Rat, x2 + y2 = q := ⟨_, rfl⟩
      have ho2 := hid ho20
      have qo2 := hid (show QS o2 60 from ho20 ▸ (hx2.out.add hy2.out).mono (by omega))
      clear ho20
      obtain ⟨o3, ho30⟩ : ∃ q : Rat, x1 * y1 = q := ⟨_, rfl⟩
      have ho3 := hid ho30
      have qo3 := hid (show QS o3 60 from ho30 ▸ (hx1.out.mul hy1.out).mono (by omega))
      clear ho30
      obtain ⟨o4, ho40⟩ : ∃ q : Rat, x1 * y2 + x2 * y1 = q := ⟨_, rfl⟩
      have ho4 := hid ho40
      have qo4 := hid (show QS o4 60 from ho40 ▸ ((hx1.out.mul hy2.out).add (hx2.out.mul hy1.out)).mono (by omega))
      clear ho40
      obtain ⟨o5, ho50⟩ : ∃ q : Rat, 0 = q := ⟨_, rfl⟩
      have ho5 := hid ho50
      have qo5 := hid (show QS o5 60 from ho50 ▸ qs_zero.mono (by omega))
      clear ho50
      obtain ⟨o6, ho60⟩ : ∃ q : Rat, 1 = q := ⟨_, rfl⟩
      have ho6 := hid ho60
      have qo6 := hid (show QS o6 60 from ho60 ▸ (qs_lit (by decide) (by decide) (Nat.le_refl _) : QS 1 1).mono (by omega))
      clear ho60
      obtain ⟨sm, hsm0⟩ : ∃ b : Bool, ((cmpQ x1 y1 == 0) && (cmpQ x2 y2 == 0)) = b := ⟨_, rfl⟩
      have hsm := hid hsm0
      clear hsm0
      have bsm : (sm == sm) = true := beq_self_eq_true _
      have hst := hid (show ((cmpQ x1 x1 == 0) && (cmpQ x2 x2 == 0)) = true by rw [cmpQ_self, cmpQ_self]; rfl)
      have G0 := hid (fun w => (show Calls Tryz.prog 20 #[.int .i64 0, .int .i64 1] w (RetQ w o5) from by have h := fhalf (w := w) 0 1 (by omega) (by omega) (by omega) (by omega) (by omega); rwa [show Rat.divInt 0 1 = o5 from (by decide : Rat.divInt 0 1 = 0).trans ho5.out] at h))
      have G1 := hid (fun w => (show Calls Tryz.prog 20 #[.int .i64 1, .int .i64 1] w (RetQ w o6) from by have h := fhalf (w := w) 1 1 (by omega) (by omega) (by omega) (by omega) (by omega); rwa [show Rat.divInt 1 1 = o6 from (by decide : Rat.divInt 1 1 = 1).trans ho6.out] at h))
      have HZ := hid (fun w => (show Calls Tryz.prog 47 #[.agg #[]] w (RetSl w o5 o5) from ho5.out ▸ kszero))
      have H1 := hid (fun w => (show Calls Tryz.prog 48 #[.agg #[]] w (RetSl w o6 o5) from ho5.out ▸ ho6.out ▸ ksone))
      go_wp2_with fail
      refine (ksadd V1_12 V2_12 V3_12 V4_12 (by omega : 1 ≤ 12) (by omega)).mono ?_
      rw [ho1.out, ho2.out]
      rintro e w13 ⟨sa, sn, sc, sb, sm, sd, se, sj, sf, sg, sk, sh, rfl, hO1, hO2, hO3, hO4, hD, hB⟩
      have hBT : Below vM.heap.size vM w13 := (bl.next hB)
      have T_13 := hid (T_12.out.cons4 (by have := hbT_12.size; omega) (show Own vM.heap.size w13 _ _ _ _ from by first | exact hO1 | exact hO1.mono (by simp)) (show Own vM.heap.size w13 _ _ _ _ from by first | exact hO2 | exact hO2.mono (by simp)) (show Own vM.heap.size w13 _ _ _ _ from by first | exact hO3 | exact hO3.mono (by simp)) (show Own vM.heap.size w13 _ _ _ _ from by first | exact hO4 | exact hO4.mono (by simp)) hD hBT (Nat.le_trans qo1.out.len1 (by omega)) (Nat.le_trans qo1.out.len2 (by omega)) (Nat.le_trans qo2.out.len1 (by omega)) (Nat.le_trans qo2.out.len2 (by omega)))
      have hbT_13 := hbT_12.next hBT
      clear T_12 hbT_12 hBT
      have hB_13 : Below vM.heap.size vM w13 := (bl.next hB)
      have X_13 := X_12.next hB_13
      have Y_13 := Y_12.next hB_13
      have P_13 := P_12.next hB_13
      have R_13 := R_12.next hB_13
      have C_13 := C_12.next hB_13
      have D_13 := D_12.next hB_13
      have E_13 := E_12.next hB_13
      have A1_13 := A1_12.below hB_13
      have B1_13 := B1_12.below hB_13
      have A2_13 := A2_12.below hB_13
      have B2_13 := B2_12.below hB_13
      have A3_13 := A3_12.below hB_13
      have B3_13 := B3_12.below hB_13
      have A4_13 := A4_12.below hB_13
      have B4_13 := B4_12.below hB_13
      have PL_13 := PL_12.below hB_13
      have PM_13 := PM_12.below hB_13
      have PN_13 := PN_12.below hB_13
      have PO_13 := PO_12.below hB_13
      have RL_13 := RL_12.below hB_13
      have RM_13 := RM_12.below hB_13
      have RN_13 := RN_12.below hB_13
      have RO_13 := RO_12.below hB_13
      have Q1_13 := Q1_12.below hB_13
      have Q2_13 := Q2_12.below hB_13
      have Q3_13 := Q3_12.below hB_13
      have Q4_13 := Q4_12.below hB_13
      have V1_13 := V1_12.below hB_13
      have V2_13 := V2_12.below hB_13
      have V3_13 := V3_12.below hB_13
      have V4_13 := V4_12.below hB_13
      have hbM_13 := hbM_12.next hB_13
      have hbel_13 := hbel_12.next hB_13
      have hsz_13 := hB_13.size
      clear X_12 Y_12 P_12 cP_12_0 cP_12_1 cP_12_2 cP_12_3 cP_12_4 cP_12_5 R_12 cR_12_0 cR_12_1 cR_12_2 cR_12_3 cR_12_4 cR_12_5 C_12 D_12 E_12 A1_12 B1_12 A2_12 B2_12 A3_12 B3_12 A4_12 B4_12 PL_12 PM_12 PN_12 PO_12 RL_12 RM_12 RN_12 RO_12 Q1_12 Q2_12 Q3_12 Q4_12 V1_12 V2_12 V3_12 V4_12 hbM_12 hbel_12 hB_13
      have Os1_13 := hO1
      have ltOs1 := hO1.ltB
      have Os2_13 := hO2
      have ltOs2 := hO2.ltB
      have Os3_13 := hO3
      have ltOs3 := hO3.ltB
      have Os4_13 := hO4
      have ltOs4 := hO4.ltB
      clear hO1 hO2 hO3 hO4 hD
      try clear hB
      go_wp2_with fail
      refine (fplain).mono ?_
      rintro e w14 ⟨rfl, hB⟩
      have hBT : Below w13.heap.size w13 w14 := (bl.next hB)
      have T_14 := hid (T_13.out.below hBT)
      have hbT_14 := hbT_13.next hBT
      clear T_13 hbT_13 hBT
      have hB_14 : Below w13.heap.size w13 w14 := (bl.next hB)
      have X_14 := X_13.next hB_14
      have Y_14 := Y_13.next hB_14
      have P_14 := P_13.next hB_14
      have R_14 := R_13.next hB_14
      have C_14 := C_13.next hB_14
      have D_14 := D_13.next hB_14
      have E_14 := E_13.next hB_14
      have A1_14 := A1_13.below hB_14
      have B1_14 := B1_13.below hB_14
      have A2_14 := A2_13.below hB_14
      have B2_14 := B2_13.below hB_14
      have A3_14 := A3_13.below hB_14
      have B3_14 := B3_13.below hB_14
      have A4_14 := A4_13.below hB_14
      have B4_14 := B4_13.below hB_14
      have PL_14 := PL_13.below hB_14
      have PM_14 := PM_13.below hB_14
      have PN_14 := PN_13.below hB_14
      have PO_14 := PO_13.below hB_14
      have RL_14 := RL_13.below hB_14
      have RM_14 := RM_13.below hB_14
      have RN_14 := RN_13.below hB_14
      have RO_14 := RO_13.below hB_14
      have Q1_14 := Q1_13.below hB_14
      have Q2_14 := Q2_13.below hB_14
      have Q3_14 := Q3_13.below hB_14
      have Q4_14 := Q4_13.below hB_14
      have V1_14 := V1_13.below hB_14
      have V2_14 := V2_13.below hB_14
      have V3_14 := V3_13.below hB_14
      have V4_14 := V4_13.below hB_14
      have hbM_14 := hbM_13.next hB_14
      have Os1_14 := Os1_13.below hB_14
      have Os2_14 := Os2_13.below hB_14
      have Os3_14 := Os3_13.below hB_14
      have Os4_14 := Os4_13.below hB_14
      have hbel_14 := hbel_13.next hB_14
      have hsz_14 := hB_14.size
      clear X_13 Y_13 P_13 R_13 C_13 D_13 E_13 A1_13 B1_13 A2_13 B2_13 A3_13 B3_13 A4_13 B4_13 PL_13 PM_13 PN_13 PO_13 RL_13 RM_13 RN_13 RO_13 Q1_13 Q2_13 Q3_13 Q4_13 V1_13 V2_13 V3_13 V4_13 hbM_13 Os1_13 Os2_13 Os3_13 Os4_13 hbel_13 hB_14
      try clear hB
      have hbx := blk_new w14 #[Value.bool (decide ((o1).num < 0)), Value.slice sa sn sc, Value.slice sb sm sd, Value.bool (decide ((o2).num < 0)), Value.slice se sj sf, Value.slice sg sk sh] 60
      have hbB := (Below.refl w14.heap.size w14).alloc (Nat.le_refl _) (.cells #[Value.bool (decide ((o1).num < 0)), Value.slice sa sn sc, Value.slice sb sm sd, Value.bool (decide ((o2).num < 0)), Value.slice se sj sf, Value.slice sg sk sh] 60)
      have hltS := hbx.lt
      have hBT : Below w14.heap.size w14 (w14.alloc (.cells #[Value.bool (decide ((o1).num < 0)), Value.slice sa sn sc, Value.slice sb sm sd, Value.bool (decide ((o2).num < 0)), Value.slice se sj sf, Value.slice sg sk sh] 60)) := hbB
      have T_15 := hid (T_14.out.below hBT)
      have hbT_15 := hbT_14.next hBT
      clear T_14 hbT_14 hBT
      have hB_15 : Below w14.heap.size w14 (w14.alloc (.cells #[Value.bool (decide ((o1).num < 0)), Value.slice sa sn sc, Value.slice sb sm sd, Value.bool (decide ((o2).num < 0)), Value.slice se sj sf, Value.slice sg sk sh] 60)) := hbB
      have X_15 := X_14.next hB_15
      have Y_15 := Y_14.next hB_15
      have P_15 := P_14.next hB_15
      have R_15 := R_14.next hB_15
      have C_15 := C_14.next hB_15
      have D_15 := D_14.next hB_15
      have E_15 := E_14.next hB_15
      have A1_15 := A1_14.below hB_15
      have B1_15 := B1_14.below hB_15
      have A2_15 := A2_14.below hB_15
      have B2_15 := B2_14.below hB_15
      have A3_15 := A3_14.below hB_15
      have B3_15 := B3_14.below hB_15
      have A4_15 := A4_14.below hB_15
      have B4_15 := B4_14.below hB_15
      have PL_15 := PL_14.below hB_15
      have PM_15 := PM_14.below hB_15
      have PN_15 := PN_14.below hB_15
      have PO_15 := PO_14.below hB_15
      have RL_15 := RL_14.below hB_15
      have RM_15 := RM_14.below hB_15
      have RN_15 := RN_14.below hB_15
      have RO_15 := RO_14.below hB_15
      have Q1_15 := Q1_14.below hB_15
      have Q2_15 := Q2_14.below hB_15
      have Q3_15 := Q3_14.below hB_15
      have Q4_15 := Q4_14.below hB_15
      have V1_15 := V1_14.below hB_15
      have V2_15 := V2_14.below hB_15
      have V3_15 := V3_14.below hB_15
      have V4_15 := V4_14.below hB_15
      have hbM_15 := hbM_14.next hB_15
      have Os1_15 := Os1_14.below hB_15
      have Os2_15 := Os2_14.below hB_15
      have Os3_15 := Os3_14.below hB_15
      have Os4_15 := Os4_14.below hB_15
      have hbel_15 := hbel_14.next hB_15
      have hsz_15 := hB_15.size
      clear hB_15
      have S_15 := hbx
      clear hbx hbB
      have cP_15_0 : _ = some (Value.bool s1) := P_15.cell 0
      have cP_15_1 : _ = some (Value.slice pa p1 pc) := P_15.cell 1
      have cP_15_2 : _ = some (Value.slice pb q1 pd) := P_15.cell 2
      have cP_15_3 : _ = some (Value.bool s2) := P_15.cell 3
      have cP_15_4 : _ = some (Value.slice pe p2 pf) := P_15.cell 4
      have cP_15_5 : _ = some (Value.slice pg q2 ph) := P_15.cell 5
      have cR_15_0 : _ = some (Value.bool s3) := R_15.cell 0
      have cR_15_1 : _ = some (Value.slice ra p3 rc) := R_15.cell 1
      have cR_15_2 : _ = some (Value.slice rb q3 rd) := R_15.cell 2
      have cR_15_3 : _ = some (Value.bool s4) := R_15.cell 3
      have cR_15_4 : _ = some (Value.slice re p4 rf) := R_15.cell 4
      have cR_15_5 : _ = some (Value.slice rg q4 rh) := R_15.cell 5
      go_wp2_with fail
      clear X_14 Y_14 P_14 R_14 C_14 D_14 E_14 A1_14 B1_14 A2_14 B2_14 A3_14 B3_14 A4_14 B4_14 PL_14 PM_14 PN_14 PO_14 RL_14 RM_14 RN_14 RO_14 Q1_14 Q2_14 Q3_14 Q4_14 V1_14 V2_14 V3_14 V4_14 hbM_14 Os1_14 Os2_14 Os3_14 Os4_14 hbel_14
      generalize (w14.alloc (.cells #[Value.bool (decide ((o1).num < 0)), Value.slice sa sn sc, Value.slice sb sm sd, Value.bool (decide ((o2).num < 0)), Value.slice se sj sf, Value.slice sg sk sh] 60)) = v15 at *
      go_wp2_with fail
      refine (ksmul V1_15 V2_15 V3_15 V4_15 (by omega : 1 ≤ 12) (by omega)).mono ?_
      rw [ho3.out, ho4.out]
      rintro e w16 ⟨ta, tn, tc, tb, tm, td, te, tj, tf, tg, tk, th, rfl, hO1, hO2, hO3, hO4, hD, hB⟩
      have hBT : Below v15.heap.size v15 w16 := (bl.next hB)
      have T_16 := hid (T_15.out.cons4 (by have := hbT_15.size; omega) (show Own v15.heap.size w16 _ _ _ _ from by first | exact hO1 | exact hO1.mono (by simp)) (show Own v15.heap.size w16 _ _ _ _ from by first | exact hO2 | exact hO2.mono (by simp)) (show Own v15.heap.size w16 _ _ _ _ from by first | exact hO3 | exact hO3.mono (by simp)) (show Own v15.heap.size w16 _ _ _ _ from by first | exact hO4 | exact hO4.mono (by simp)) hD hBT (Nat.le_trans qo3.out.len1 (by omega)) (Nat.le_trans qo3.out.len2 (by omega)) (Nat.le_trans qo4.out.len1 (by omega)) (Nat.le_trans qo4.out.len2 (by omega)))
      have hbT_16 := hbT_15.next hBT
      clear T_15 hbT_15 hBT
      have hB_16 : Below v15.heap.size v15 w16 := (bl.next hB)
      have X_16 := X_15.next hB_16
      have Y_16 := Y_15.next hB_16
      have P_16 := P_15.next hB_16
      have R_16 := R_15.next hB_16
      have C_16 := C_15.next hB_16
      have D_16 := D_15.next hB_16
      have E_16 := E_15.next hB_16
      have S_16 := S_15.next hB_16
      have A1_16 := A1_15.below hB_16
      have B1_16 := B1_15.below hB_16
      have A2_16 := A2_15.below hB_16
      have B2_16 := B2_15.below hB_16
      have A3_16 := A3_15.below hB_16
      have B3_16 := B3_15.below hB_16
      have A4_16 := A4_15.below hB_16
      have B4_16 := B4_15.below hB_16
      have PL_16 := PL_15.below hB_16
      have PM_16 := PM_15.below hB_16
      have PN_16 := PN_15.below hB_16
      have PO_16 := PO_15.below hB_16
      have RL_16 := RL_15.below hB_16
      have RM_16 := RM_15.below hB_16
      have RN_16 := RN_15.below hB_16
      have RO_16 := RO_15.below hB_16
      have Q1_16 := Q1_15.below hB_16
      have Q2_16 := Q2_15.below hB_16
      have Q3_16 := Q3_15.below hB_16
      have Q4_16 := Q4_15.below hB_16
      have V1_16 := V1_15.below hB_16
      have V2_16 := V2_15.below hB_16
      have V3_16 := V3_15.below hB_16
      have V4_16 := V4_15.below hB_16
      have hbM_16 := hbM_15.next hB_16
      have Os1_16 := Os1_15.below hB_16
      have Os2_16 := Os2_15.below hB_16
      have Os3_16 := Os3_15.below hB_16
      have Os4_16 := Os4_15.below hB_16
      have hbel_16 := hbel_15.next hB_16
      have hsz_16 := hB_16.size
      clear X_15 Y_15 P_15 cP_15_0 cP_15_1 cP_15_2 cP_15_3 cP_15_4 cP_15_5 R_15 cR_15_0 cR_15_1 cR_15_2 cR_15_3 cR_15_4 cR_15_5 C_15 D_15 E_15 S_15 A1_15 B1_15 A2_15 B2_15 A3_15 B3_15 A4_15 B4_15 PL_15 PM_15 PN_15 PO_15 RL_15 RM_15 RN_15 RO_15 Q1_15 Q2_15 Q3_15 Q4_15 V1_15 V2_15 V3_15 V4_15 hbM_15 Os1_15 Os2_15 Os3_15 Os4_15 hbel_15 hB_16
      have Ot1_16 := hO1
      have ltOt1 := hO1.ltB
      have Ot2_16 := hO2
      have ltOt2 := hO2.ltB
      have Ot3_16 := hO3
      have ltOt3 := hO3.ltB
      have Ot4_16 := hO4
      have ltOt4 := hO4.ltB
      clear hO1 hO2 hO3 hO4 hD
      try clear hB
      go_wp2_with fail
      refine (fplain).mono ?_
      rintro e w17 ⟨rfl, hB⟩
      have hBT : Below w16.heap.size w16 w17 := (bl.next hB)
      have T_17 := hid (T_16.out.below hBT)
      have hbT_17 := hbT_16.next hBT
      clear T_16 hbT_16 hBT
      have hB_17 : Below w16.heap.size w16 w17 := (bl.next hB)
      have X_17 := X_16.next hB_17
      have Y_17 := Y_16.next hB_17
      have P_17 := P_16.next hB_17
      have R_17 := R_16.next hB_17
      have C_17 := C_16.next hB_17
      have D_17 := D_16.next hB_17
      have E_17 := E_16.next hB_17
      have S_17 := S_16.next hB_17
      have A1_17 := A1_16.below hB_17
      have B1_17 := B1_16.below hB_17
      have A2_17 := A2_16.below hB_17
      have B2_17 := B2_16.below hB_17
      have A3_17 := A3_16.below hB_17
      have B3_17 := B3_16.below hB_17
      have A4_17 := A4_16.below hB_17
      have B4_17 := B4_16.below hB_17
      have PL_17 := PL_16.below hB_17
      have PM_17 := PM_16.below hB_17
      have PN_17 := PN_16.below hB_17
      have PO_17 := PO_16.below hB_17
      have RL_17 := RL_16.below hB_17
      have RM_17 := RM_16.below hB_17
      have RN_17 := RN_16.below hB_17
      have RO_17 := RO_16.below hB_17
      have Q1_17 := Q1_16.below hB_17
      have Q2_17 := Q2_16.below hB_17
      have Q3_17 := Q3_16.below hB_17
      have Q4_17 := Q4_16.below hB_17
      have V1_17 := V1_16.below hB_17
      have V2_17 := V2_16.below hB_17
      have V3_17 := V3_16.below hB_17
      have V4_17 := V4_16.below hB_17
      have hbM_17 := hbM_16.next hB_17
      have Os1_17 := Os1_16.below hB_17
      have Os2_17 := Os2_16.below hB_17
      have Os3_17 := Os3_16.below hB_17
      have Os4_17 := Os4_16.below hB_17
      have Ot1_17 := Ot1_16.below hB_17
      have Ot2_17 := Ot2_16.below hB_17
      have Ot3_17 := Ot3_16.below hB_17
      have Ot4_17 := Ot4_16.below hB_17
      have hbel_17 := hbel_16.next hB_17
      have hsz_17 := hB_17.size
      clear X_16 Y_16 P_16 R_16 C_16 D_16 E_16 S_16 A1_16 B1_16 A2_16 B2_16 A3_16 B3_16 A4_16 B4_16 PL_16 PM_16 PN_16 PO_16 RL_16 RM_16 RN_16 RO_16 Q1_16 Q2_16 Q3_16 Q4_16 V1_16 V2_16 V3_16 V4_16 hbM_16 Os1_16 Os2_16 Os3_16 Os4_16 Ot1_16 Ot2_16 Ot3_16 Ot4_16 hbel_16 hB_17
      try clear hB
      have hbx := blk_new w17 #[Value.bool (decide ((o3).num < 0)), Value.slice ta tn tc, Value.slice tb tm td, Value.bool (decide ((o4).num < 0)), Value.slice te tj tf, Value.slice tg tk th] 60
      have hbB := (Below.refl w17.heap.size w17).alloc (Nat.le_refl _) (.cells #[Value.bool (decide ((o3).num < 0)), Value.slice ta tn tc, Value.slice tb tm td, Value.bool (decide ((o4).num < 0)), Value.slice te tj tf, Value.slice tg tk th] 60)
      have hltJ := hbx.lt
      have hBT : Below w17.heap.size w17 (w17.alloc (.cells #[Value.bool (decide ((o3).num < 0)), Value.slice ta tn tc, Value.slice tb tm td, Value.bool (decide ((o4).num < 0)), Value.slice te tj tf, Value.slice tg tk th] 60)) := hbB
      have T_18 := hid (T_17.out.below hBT)
      have hbT_18 := hbT_17.next hBT
      clear T_17 hbT_17 hBT
      have hB_18 : Below w17.heap.size w17 (w17.alloc (.cells #[Value.bool (decide ((o3).num < 0)), Value.slice ta tn tc, Value.slice tb tm td, Value.bool (decide ((o4).num < 0)), Value.slice te tj tf, Value.slice tg tk th] 60)) := hbB
      have X_18 := X_17.next hB_18
      have Y_18 := Y_17.next hB_18
      have P_18 := P_17.next hB_18
      have R_18 := R_17.next hB_18
      have C_18 := C_17.next hB_18
      have D_18 := D_17.next hB_18
      have E_18 := E_17.next hB_18
      have S_18 := S_17.next hB_18
      have A1_18 := A1_17.below hB_18
      have B1_18 := B1_17.below hB_18
      have A2_18 := A2_17.below hB_18
      have B2_18 := B2_17.below hB_18
      have A3_18 := A3_17.below hB_18
      have B3_18 := B3_17.below hB_18
      have A4_18 := A4_17.below hB_18
      have B4_18 := B4_17.below hB_18
      have PL_18 := PL_17.below hB_18
      have PM_18 := PM_17.below hB_18
      have PN_18 := PN_17.below hB_18
      have PO_18 := PO_17.below hB_18
      have RL_18 := RL_17.below hB_18
      have RM_18 := RM_17.below hB_18
      have RN_18 := RN_17.below hB_18
      have RO_18 := RO_17.below hB_18
      have Q1_18 := Q1_17.below hB_18
      have Q2_18 := Q2_17.below hB_18
      have Q3_18 := Q3_17.below hB_18
      have Q4_18 := Q4_17.below hB_18
      have V1_18 := V1_17.below hB_18
      have V2_18 := V2_17.below hB_18
      have V3_18 := V3_17.below hB_18
      have V4_18 := V4_17.below hB_18
      have hbM_18 := hbM_17.next hB_18
      have Os1_18 := Os1_17.below hB_18
      have Os2_18 := Os2_17.below hB_18
      have Os3_18 := Os3_17.below hB_18
      have Os4_18 := Os4_17.below hB_18
      have Ot1_18 := Ot1_17.below hB_18
      have Ot2_18 := Ot2_17.below hB_18
      have Ot3_18 := Ot3_17.below hB_18
      have Ot4_18 := Ot4_17.below hB_18
      have hbel_18 := hbel_17.next hB_18
      have hsz_18 := hB_18.size
      clear hB_18
      have J_18 := hbx
      clear hbx hbB
      have cC_18_0 : _ = some (Value.bool s1) := C_18.cell 0
      have cC_18_1 : _ = some (Value.slice a1 p1 c1) := C_18.cell 1
      have cC_18_2 : _ = some (Value.slice b1 q1 d1) := C_18.cell 2
      have cC_18_3 : _ = some (Value.bool s2) := C_18.cell 3
      have cC_18_4 : _ = some (Value.slice a2 p2 c2) := C_18.cell 4
      have cC_18_5 : _ = some (Value.slice b2 q2 d2) := C_18.cell 5
      have cD_18_0 : _ = some (Value.bool s3) := D_18.cell 0
      have cD_18_1 : _ = some (Value.slice a3 p3 c3) := D_18.cell 1
      have cD_18_2 : _ = some (Value.slice b3 q3 d3) := D_18.cell 2
      have cD_18_3 : _ = some (Value.bool s4) := D_18.cell 3
      have cD_18_4 : _ = some (Value.slice a4 p4 c4) := D_18.cell 4
      have cD_18_5 : _ = some (Value.slice b4 q4 d4) := D_18.cell 5
      go_wp2_with fail
      clear X_17 Y_17 P_17 R_17 C_17 D_17 E_17 S_17 A1_17 B1_17 A2_17 B2_17 A3_17 B3_17 A4_17 B4_17 PL_17 PM_17 PN_17 PO_17 RL_17 RM_17 RN_17 RO_17 Q1_17 Q2_17 Q3_17 Q4_17 V1_17 V2_17 V3_17 V4_17 hbM_17 Os1_17 Os2_17 Os3_17 Os4_17 Ot1_17 Ot2_17 Ot3_17 Ot4_17 hbel_17
      generalize (w17.alloc (.cells #[Value.bool (decide ((o3).num < 0)), Value.slice ta tn tc, Value.slice tb tm td, Value.bool (decide ((o4).num < 0)), Value.slice te tj tf, Value.slice tg tk th] 60)) = v18 at *
      go_wp2_with fail
      refine (rksadd Q1_18 Q2_18 Q3_18 Q4_18 (by omega : 1 ≤ 12) (by omega)).mono ?_
      rw [ho1.out, ho2.out]
      rintro e w19 ⟨ua, un, uc, ub, um, ud, ue, uj, uf, ug, uk, uh, rfl, hO1, hO2, hO3, hO4, hD, hB⟩
      have hBT : Below v18.heap.size v18 w19 := (bl.next hB)
      have T_19 := hid (T_18.out.below hBT)
      have hbT_19 := hbT_18.next hBT
      clear T_18 hbT_18 hBT
      have hB_19 : Below v18.heap.size v18 w19 := (bl.next hB)
      have X_19 := X_18.next hB_19
      have Y_19 := Y_18.next hB_19
      have P_19 := P_18.next hB_19
      have R_19 := R_18.next hB_19
      have C_19 := C_18.next hB_19
      have D_19 := D_18.next hB_19
      have E_19 := E_18.next hB_19
      have S_19 := S_18.next hB_19
      have J_19 := J_18.next hB_19
      have A1_19 := A1_18.below hB_19
      have B1_19 := B1_18.below hB_19
      have A2_19 := A2_18.below hB_19
      have B2_19 := B2_18.below hB_19
      have A3_19 := A3_18.below hB_19
      have B3_19 := B3_18.below hB_19
      have A4_19 := A4_18.below hB_19
      have B4_19 := B4_18.below hB_19
      have PL_19 := PL_18.below hB_19
      have PM_19 := PM_18.below hB_19
      have PN_19 := PN_18.below hB_19
      have PO_19 := PO_18.below hB_19
      have RL_19 := RL_18.below hB_19
      have RM_19 := RM_18.below hB_19
      have RN_19 := RN_18.below hB_19
      have RO_19 := RO_18.below hB_19
      have Q1_19 := Q1_18.below hB_19
      have Q2_19 := Q2_18.below hB_19
      have Q3_19 := Q3_18.below hB_19
      have Q4_19 := Q4_18.below hB_19
      have V1_19 := V1_18.below hB_19
      have V2_19 := V2_18.below hB_19
      have V3_19 := V3_18.below hB_19
      have V4_19 := V4_18.below hB_19
      have hbM_19 := hbM_18.next hB_19
      have Os1_19 := Os1_18.below hB_19
      have Os2_19 := Os2_18.below hB_19
      have Os3_19 := Os3_18.below hB_19
      have Os4_19 := Os4_18.below hB_19
      have Ot1_19 := Ot1_18.below hB_19
      have Ot2_19 := Ot2_18.below hB_19
      have Ot3_19 := Ot3_18.below hB_19
      have Ot4_19 := Ot4_18.below hB_19
      have hbel_19 := hbel_18.next hB_19
      have hsz_19 := hB_19.size
      clear X_18 Y_18 P_18 R_18 C_18 cC_18_0 cC_18_1 cC_18_2 cC_18_3 cC_18_4 cC_18_5 D_18 cD_18_0 cD_18_1 cD_18_2 cD_18_3 cD_18_4 cD_18_5 E_18 S_18 J_18 A1_18 B1_18 A2_18 B2_18 A3_18 B3_18 A4_18 B4_18 PL_18 PM_18 PN_18 PO_18 RL_18 RM_18 RN_18 RO_18 Q1_18 Q2_18 Q3_18 Q4_18 V1_18 V2_18 V3_18 V4_18 hbM_18 Os1_18 Os2_18 Os3_18 Os4_18 Ot1_18 Ot2_18 Ot3_18 Ot4_18 hbel_18 hB_19
      have Ou1_19 := hO1
      have ltOu1 := hO1.ltB
      have Ou2_19 := hO2
      have ltOu2 := hO2.ltB
      have Ou3_19 := hO3
      have ltOu3 := hO3.ltB
      have Ou4_19 := hO4
      have ltOu4 := hO4.ltB
      clear hO1 hO2 hO3 hO4 hD
      try clear hB
      have hbx := blk_new w19 #[Value.bool (decide ((o1).num < 0)), Value.slice ua un uc, Value.slice ub um ud, Value.bool (decide ((o2).num < 0)), Value.slice ue uj uf, Value.slice ug uk uh] 60
      have hbB := (Below.refl w19.heap.size w19).alloc (Nat.le_refl _) (.cells #[Value.bool (decide ((o1).num < 0)), Value.slice ua un uc, Value.slice ub um ud, Value.bool (decide ((o2).num < 0)), Value.slice ue uj uf, Value.slice ug uk uh] 60)
      have hltU := hbx.lt
      have hBT : Below w19.heap.size w19 (w19.alloc (.cells #[Value.bool (decide ((o1).num < 0)), Value.slice ua un uc, Value.slice ub um ud, Value.bool (decide ((o2).num < 0)), Value.slice ue uj uf, Value.slice ug uk uh] 60)) := hbB
      have T_20 := hid (T_19.out.below hBT)
      have hbT_20 := hbT_19.next hBT
      clear T_19 hbT_19 hBT
      have hB_20 : Below w19.heap.size w19 (w19.alloc (.cells #[Value.bool (decide ((o1).num < 0)), Value.slice ua un uc, Value.slice ub um ud, Value.bool (decide ((o2).num < 0)), Value.slice ue uj uf, Value.slice ug uk uh] 60)) := hbB
      have X_20 := X_19.next hB_20
      have Y_20 := Y_19.next hB_20
      have P_20 := P_19.next hB_20
      have R_20 := R_19.next hB_20
      have C_20 := C_19.next hB_20
      have D_20 := D_19.next hB_20
      have E_20 := E_19.next hB_20
      have S_20 := S_19.next hB_20
      have J_20 := J_19.next hB_20
      have A1_20 := A1_19.below hB_20
      have B1_20 := B1_19.below hB_20
      have A2_20 := A2_19.below hB_20
      have B2_20 := B2_19.below hB_20
      have A3_20 := A3_19.below hB_20
      have B3_20 := B3_19.below hB_20
      have A4_20 := A4_19.below hB_20
      have B4_20 := B4_19.below hB_20
      have PL_20 := PL_19.below hB_20
      have PM_20 := PM_19.below hB_20
      have PN_20 := PN_19.below hB_20
      have PO_20 := PO_19.below hB_20
      have RL_20 := RL_19.below hB_20
      have RM_20 := RM_19.below hB_20
      have RN_20 := RN_19.below hB_20
      have RO_20 := RO_19.below hB_20
      have Q1_20 := Q1_19.below hB_20
      have Q2_20 := Q2_19.below hB_20
      have Q3_20 := Q3_19.below hB_20
      have Q4_20 := Q4_19.below hB_20
      have V1_20 := V1_19.below hB_20
      have V2_20 := V2_19.below hB_20
      have V3_20 := V3_19.below hB_20
      have V4_20 := V4_19.below hB_20
      have hbM_20 := hbM_19.next hB_20
      have Os1_20 := Os1_19.below hB_20
      have Os2_20 := Os2_19.below hB_20
      have Os3_20 := Os3_19.below hB_20
      have Os4_20 := Os4_19.below hB_20
      have Ot1_20 := Ot1_19.below hB_20
      have Ot2_20 := Ot2_19.below hB_20
      have Ot3_20 := Ot3_19.below hB_20
      have Ot4_20 := Ot4_19.below hB_20
      have Ou1_20 := Ou1_19.below hB_20
      have Ou2_20 := Ou2_19.below hB_20
      have Ou3_20 := Ou3_19.below hB_20
      have Ou4_20 := Ou4_19.below hB_20
      have hbel_20 := hbel_19.next hB_20
      have hsz_20 := hB_20.size
      clear hB_20
      have U_20 := hbx
      clear hbx hbB
      have cC_20_0 : _ = some (Value.bool s1) := C_20.cell 0
      have cC_20_1 : _ = some (Value.slice a1 p1 c1) := C_20.cell 1
      have cC_20_2 : _ = some (Value.slice b1 q1 d1) := C_20.cell 2
      have cC_20_3 : _ = some (Value.bool s2) := C_20.cell 3
      have cC_20_4 : _ = some (Value.slice a2 p2 c2) := C_20.cell 4
      have cC_20_5 : _ = some (Value.slice b2 q2 d2) := C_20.cell 5
      have cD_20_0 : _ = some (Value.bool s3) := D_20.cell 0
      have cD_20_1 : _ = some (Value.slice a3 p3 c3) := D_20.cell 1
      have cD_20_2 : _ = some (Value.slice b3 q3 d3) := D_20.cell 2
      have cD_20_3 : _ = some (Value.bool s4) := D_20.cell 3
      have cD_20_4 : _ = some (Value.slice a4 p4 c4) := D_20.cell 4
      have cD_20_5 : _ = some (Value.slice b4 q4 d4) := D_20.cell 5
      go_wp2_with fail
      clear X_19 Y_19 P_19 R_19 C_19 D_19 E_19 S_19 J_19 A1_19 B1_19 A2_19 B2_19 A3_19 B3_19 A4_19 B4_19 PL_19 PM_19 PN_19 PO_19 RL_19 RM_19 RN_19 RO_19 Q1_19 Q2_19 Q3_19 Q4_19 V1_19 V2_19 V3_19 V4_19 hbM_19 Os1_19 Os2_19 Os3_19 Os4_19 Ot1_19 Ot2_19 Ot3_19 Ot4_19 Ou1_19 Ou2_19 Ou3_19 Ou4_19 hbel_19
      generalize (w19.alloc (.cells #[Value.bool (decide ((o1).num < 0)), Value.slice ua un uc, Value.slice ub um ud, Value.bool (decide ((o2).num < 0)), Value.slice ue uj uf, Value.slice ug uk uh] 60)) = v20 at *
      go_wp2_with fail
      refine (rksmul Q1_20 Q2_20 Q3_20 Q4_20 (by omega : 1 ≤ 12) (by omega)).mono ?_
      rw [ho3.out, ho4.out]
      rintro e w21 ⟨va, vn, vc, vb, vm, vd, ve, vj, vf, vg, vk, vh, rfl, hO1, hO2, hO3, hO4, hD, hB⟩
      have hBT : Below v20.heap.size v20 w21 := (bl.next hB)
      have T_21 := hid (T_20.out.below hBT)
      have hbT_21 := hbT_20.next hBT
      clear T_20 hbT_20 hBT
      have hB_21 : Below v20.heap.size v20 w21 := (bl.next hB)
      have X_21 := X_20.next hB_21
      have Y_21 := Y_20.next hB_21
      have P_21 := P_20.next hB_21
      have R_21 := R_20.next hB_21
      have C_21 := C_20.next hB_21
      have D_21 := D_20.next hB_21
      have E_21 := E_20.next hB_21
      have S_21 := S_20.next hB_21
      have J_21 := J_20.next hB_21
      have U_21 := U_20.next hB_21
      have A1_21 := A1_20.below hB_21
      have B1_21 := B1_20.below hB_21
      have A2_21 := A2_20.below hB_21
      have B2_21 := B2_20.below hB_21
      have A3_21 := A3_20.below hB_21
      have B3_21 := B3_20.below hB_21
      have A4_21 := A4_20.below hB_21
      have B4_21 := B4_20.below hB_21
      have PL_21 := PL_20.below hB_21
      have PM_21 := PM_20.below hB_21
      have PN_21 := PN_20.below hB_21
      have PO_21 := PO_20.below hB_21
      have RL_21 := RL_20.below hB_21
      have RM_21 := RM_20.below hB_21
      have RN_21 := RN_20.below hB_21
      have RO_21 := RO_20.below hB_21
      have Q1_21 := Q1_20.below hB_21
      have Q2_21 := Q2_20.below hB_21
      have Q3_21 := Q3_20.below hB_21
      have Q4_21 := Q4_20.below hB_21
      have V1_21 := V1_20.below hB_21
      have V2_21 := V2_20.below hB_21
      have V3_21 := V3_20.below hB_21
      have V4_21 := V4_20.below hB_21
      have hbM_21 := hbM_20.next hB_21
      have Os1_21 := Os1_20.below hB_21
      have Os2_21 := Os2_20.below hB_21
      have Os3_21 := Os3_20.below hB_21
      have Os4_21 := Os4_20.below hB_21
      have Ot1_21 := Ot1_20.below hB_21
      have Ot2_21 := Ot2_20.below hB_21
      have Ot3_21 := Ot3_20.below hB_21
      have Ot4_21 := Ot4_20.below hB_21
      have Ou1_21 := Ou1_20.below hB_21
      have Ou2_21 := Ou2_20.below hB_21
      have Ou3_21 := Ou3_20.below hB_21
      have Ou4_21 := Ou4_20.below hB_21
      have hbel_21 := hbel_20.next hB_21
      have hsz_21 := hB_21.size
      clear X_20 Y_20 P_20 R_20 C_20 cC_20_0 cC_20_1 cC_20_2 cC_20_3 cC_20_4 cC_20_5 D_20 cD_20_0 cD_20_1 cD_20_2 cD_20_3 cD_20_4 cD_20_5 E_20 S_20 J_20 U_20 A1_20 B1_20 A2_20 B2_20 A3_20 B3_20 A4_20 B4_20 PL_20 PM_20 PN_20 PO_20 RL_20 RM_20 RN_20 RO_20 Q1_20 Q2_20 Q3_20 Q4_20 V1_20 V2_20 V3_20 V4_20 hbM_20 Os1_20 Os2_20 Os3_20 Os4_20 Ot1_20 Ot2_20 Ot3_20 Ot4_20 Ou1_20 Ou2_20 Ou3_20 Ou4_20 hbel_20 hB_21
      have Ov1_21 := hO1
      have ltOv1 := hO1.ltB
      have Ov2_21 := hO2
      have ltOv2 := hO2.ltB
      have Ov3_21 := hO3
      have ltOv3 := hO3.ltB
      have Ov4_21 := hO4
      have ltOv4 := hO4.ltB
      clear hO1 hO2 hO3 hO4 hD
      try clear hB
      have hbx := blk_new w21 #[Value.bool (decide ((o3).num < 0)), Value.slice va vn vc, Value.slice vb vm vd, Value.bool (decide ((o4).num < 0)), Value.slice ve vj vf, Value.slice vg vk vh] 60
      have hbB := (Below.refl w21.heap.size w21).alloc (Nat.le_refl _) (.cells #[Value.bool (decide ((o3).num < 0)), Value.slice va vn vc, Value.slice vb vm vd, Value.bool (decide ((o4).num < 0)), Value.slice ve vj vf, Value.slice vg vk vh] 60)
      have hltW := hbx.lt
      have hBT : Below w21.heap.size w21 (w21.alloc (.cells #[Value.bool (decide ((o3).num < 0)), Value.slice va vn vc, Value.slice vb vm vd, Value.bool (decide ((o4).num < 0)), Value.slice ve vj vf, Value.slice vg vk vh] 60)) := hbB
      have T_22 := hid (T_21.out.below hBT)
      have hbT_22 := hbT_21.next hBT
      clear T_21 hbT_21 hBT
      have hB_22 : Below w21.heap.size w21 (w21.alloc (.cells #[Value.bool (decide ((o3).num < 0)), Value.slice va vn vc, Value.slice vb vm vd, Value.bool (decide ((o4).num < 0)), Value.slice ve vj vf, Value.slice vg vk vh] 60)) := hbB
      have X_22 := X_21.next hB_22
      have Y_22 := Y_21.next hB_22
      have P_22 := P_21.next hB_22
      have R_22 := R_21.next hB_22
      have C_22 := C_21.next hB_22
      have D_22 := D_21.next hB_22
      have E_22 := E_21.next hB_22
      have S_22 := S_21.next hB_22
      have J_22 := J_21.next hB_22
      have U_22 := U_21.next hB_22
      have A1_22 := A1_21.below hB_22
      have B1_22 := B1_21.below hB_22
      have A2_22 := A2_21.below hB_22
      have B2_22 := B2_21.below hB_22
      have A3_22 := A3_21.below hB_22
      have B3_22 := B3_21.below hB_22
      have A4_22 := A4_21.below hB_22
      have B4_22 := B4_21.below hB_22
      have PL_22 := PL_21.below hB_22
      have PM_22 := PM_21.below hB_22
      have PN_22 := PN_21.below hB_22
      have PO_22 := PO_21.below hB_22
      have RL_22 := RL_21.below hB_22
      have RM_22 := RM_21.below hB_22
      have RN_22 := RN_21.below hB_22
      have RO_22 := RO_21.below hB_22
      have Q1_22 := Q1_21.below hB_22
      have Q2_22 := Q2_21.below hB_22
      have Q3_22 := Q3_21.below hB_22
      have Q4_22 := Q4_21.below hB_22
      have V1_22 := V1_21.below hB_22
      have V2_22 := V2_21.below hB_22
      have V3_22 := V3_21.below hB_22
      have V4_22 := V4_21.below hB_22
      have hbM_22 := hbM_21.next hB_22
      have Os1_22 := Os1_21.below hB_22
      have Os2_22 := Os2_21.below hB_22
      have Os3_22 := Os3_21.below hB_22
      have Os4_22 := Os4_21.below hB_22
      have Ot1_22 := Ot1_21.below hB_22
      have Ot2_22 := Ot2_21.below hB_22
      have Ot3_22 := Ot3_21.below hB_22
      have Ot4_22 := Ot4_21.below hB_22
      have Ou1_22 := Ou1_21.below hB_22
      have Ou2_22 := Ou2_21.below hB_22
      have Ou3_22 := Ou3_21.below hB_22
      have Ou4_22 := Ou4_21.below hB_22
      have Ov1_22 := Ov1_21.below hB_22
      have Ov2_22 := Ov2_21.below hB_22
      have Ov3_22 := Ov3_21.below hB_22
      have Ov4_22 := Ov4_21.below hB_22
      have hbel_22 := hbel_21.next hB_22
      have hsz_22 := hB_22.size
      clear hB_22
      have W_22 := hbx
      clear hbx hbB
      go_wp2_with fail
      clear X_21 Y_21 P_21 R_21 C_21 D_21 E_21 S_21 J_21 U_21 A1_21 B1_21 A2_21 B2_21 A3_21 B3_21 A4_21 B4_21 PL_21 PM_21 PN_21 PO_21 RL_21 RM_21 RN_21 RO_21 Q1_21 Q2_21 Q3_21 Q4_21 V1_21 V2_21 V3_21 V4_21 hbM_21 Os1_21 Os2_21 Os3_21 Os4_21 Ot1_21 Ot2_21 Ot3_21 Ot4_21 Ou1_21 Ou2_21 Ou3_21 Ou4_21 Ov1_21 Ov2_21 Ov3_21 Ov4_21 hbel_21
      generalize (w21.alloc (.cells #[Value.bool (decide ((o3).num < 0)), Value.slice va vn vc, Value.slice vb vm vd, Value.bool (decide ((o4).num < 0)), Value.slice ve vj vf, Value.slice vg vk vh] 60)) = v22 at *
      go_wp2_with fail
      refine (HZ.out _).mono ?_
      rintro e w23 ⟨za, zn, zc, zb, zm, zd, ze, zj, zf, zg, zk, zh, rfl, hO1, hO2, hO3, hO4, hD, hB⟩
      have hBT : Below v22.heap.size v22 w23 := (bl.next hB)
      have T_23 := hid (T_22.out.cons4 (by have := hbT_22.size; omega) (show Own v22.heap.size w23 _ _ _ _ from by first | exact hO1 | exact hO1.mono (by simp)) (show Own v22.heap.size w23 _ _ _ _ from by first | exact hO2 | exact hO2.mono (by simp)) (show Own v22.heap.size w23 _ _ _ _ from by first | exact hO3 | exact hO3.mono (by simp)) (show Own v22.heap.size w23 _ _ _ _ from by first | exact hO4 | exact hO4.mono (by simp)) hD hBT (Nat.le_trans qo5.out.len1 (by omega)) (Nat.le_trans qo5.out.len2 (by omega)) (Nat.le_trans qo5.out.len1 (by omega)) (Nat.le_trans qo5.out.len2 (by omega)))
      have hbT_23 := hbT_22.next hBT
      clear T_22 hbT_22 hBT
      have hB_23 : Below v22.heap.size v22 w23 := (bl.next hB)
      have X_23 := X_22.next hB_23
      have Y_23 := Y_22.next hB_23
      have P_23 := P_22.next hB_23
      have R_23 := R_22.next hB_23
      have C_23 := C_22.next hB_23
      have D_23 := D_22.next hB_23
      have E_23 := E_22.next hB_23
      have S_23 := S_22.next hB_23
      have J_23 := J_22.next hB_23
      have U_23 := U_22.next hB_23
      have W_23 := W_22.next hB_23
      have A1_23 := A1_22.below hB_23
      have B1_23 := B1_22.below hB_23
      have A2_23 := A2_22.below hB_23
      have B2_23 := B2_22.below hB_23
      have A3_23 := A3_22.below hB_23
      have B3_23 := B3_22.below hB_23
      have A4_23 := A4_22.below hB_23
      have B4_23 := B4_22.below hB_23
      have PL_23 := PL_22.below hB_23
      have PM_23 := PM_22.below hB_23
      have PN_23 := PN_22.below hB_23
      have PO_23 := PO_22.below hB_23
      have RL_23 := RL_22.below hB_23
      have RM_23 := RM_22.below hB_23
      have RN_23 := RN_22.below hB_23
      have RO_23 := RO_22.below hB_23
      have Q1_23 := Q1_22.below hB_23
      have Q2_23 := Q2_22.below hB_23
      have Q3_23 := Q3_22.below hB_23
      have Q4_23 := Q4_22.below hB_23
      have V1_23 := V1_22.below hB_23
      have V2_23 := V2_22.below hB_23
      have V3_23 := V3_22.below hB_23
      have V4_23 := V4_22.below hB_23
      have hbM_23 := hbM_22.next hB_23
      have Os1_23 := Os1_22.below hB_23
      have Os2_23 := Os2_22.below hB_23
      have Os3_23 := Os3_22.below hB_23
      have Os4_23 := Os4_22.below hB_23
      have Ot1_23 := Ot1_22.below hB_23
      have Ot2_23 := Ot2_22.below hB_23
      have Ot3_23 := Ot3_22.below hB_23
      have Ot4_23 := Ot4_22.below hB_23
      have Ou1_23 := Ou1_22.below hB_23
      have Ou2_23 := Ou2_22.below hB_23
      have Ou3_23 := Ou3_22.below hB_23
      have Ou4_23 := Ou4_22.below hB_23
      have Ov1_23 := Ov1_22.below hB_23
      have Ov2_23 := Ov2_22.below hB_23
      have Ov3_23 := Ov3_22.below hB_23
      have Ov4_23 := Ov4_22.below hB_23
      have hbel_23 := hbel_22.next hB_23
      have hsz_23 := hB_23.size
      clear X_22 Y_22 P_22 R_22 C_22 D_22 E_22 S_22 J_22 U_22 W_22 A1_22 B1_22 A2_22 B2_22 A3_22 B3_22 A4_22 B4_22 PL_22 PM_22 PN_22 PO_22 RL_22 RM_22 RN_22 RO_22 Q1_22 Q2_22 Q3_22 Q4_22 V1_22 V2_22 V3_22 V4_22 hbM_22 Os1_22 Os2_22 Os3_22 Os4_22 Ot1_22 Ot2_22 Ot3_22 Ot4_22 Ou1_22 Ou2_22 Ou3_22 Ou4_22 Ov1_22 Ov2_22 Ov3_22 Ov4_22 hbel_22 hB_23
      have Oz1_23 := hO1
      have ltOz1 := hO1.ltB
      have Oz2_23 := hO2
      have ltOz2 := hO2.ltB
      have Oz3_23 := hO3
      have ltOz3 := hO3.ltB
      have Oz4_23 := hO4
      have ltOz4 := hO4.ltB
      clear hO1 hO2 hO3 hO4 hD
      try clear hB
      have hbx := blk_new w23 #[Value.bool (decide ((o5).num < 0)), Value.slice za zn zc, Value.slice zb zm zd, Value.bool (decide ((o5).num < 0)), Value.slice ze zj zf, Value.slice zg zk zh] 59
      have hbB := (Below.refl w23.heap.size w23).alloc (Nat.le_refl _) (.cells #[Value.bool (decide ((o5).num < 0)), Value.slice za zn zc, Value.slice zb zm zd, Value.bool (decide ((o5).num < 0)), Value.slice ze zj zf, Value.slice zg zk zh] 59)
      have hltZ := hbx.lt
      have hBT : Below w23.heap.size w23 (w23.alloc (.cells #[Value.bool (decide ((o5).num < 0)), Value.slice za zn zc, Value.slice zb zm zd, Value.bool (decide ((o5).num < 0)), Value.slice ze zj zf, Value.slice zg zk zh] 59)) := hbB
      have T_24 := hid (T_23.out.below hBT)
      have hbT_24 := hbT_23.next hBT
      clear T_23 hbT_23 hBT
      have hB_24 : Below w23.heap.size w23 (w23.alloc (.cells #[Value.bool (decide ((o5).num < 0)), Value.slice za zn zc, Value.slice zb zm zd, Value.bool (decide ((o5).num < 0)), Value.slice ze zj zf, Value.slice zg zk zh] 59)) := hbB
      have X_24 := X_23.next hB_24
      have Y_24 := Y_23.next hB_24
      have P_24 := P_23.next hB_24
      have R_24 := R_23.next hB_24
      have C_24 := C_23.next hB_24
      have D_24 := D_23.next hB_24
      have E_24 := E_23.next hB_24
      have S_24 := S_23.next hB_24
      have J_24 := J_23.next hB_24
      have U_24 := U_23.next hB_24
      have W_24 := W_23.next hB_24
      have A1_24 := A1_23.below hB_24
      have B1_24 := B1_23.below hB_24
      have A2_24 := A2_23.below hB_24
      have B2_24 := B2_23.below hB_24
      have A3_24 := A3_23.below hB_24
      have B3_24 := B3_23.below hB_24
      have A4_24 := A4_23.below hB_24
      have B4_24 := B4_23.below hB_24
      have PL_24 := PL_23.below hB_24
      have PM_24 := PM_23.below hB_24
      have PN_24 := PN_23.below hB_24
      have PO_24 := PO_23.below hB_24
      have RL_24 := RL_23.below hB_24
      have RM_24 := RM_23.below hB_24
      have RN_24 := RN_23.below hB_24
      have RO_24 := RO_23.below hB_24
      have Q1_24 := Q1_23.below hB_24
      have Q2_24 := Q2_23.below hB_24
      have Q3_24 := Q3_23.below hB_24
      have Q4_24 := Q4_23.below hB_24
      have V1_24 := V1_23.below hB_24
      have V2_24 := V2_23.below hB_24
      have V3_24 := V3_23.below hB_24
      have V4_24 := V4_23.below hB_24
      have hbM_24 := hbM_23.next hB_24
      have Os1_24 := Os1_23.below hB_24
      have Os2_24 := Os2_23.below hB_24
      have Os3_24 := Os3_23.below hB_24
      have Os4_24 := Os4_23.below hB_24
      have Ot1_24 := Ot1_23.below hB_24
      have Ot2_24 := Ot2_23.below hB_24
      have Ot3_24 := Ot3_23.below hB_24
      have Ot4_24 := Ot4_23.below hB_24
      have Ou1_24 := Ou1_23.below hB_24
      have Ou2_24 := Ou2_23.below hB_24
      have Ou3_24 := Ou3_23.below hB_24
      have Ou4_24 := Ou4_23.below hB_24
      have Ov1_24 := Ov1_23.below hB_24
      have Ov2_24 := Ov2_23.below hB_24
      have Ov3_24 := Ov3_23.below hB_24
      have Ov4_24 := Ov4_23.below hB_24
      have Oz1_24 := Oz1_23.below hB_24
      have Oz2_24 := Oz2_23.below hB_24
      have Oz3_24 := Oz3_23.below hB_24
      have Oz4_24 := Oz4_23.below hB_24
      have hbel_24 := hbel_23.next hB_24
      have hsz_24 := hB_24.size
      clear hB_24
      have Z_24 := hbx
      clear hbx hbB
      go_wp2_with fail
      clear X_23 Y_23 P_23 R_23 C_23 D_23 E_23 S_23 J_23 U_23 W_23 A1_23 B1_23 A2_23 B2_23 A3_23 B3_23 A4_23 B4_23 PL_23 PM_23 PN_23 PO_23 RL_23 RM_23 RN_23 RO_23 Q1_23 Q2_23 Q3_23 Q4_23 V1_23 V2_23 V3_23 V4_23 hbM_23 Os1_23 Os2_23 Os3_23 Os4_23 Ot1_23 Ot2_23 Ot3_23 Ot4_23 Ou1_23 Ou2_23 Ou3_23 Ou4_23 Ov1_23 Ov2_23 Ov3_23 Ov4_23 Oz1_23 Oz2_23 Oz3_23 Oz4_23 hbel_23
      generalize (w23.alloc (.cells #[Value.bool (decide ((o5).num < 0)), Value.slice za zn zc, Value.slice zb zm zd, Value.bool (decide ((o5).num < 0)), Value.slice ze zj zf, Value.slice zg zk zh] 59)) = v24 at *
      go_wp2_with fail
      refine (H1.out _).mono ?_
      rintro e w25 ⟨oa, on, oc, ob, om, od, oe, oj, of, og, ok, oh, rfl, hO1, hO2, hO3, hO4, hD, hB⟩
      have hBT : Below v24.heap.size v24 w25 := (bl.next hB)
      have T_25 := hid (T_24.out.cons4 (by have := hbT_24.size; omega) (show Own v24.heap.size w25 _ _ _ _ from by first | exact hO1 | exact hO1.mono (by simp)) (show Own v24.heap.size w25 _ _ _ _ from by first | exact hO2 | exact hO2.mono (by simp)) (show Own v24.heap.size w25 _ _ _ _ from by first | exact hO3 | exact hO3.mono (by simp)) (show Own v24.heap.size w25 _ _ _ _ from by first | exact hO4 | exact hO4.mono (by simp)) hD hBT (Nat.le_trans qo6.out.len1 (by omega)) (Nat.le_trans qo6.out.len2 (by omega)) (Nat.le_trans qo5.out.len1 (by omega)) (Nat.le_trans qo5.out.len2 (by omega)))
      have hbT_25 := hbT_24.next hBT
      clear T_24 hbT_24 hBT
      have hB_25 : Below v24.heap.size v24 w25 := (bl.next hB)
      have X_25 := X_24.next hB_25
      have Y_25 := Y_24.next hB_25
      have P_25 := P_24.next hB_25
      have R_25 := R_24.next hB_25
      have C_25 := C_24.next hB_25
      have D_25 := D_24.next hB_25
      have E_25 := E_24.next hB_25
      have S_25 := S_24.next hB_25
      have J_25 := J_24.next hB_25
      have U_25 := U_24.next hB_25
      have W_25 := W_24.next hB_25
      have Z_25 := Z_24.next hB_25
      have A1_25 := A1_24.below hB_25
      have B1_25 := B1_24.below hB_25
      have A2_25 := A2_24.below hB_25
      have B2_25 := B2_24.below hB_25
      have A3_25 := A3_24.below hB_25
      have B3_25 := B3_24.below hB_25
      have A4_25 := A4_24.below hB_25
      have B4_25 := B4_24.below hB_25
      have PL_25 := PL_24.below hB_25
      have PM_25 := PM_24.below hB_25
      have PN_25 := PN_24.below hB_25
      have PO_25 := PO_24.below hB_25
      have RL_25 := RL_24.below hB_25
      have RM_25 := RM_24.below hB_25
      have RN_25 := RN_24.below hB_25
      have RO_25 := RO_24.below hB_25
      have Q1_25 := Q1_24.below hB_25
      have Q2_25 := Q2_24.below hB_25
      have Q3_25 := Q3_24.below hB_25
      have Q4_25 := Q4_24.below hB_25
      have V1_25 := V1_24.below hB_25
      have V2_25 := V2_24.below hB_25
      have V3_25 := V3_24.below hB_25
      have V4_25 := V4_24.below hB_25
      have hbM_25 := hbM_24.next hB_25
      have Os1_25 := Os1_24.below hB_25
      have Os2_25 := Os2_24.below hB_25
      have Os3_25 := Os3_24.below hB_25
      have Os4_25 := Os4_24.below hB_25
      have Ot1_25 := Ot1_24.below hB_25
      have Ot2_25 := Ot2_24.below hB_25
      have Ot3_25 := Ot3_24.below hB_25
      have Ot4_25 := Ot4_24.below hB_25
      have Ou1_25 := Ou1_24.below hB_25
      have Ou2_25 := Ou2_24.below hB_25
      have Ou3_25 := Ou3_24.below hB_25
      have Ou4_25 := Ou4_24.below hB_25
      have Ov1_25 := Ov1_24.below hB_25
      have Ov2_25 := Ov2_24.below hB_25
      have Ov3_25 := Ov3_24.below hB_25
      have Ov4_25 := Ov4_24.below hB_25
      have Oz1_25 := Oz1_24.below hB_25
      have Oz2_25 := Oz2_24.below hB_25
      have Oz3_25 := Oz3_24.below hB_25
      have Oz4_25 := Oz4_24.below hB_25
      have hbel_25 := hbel_24.next hB_25
      have hsz_25 := hB_25.size
      clear X_24 Y_24 P_24 R_24 C_24 D_24 E_24 S_24 J_24 U_24 W_24 Z_24 A1_24 B1_24 A2_24 B2_24 A3_24 B3_24 A4_24 B4_24 PL_24 PM_24 PN_24 PO_24 RL_24 RM_24 RN_24 RO_24 Q1_24 Q2_24 Q3_24 Q4_24 V1_24 V2_24 V3_24 V4_24 hbM_24 Os1_24 Os2_24 Os3_24 Os4_24 Ot1_24 Ot2_24 Ot3_24 Ot4_24 Ou1_24 Ou2_24 Ou3_24 Ou4_24 Ov1_24 Ov2_24 Ov3_24 Ov4_24 Oz1_24 Oz2_24 Oz3_24 Oz4_24 hbel_24 hB_25
      have Oo1_25 := hO1
      have ltOo1 := hO1.ltB
      have Oo2_25 := hO2
      have ltOo2 := hO2.ltB
      have Oo3_25 := hO3
      have ltOo3 := hO3.ltB
      have Oo4_25 := hO4
      have ltOo4 := hO4.ltB
      clear hO1 hO2 hO3 hO4 hD
      try clear hB
      have hbx := blk_new w25 #[Value.bool (decide ((o6).num < 0)), Value.slice oa on oc, Value.slice ob om od, Value.bool (decide ((o5).num < 0)), Value.slice oe oj of, Value.slice og ok oh] 59
      have hbB := (Below.refl w25.heap.size w25).alloc (Nat.le_refl _) (.cells #[Value.bool (decide ((o6).num < 0)), Value.slice oa on oc, Value.slice ob om od, Value.bool (decide ((o5).num < 0)), Value.slice oe oj of, Value.slice og ok oh] 59)
      have hltN := hbx.lt
      have hBT : Below w25.heap.size w25 (w25.alloc (.cells #[Value.bool (decide ((o6).num < 0)), Value.slice oa on oc, Value.slice ob om od, Value.bool (decide ((o5).num < 0)), Value.slice oe oj of, Value.slice og ok oh] 59)) := hbB
      have T_26 := hid (T_25.out.below hBT)
      have hbT_26 := hbT_25.next hBT
      clear T_25 hbT_25 hBT
      have hB_26 : Below w25.heap.size w25 (w25.alloc (.cells #[Value.bool (decide ((o6).num < 0)), Value.slice oa on oc, Value.slice ob om od, Value.bool (decide ((o5).num < 0)), Value.slice oe oj of, Value.slice og ok oh] 59)) := hbB
      have X_26 := X_25.next hB_26
      have Y_26 := Y_25.next hB_26
      have P_26 := P_25.next hB_26
      have R_26 := R_25.next hB_26
      have C_26 := C_25.next hB_26
      have D_26 := D_25.next hB_26
      have E_26 := E_25.next hB_26
      have S_26 := S_25.next hB_26
      have J_26 := J_25.next hB_26
      have U_26 := U_25.next hB_26
      have W_26 := W_25.next hB_26
      have Z_26 := Z_25.next hB_26
      have A1_26 := A1_25.below hB_26
      have B1_26 := B1_25.below hB_26
      have A2_26 := A2_25.below hB_26
      have B2_26 := B2_25.below hB_26
      have A3_26 := A3_25.below hB_26
      have B3_26 := B3_25.below hB_26
      have A4_26 := A4_25.below hB_26
      have B4_26 := B4_25.below hB_26
      have PL_26 := PL_25.below hB_26
      have PM_26 := PM_25.below hB_26
      have PN_26 := PN_25.below hB_26
      have PO_26 := PO_25.below hB_26
      have RL_26 := RL_25.below hB_26
      have RM_26 := RM_25.below hB_26
      have RN_26 := RN_25.below hB_26
      have RO_26 := RO_25.below hB_26
      have Q1_26 := Q1_25.below hB_26
      have Q2_26 := Q2_25.below hB_26
      have Q3_26 := Q3_25.below hB_26
      have Q4_26 := Q4_25.below hB_26
      have V1_26 := V1_25.below hB_26
      have V2_26 := V2_25.below hB_26
      have V3_26 := V3_25.below hB_26
      have V4_26 := V4_25.below hB_26
      have hbM_26 := hbM_25.next hB_26
      have Os1_26 := Os1_25.below hB_26
      have Os2_26 := Os2_25.below hB_26
      have Os3_26 := Os3_25.below hB_26
      have Os4_26 := Os4_25.below hB_26
      have Ot1_26 := Ot1_25.below hB_26
      have Ot2_26 := Ot2_25.below hB_26
      have Ot3_26 := Ot3_25.below hB_26
      have Ot4_26 := Ot4_25.below hB_26
      have Ou1_26 := Ou1_25.below hB_26
      have Ou2_26 := Ou2_25.below hB_26
      have Ou3_26 := Ou3_25.below hB_26
      have Ou4_26 := Ou4_25.below hB_26
      have Ov1_26 := Ov1_25.below hB_26
      have Ov2_26 := Ov2_25.below hB_26
      have Ov3_26 := Ov3_25.below hB_26
      have Ov4_26 := Ov4_25.below hB_26
      have Oz1_26 := Oz1_25.below hB_26
      have Oz2_26 := Oz2_25.below hB_26
      have Oz3_26 := Oz3_25.below hB_26
      have Oz4_26 := Oz4_25.below hB_26
      have Oo1_26 := Oo1_25.below hB_26
      have Oo2_26 := Oo2_25.below hB_26
      have Oo3_26 := Oo3_25.below hB_26
      have Oo4_26 := Oo4_25.below hB_26
      have hbel_26 := hbel_25.next hB_26
      have hsz_26 := hB_26.size
      clear hB_26
      have N_26 := hbx
      clear hbx hbB
      have cS_26_0 : _ = some (Value.bool (decide ((o1).num < 0))) := S_26.cell 0
      have cS_26_1 : _ = some (Value.slice sa sn sc) := S_26.cell 1
      have cS_26_2 : _ = some (Value.slice sb sm sd) := S_26.cell 2
      have cS_26_3 : _ = some (Value.bool (decide ((o2).num < 0))) := S_26.cell 3
      have cS_26_4 : _ = some (Value.slice se sj sf) := S_26.cell 4
      have cS_26_5 : _ = some (Value.slice sg sk sh) := S_26.cell 5
      have cJ_26_0 : _ = some (Value.bool (decide ((o3).num < 0))) := J_26.cell 0
      have cJ_26_1 : _ = some (Value.slice ta tn tc) := J_26.cell 1
      have cJ_26_2 : _ = some (Value.slice tb tm td) := J_26.cell 2
      have cJ_26_3 : _ = some (Value.bool (decide ((o4).num < 0))) := J_26.cell 3
      have cJ_26_4 : _ = some (Value.slice te tj tf) := J_26.cell 4
      have cJ_26_5 : _ = some (Value.slice tg tk th) := J_26.cell 5
      have cZ_26_0 : _ = some (Value.bool (decide ((o5).num < 0))) := Z_26.cell 0
      have cZ_26_1 : _ = some (Value.slice za zn zc) := Z_26.cell 1
      have cZ_26_2 : _ = some (Value.slice zb zm zd) := Z_26.cell 2
      have cZ_26_3 : _ = some (Value.bool (decide ((o5).num < 0))) := Z_26.cell 3
      have cZ_26_4 : _ = some (Value.slice ze zj zf) := Z_26.cell 4
      have cZ_26_5 : _ = some (Value.slice zg zk zh) := Z_26.cell 5
      have cN_26_0 : _ = some (Value.bool (decide ((o6).num < 0))) := N_26.cell 0
      have cN_26_1 : _ = some (Value.slice oa on oc) := N_26.cell 1
      have cN_26_2 : _ = some (Value.slice ob om od) := N_26.cell 2
      have cN_26_3 : _ = some (Value.bool (decide ((o5).num < 0))) := N_26.cell 3
      have cN_26_4 : _ = some (Value.slice oe oj of) := N_26.cell 4
      have cN_26_5 : _ = some (Value.slice og ok oh) := N_26.cell 5
      have hz26 := hid (show (w25.alloc (.cells #[Value.bool (decide ((o6).num < 0)), Value.slice oa on oc, Value.slice ob om od, Value.bool (decide ((o5).num < 0)), Value.slice oe oj of, Value.slice og ok oh] 59)).heap.size = w25.heap.size + 1 from by simp)
      go_wp2_with fail
      clear X_25 Y_25 P_25 R_25 C_25 D_25 E_25 S_25 J_25 U_25 W_25 Z_25 A1_25 B1_25 A2_25 B2_25 A3_25 B3_25 A4_25 B4_25 PL_25 PM_25 PN_25 PO_25 RL_25 RM_25 RN_25 RO_25 Q1_25 Q2_25 Q3_25 Q4_25 V1_25 V2_25 V3_25 V4_25 hbM_25 Os1_25 Os2_25 Os3_25 Os4_25 Ot1_25 Ot2_25 Ot3_25 Ot4_25 Ou1_25 Ou2_25 Ou3_25 Ou4_25 Ov1_25 Ov2_25 Ov3_25 Ov4_25 Oz1_25 Oz2_25 Oz3_25 Oz4_25 Oo1_25 Oo2_25 Oo3_25 Oo4_25 hbel_25
      generalize (w25.alloc (.cells #[Value.bool (decide ((o6).num < 0)), Value.slice oa on oc, Value.slice ob om od, Value.bool (decide ((o5).num < 0)), Value.slice oe oj of, Value.slice og ok oh] 59)) = v26 at *
      have hbx := blk_new v26 #[Value.bool (decide ((o1).num < 0)), Value.slice sa sn sc, Value.slice sb sm sd, Value.bool (decide ((o2).num < 0)), Value.slice se sj sf, Value.slice sg sk sh, Value.bool (decide ((o3).num < 0)), Value.slice ta tn tc, Value.slice tb tm td, Value.bool (decide ((o4).num < 0)), Value.slice te tj tf, Value.slice tg tk th, Value.bool (decide ((o5).num < 0)), Value.slice za zn zc, Value.slice zb zm zd, Value.bool (decide ((o5).num < 0)), Value.slice ze zj zf, Value.slice zg zk zh, Value.bool (decide ((o6).num < 0)), Value.slice oa on oc, Value.slice ob om od, Value.bool (decide ((o5).num < 0)), Value.slice oe oj of, Value.slice og ok oh] 38
      have hbB := (Below.refl v26.heap.size v26).alloc (Nat.le_refl _) (.cells #[Value.bool (decide ((o1).num < 0)), Value.slice sa sn sc, Value.slice sb sm sd, Value.bool (decide ((o2).num < 0)), Value.slice se sj sf, Value.slice sg sk sh, Value.bool (decide ((o3).num < 0)), Value.slice ta tn tc, Value.slice tb tm td, Value.bool (decide ((o4).num < 0)), Value.slice te tj tf, Value.slice tg tk th, Value.bool (decide ((o5).num < 0)), Value.slice za zn zc, Value.slice zb zm zd, Value.bool (decide ((o5).num < 0)), Value.slice ze zj zf, Value.slice zg zk zh, Value.bool (decide ((o6).num < 0)), Value.slice oa on oc, Value.slice ob om od, Value.bool (decide ((o5).num < 0)), Value.slice oe oj of, Value.slice og ok oh] 38)
      have hltGOT := hbx.lt
      have hBT : Below v26.heap.size v26 (v26.alloc (.cells #[Value.bool (decide ((o1).num < 0)), Value.slice sa sn sc, Value.slice sb sm sd, Value.bool (decide ((o2).num < 0)), Value.slice se sj sf, Value.slice sg sk sh, Value.bool (decide ((o3).num < 0)), Value.slice ta tn tc, Value.slice tb tm td, Value.bool (decide ((o4).num < 0)), Value.slice te tj tf, Value.slice tg tk th, Value.bool (decide ((o5).num < 0)), Value.slice za zn zc, Value.slice zb zm zd, Value.bool (decide ((o5).num < 0)), Value.slice ze zj zf, Value.slice zg zk zh, Value.bool (decide ((o6).num < 0)), Value.slice oa on oc, Value.slice ob om od, Value.bool (decide ((o5).num < 0)), Value.slice oe oj of, Value.slice og ok oh] 38)) := hbB
      have T_27 := hid (T_26.out.below hBT)
      have hbT_27 := hbT_26.next hBT
      clear T_26 hbT_26 hBT
      have hB_27 : Below v26.heap.size v26 (v26.alloc (.cells #[Value.bool (decide ((o1).num < 0)), Value.slice sa sn sc, Value.slice sb sm sd, Value.bool (decide ((o2).num < 0)), Value.slice se sj sf, Value.slice sg sk sh, Value.bool (decide ((o3).num < 0)), Value.slice ta tn tc, Value.slice tb tm td, Value.bool (decide ((o4).num < 0)), Value.slice te tj tf, Value.slice tg tk th, Value.bool (decide ((o5).num < 0)), Value.slice za zn zc, Value.slice zb zm zd, Value.bool (decide ((o5).num < 0)), Value.slice ze zj zf, Value.slice zg zk zh, Value.bool (decide ((o6).num < 0)), Value.slice oa on oc, Value.slice ob om od, Value.bool (decide ((o5).num < 0)), Value.slice oe oj of, Value.slice og ok oh] 38)) := hbB
      have X_27 := X_26.next hB_27
      have Y_27 := Y_26.next hB_27
      have P_27 := P_26.next hB_27
      have R_27 := R_26.next hB_27
      have C_27 := C_26.next hB_27
      have D_27 := D_26.next hB_27
      have E_27 := E_26.next hB_27
      have S_27 := S_26.next hB_27
      have J_27 := J_26.next hB_27
      have U_27 := U_26.next hB_27
      have W_27 := W_26.next hB_27
      have Z_27 := Z_26.next hB_27
      have N_27 := N_26.next hB_27
      have A1_27 := A1_26.below hB_27
      have B1_27 := B1_26.below hB_27
      have A2_27 := A2_26.below hB_27
      have B2_27 := B2_26.below hB_27
      have A3_27 := A3_26.below hB_27
      have B3_27 := B3_26.below hB_27
      have A4_27 := A4_26.below hB_27
      have B4_27 := B4_26.below hB_27
      have PL_27 := PL_26.below hB_27
      have PM_27 := PM_26.below hB_27
      have PN_27 := PN_26.below hB_27
      have PO_27 := PO_26.below hB_27
      have RL_27 := RL_26.below hB_27
      have RM_27 := RM_26.below hB_27
      have RN_27 := RN_26.below hB_27
      have RO_27 := RO_26.below hB_27
      have Q1_27 := Q1_26.below hB_27
      have Q2_27 := Q2_26.below hB_27
      have Q3_27 := Q3_26.below hB_27
      have Q4_27 := Q4_26.below hB_27
      have V1_27 := V1_26.below hB_27
      have V2_27 := V2_26.below hB_27
      have V3_27 := V3_26.below hB_27
      have V4_27 := V4_26.below hB_27
      have hbM_27 := hbM_26.next hB_27
      have Os1_27 := Os1_26.below hB_27
      have Os2_27 := Os2_26.below hB_27
      have Os3_27 := Os3_26.below hB_27
      have Os4_27 := Os4_26.below hB_27
      have Ot1_27 := Ot1_26.below hB_27
      have Ot2_27 := Ot2_26.below hB_27
      have Ot3_27 := Ot3_26.below hB_27
      have Ot4_27 := Ot4_26.below hB_27
      have Ou1_27 := Ou1_26.below hB_27
      have Ou2_27 := Ou2_26.below hB_27
      have Ou3_27 := Ou3_26.below hB_27
      have Ou4_27 := Ou4_26.below hB_27
      have Ov1_27 := Ov1_26.below hB_27
      have Ov2_27 := Ov2_26.below hB_27
      have Ov3_27 := Ov3_26.below hB_27
      have Ov4_27 := Ov4_26.below hB_27
      have Oz1_27 := Oz1_26.below hB_27
      have Oz2_27 := Oz2_26.below hB_27
      have Oz3_27 := Oz3_26.below hB_27
      have Oz4_27 := Oz4_26.below hB_27
      have Oo1_27 := Oo1_26.below hB_27
      have Oo2_27 := Oo2_26.below hB_27
      have Oo3_27 := Oo3_26.below hB_27
      have Oo4_27 := Oo4_26.below hB_27
      have hbel_27 := hbel_26.next hB_27
      have hsz_27 := hB_27.size
      clear hB_27
      have GOT_27 := hbx
      clear hbx hbB
      go_wp2_with fail
      clear X_26 Y_26 P_26 R_26 C_26 D_26 E_26 S_26 cS_26_0 cS_26_1 cS_26_2 cS_26_3 cS_26_4 cS_26_5 J_26 cJ_26_0 cJ_26_1 cJ_26_2 cJ_26_3 cJ_26_4 cJ_26_5 U_26 W_26 Z_26 cZ_26_0 cZ_26_1 cZ_26_2 cZ_26_3 cZ_26_4 cZ_26_5 N_26 cN_26_0 cN_26_1 cN_26_2 cN_26_3 cN_26_4 cN_26_5 A1_26 B1_26 A2_26 B2_26 A3_26 B3_26 A4_26 B4_26 PL_26 PM_26 PN_26 PO_26 RL_26 RM_26 RN_26 RO_26 Q1_26 Q2_26 Q3_26 Q4_26 V1_26 V2_26 V3_26 V4_26 hbM_26 Os1_26 Os2_26 Os3_26 Os4_26 Ot1_26 Ot2_26 Ot3_26 Ot4_26 Ou1_26 Ou2_26 Ou3_26 Ou4_26 Ov1_26 Ov2_26 Ov3_26 Ov4_26 Oz1_26 Oz2_26 Oz3_26 Oz4_26 Oo1_26 Oo2_26 Oo3_26 Oo4_26 hbel_26
      generalize (v26.alloc (.cells #[Value.bool (decide ((o1).num < 0)), Value.slice sa sn sc, Value.slice sb sm sd, Value.bool (decide ((o2).num < 0)), Value.slice se sj sf, Value.slice sg sk sh, Value.bool (decide ((o3).num < 0)), Value.slice ta tn tc, Value.slice tb tm td, Value.bool (decide ((o4).num < 0)), Value.slice te tj tf, Value.slice tg tk th, Value.bool (decide ((o5).num < 0)), Value.slice za zn zc, Value.slice zb zm zd, Value.bool (decide ((o5).num < 0)), Value.slice ze zj zf, Value.slice zg zk zh, Value.bool (decide ((o6).num < 0)), Value.slice oa on oc, Value.slice ob om od, Value.bool (decide ((o5).num < 0)), Value.slice oe oj of, Value.slice og ok oh] 38)) = v27 at *
      rw [hz26.out] at GOT_27
      go_wp2_with fail
      have cU_27_0 : _ = some (Value.bool (decide ((o1).num < 0))) := U_27.cell 0
      have cU_27_1 : _ = some (Value.slice ua un uc) := U_27.cell 1
      have cU_27_2 : _ = some (Value.slice ub um ud) := U_27.cell 2
      have cU_27_3 : _ = some (Value.bool (decide ((o2).num < 0))) := U_27.cell 3
      have cU_27_4 : _ = some (Value.slice ue uj uf) := U_27.cell 4
      have cU_27_5 : _ = some (Value.slice ug uk uh) := U_27.cell 5
      have cW_27_0 : _ = some (Value.bool (decide ((o3).num < 0))) := W_27.cell 0
      have cW_27_1 : _ = some (Value.slice va vn vc) := W_27.cell 1
      have cW_27_2 : _ = some (Value.slice vb vm vd) := W_27.cell 2
      have cW_27_3 : _ = some (Value.bool (decide ((o4).num < 0))) := W_27.cell 3
      have cW_27_4 : _ = some (Value.slice ve vj vf) := W_27.cell 4
      have cW_27_5 : _ = some (Value.slice vg vk vh) := W_27.cell 5
      go_region_held3 (fun w' => w'.cell? ⟨w19.heap.size, 0, none⟩ = some (Value.bool (decide ((o1).num < 0))) ∧ w'.cell? ⟨w19.heap.size, 1, none⟩ = some (Value.slice ua un uc) ∧ w'.cell? ⟨w19.heap.size, 2, none⟩ = some (Value.slice ub um ud) ∧ w'.cell? ⟨w19.heap.size, 3, none⟩ = some (Value.bool (decide ((o2).num < 0))) ∧ w'.cell? ⟨w19.heap.size, 4, none⟩ = some (Value.slice ue uj uf) ∧ w'.cell? ⟨w19.heap.size, 5, none⟩ = some (Value.slice ug uk uh) ∧ w'.cell? ⟨w21.heap.size, 0, none⟩ = some (Value.bool (decide ((o3).num < 0))) ∧ w'.cell? ⟨w21.heap.size, 1, none⟩ = some (Value.slice va vn vc) ∧ w'.cell? ⟨w21.heap.size, 2, none⟩ = some (Value.slice vb vm vd) ∧ w'.cell? ⟨w21.heap.size, 3, none⟩ = some (Value.bool (decide ((o4).num < 0))) ∧ w'.cell? ⟨w21.heap.size, 4, none⟩ = some (Value.slice ve vj vf) ∧ w'.cell? ⟨w21.heap.size, 5, none⟩ = some (Value.slice vg vk vh))
        (first | with_reducible exact ⟨cU_27_0, cU_27_1, cU_27_2, cU_27_3, cU_27_4, cU_27_5, cW_27_0, cW_27_1, cW_27_2, cW_27_3, cW_27_4, cW_27_5⟩ | with_reducible exact ⟨cU_28_0, cU_28_1, cU_28_2, cU_28_3, cU_28_4, cU_28_5, cW_28_0, cW_28_1, cW_28_2, cW_28_3, cW_28_4, cW_28_5⟩ | with_reducible exact ⟨cU_29_0, cU_29_1, cU_29_2, cU_29_3, cU_29_4, cU_29_5, cW_29_0, cW_29_1, cW_29_2, cW_29_3, cW_29_4, cW_29_5⟩ | with_reducible exact ⟨cU_30_0, cU_30_1, cU_30_2, cU_30_3, cU_30_4, cU_30_5, cW_30_0, cW_30_1, cW_30_2, cW_30_3, cW_30_4, cW_30_5⟩ | with_reducible exact ⟨cU_31_0, cU_31_1, cU_31_2, cU_31_3, cU_31_4, cU_31_5, cW_31_0, cW_31_1, cW_31_2, cW_31_3, cW_31_4, cW_31_5⟩ | go_keep)
        (first
          | (go_at_call 20; ((with_reducible refine ((beside hbel_27 (G0.out _))).mono ?_); (rintro e w28 ⟨h0a, h0n, h0c, h0b, h0m, h0d, rfl, hO, hO', hD, hB⟩; have hBT : Below v27.heap.size v27 w28 := (bl.next hB); have T_28 := hid (T_27.out.below hBT); have hbT_28 := hbT_27.next hBT; clear T_27 hbT_27 hBT; have hB_28 : Below v27.heap.size v27 w28 := (bl.next hB); have X_28 := X_27.next hB_28; have Y_28 := Y_27.next hB_28; have P_28 := P_27.next hB_28; have R_28 := R_27.next hB_28; have C_28 := C_27.next hB_28; have D_28 := D_27.next hB_28; have E_28 := E_27.next hB_28; have S_28 := S_27.next hB_28; have J_28 := J_27.next hB_28; have U_28 := U_27.next hB_28; have cU_28_0 : _ = some (Value.bool (decide ((o1).num < 0))) := U_28.cell 0; have cU_28_1 : _ = some (Value.slice ua un uc) := U_28.cell 1; have cU_28_2 : _ = some (Value.slice ub um ud) := U_28.cell 2; have cU_28_3 : _ = some (Value.bool (decide ((o2).num < 0))) := U_28.cell 3; have cU_28_4 : _ = some (Value.slice ue uj uf) := U_28.cell 4; have cU_28_5 : _ = some (Value.slice ug uk uh) := U_28.cell 5; have W_28 := W_27.next hB_28; have cW_28_0 : _ = some (Value.bool (decide ((o3).num < 0))) := W_28.cell 0; have cW_28_1 : _ = some (Value.slice va vn vc) := W_28.cell 1; have cW_28_2 : _ = some (Value.slice vb vm vd) := W_28.cell 2; have cW_28_3 : _ = some (Value.bool (decide ((o4).num < 0))) := W_28.cell 3; have cW_28_4 : _ = some (Value.slice ve vj vf) := W_28.cell 4; have cW_28_5 : _ = some (Value.slice vg vk vh) := W_28.cell 5; have Z_28 := Z_27.next hB_28; have N_28 := N_27.next hB_28; have GOT_28 := GOT_27.next hB_28; have A1_28 := A1_27.below hB_28; have B1_28 := B1_27.below hB_28; have A2_28 := A2_27.below hB_28; have B2_28 := B2_27.below hB_28; have A3_28 := A3_27.below hB_28; have B3_28 := B3_27.below hB_28; have A4_28 := A4_27.below hB_28; have B4_28 := B4_27.below hB_28; have PL_28 := PL_27.below hB_28; have PM_28 := PM_27.below hB_28; have PN_28 := PN_27.below hB_28; have PO_28 := PO_27.below hB_28; have RL_28 := RL_27.below hB_28; have RM_28 := RM_27.below hB_28; have RN_28 := RN_27.below hB_28; have RO_28 := RO_27.below hB_28; have Q1_28 := Q1_27.below hB_28; have Q2_28 := Q2_27.below hB_28; have Q3_28 := Q3_27.below hB_28; have Q4_28 := Q4_27.below hB_28; have V1_28 := V1_27.below hB_28; have V2_28 := V2_27.below hB_28; have V3_28 := V3_27.below hB_28; have V4_28 := V4_27.below hB_28; have hbM_28 := hbM_27.next hB_28; have Os1_28 := Os1_27.below hB_28; have Os2_28 := Os2_27.below hB_28; have Os3_28 := Os3_27.below hB_28; have Os4_28 := Os4_27.below hB_28; have Ot1_28 := Ot1_27.below hB_28; have Ot2_28 := Ot2_27.below hB_28; have Ot3_28 := Ot3_27.below hB_28; have Ot4_28 := Ot4_27.below hB_28; have Ou1_28 := Ou1_27.below hB_28; have Ou2_28 := Ou2_27.below hB_28; have Ou3_28 := Ou3_27.below hB_28; have Ou4_28 := Ou4_27.below hB_28; have Ov1_28 := Ov1_27.below hB_28; have Ov2_28 := Ov2_27.below hB_28; have Ov3_28 := Ov3_27.below hB_28; have Ov4_28 := Ov4_27.below hB_28; have Oz1_28 := Oz1_27.below hB_28; have Oz2_28 := Oz2_27.below hB_28; have Oz3_28 := Oz3_27.below hB_28; have Oz4_28 := Oz4_27.below hB_28; have Oo1_28 := Oo1_27.below hB_28; have Oo2_28 := Oo2_27.below hB_28; have Oo3_28 := Oo3_27.below hB_28; have Oo4_28 := Oo4_27.below hB_28; have hbel_28 := hbel_27.next hB_28; have hsz_28 := hB_28.size; clear X_27 Y_27 P_27 R_27 C_27 D_27 E_27 S_27 J_27 U_27 cU_27_0 cU_27_1 cU_27_2 cU_27_3 cU_27_4 cU_27_5 W_27 cW_27_0 cW_27_1 cW_27_2 cW_27_3 cW_27_4 cW_27_5 Z_27 N_27 GOT_27 A1_27 B1_27 A2_27 B2_27 A3_27 B3_27 A4_27 B4_27 PL_27 PM_27 PN_27 PO_27 RL_27 RM_27 RN_27 RO_27 Q1_27 Q2_27 Q3_27 Q4_27 V1_27 V2_27 V3_27 V4_27 hbM_27 Os1_27 Os2_27 Os3_27 Os4_27 Ot1_27 Ot2_27 Ot3_27 Ot4_27 Ou1_27 Ou2_27 Ou3_27 Ou4_27 Ov1_27 Ov2_27 Ov3_27 Ov4_27 Oz1_27 Oz2_27 Oz3_27 Oz4_27 Oo1_27 Oo2_27 Oo3_27 Oo4_27 hbel_27 hB_28; have Oh0_28 := hO; have ltOh0 := hO.ltB; have Ph0_28 := hO'; have ltPh0 := hO'.ltB; clear hO hO' hD; try clear hB)))
          | (go_at_call 20; ((with_reducible refine ((beside hbel_28 (G0.out _))).mono ?_); (rintro e w29 ⟨h1a, h1n, h1c, h1b, h1m, h1d, rfl, hO, hO', hD, hB⟩; have hBT : Below w28.heap.size w28 w29 := (bl.next hB); have T_29 := hid (T_28.out.below hBT); have hbT_29 := hbT_28.next hBT; clear T_28 hbT_28 hBT; have hB_29 : Below w28.heap.size w28 w29 := (bl.next hB); have X_29 := X_28.next hB_29; have Y_29 := Y_28.next hB_29; have P_29 := P_28.next hB_29; have R_29 := R_28.next hB_29; have C_29 := C_28.next hB_29; have D_29 := D_28.next hB_29; have E_29 := E_28.next hB_29; have S_29 := S_28.next hB_29; have J_29 := J_28.next hB_29; have U_29 := U_28.next hB_29; have cU_29_0 : _ = some (Value.bool (decide ((o1).num < 0))) := U_29.cell 0; have cU_29_1 : _ = some (Value.slice ua un uc) := U_29.cell 1; have cU_29_2 : _ = some (Value.slice ub um ud) := U_29.cell 2; have cU_29_3 : _ = some (Value.bool (decide ((o2).num < 0))) := U_29.cell 3; have cU_29_4 : _ = some (Value.slice ue uj uf) := U_29.cell 4; have cU_29_5 : _ = some (Value.slice ug uk uh) := U_29.cell 5; have W_29 := W_28.next hB_29; have cW_29_0 : _ = some (Value.bool (decide ((o3).num < 0))) := W_29.cell 0; have cW_29_1 : _ = some (Value.slice va vn vc) := W_29.cell 1; have cW_29_2 : _ = some (Value.slice vb vm vd) := W_29.cell 2; have cW_29_3 : _ = some (Value.bool (decide ((o4).num < 0))) := W_29.cell 3; have cW_29_4 : _ = some (Value.slice ve vj vf) := W_29.cell 4; have cW_29_5 : _ = some (Value.slice vg vk vh) := W_29.cell 5; have Z_29 := Z_28.next hB_29; have N_29 := N_28.next hB_29; have GOT_29 := GOT_28.next hB_29; have A1_29 := A1_28.below hB_29; have B1_29 := B1_28.below hB_29; have A2_29 := A2_28.below hB_29; have B2_29 := B2_28.below hB_29; have A3_29 := A3_28.below hB_29; have B3_29 := B3_28.below hB_29; have A4_29 := A4_28.below hB_29; have B4_29 := B4_28.below hB_29; have PL_29 := PL_28.below hB_29; have PM_29 := PM_28.below hB_29; have PN_29 := PN_28.below hB_29; have PO_29 := PO_28.below hB_29; have RL_29 := RL_28.below hB_29; have RM_29 := RM_28.below hB_29; have RN_29 := RN_28.below hB_29; have RO_29 := RO_28.below hB_29; have Q1_29 := Q1_28.below hB_29; have Q2_29 := Q2_28.below hB_29; have Q3_29 := Q3_28.below hB_29; have Q4_29 := Q4_28.below hB_29; have V1_29 := V1_28.below hB_29; have V2_29 := V2_28.below hB_29; have V3_29 := V3_28.below hB_29; have V4_29 := V4_28.below hB_29; have hbM_29 := hbM_28.next hB_29; have Os1_29 := Os1_28.below hB_29; have Os2_29 := Os2_28.below hB_29; have Os3_29 := Os3_28.below hB_29; have Os4_29 := Os4_28.below hB_29; have Ot1_29 := Ot1_28.below hB_29; have Ot2_29 := Ot2_28.below hB_29; have Ot3_29 := Ot3_28.below hB_29; have Ot4_29 := Ot4_28.below hB_29; have Ou1_29 := Ou1_28.below hB_29; have Ou2_29 := Ou2_28.below hB_29; have Ou3_29 := Ou3_28.below hB_29; have Ou4_29 := Ou4_28.below hB_29; have Ov1_29 := Ov1_28.below hB_29; have Ov2_29 := Ov2_28.below hB_29; have Ov3_29 := Ov3_28.below hB_29; have Ov4_29 := Ov4_28.below hB_29; have Oz1_29 := Oz1_28.below hB_29; have Oz2_29 := Oz2_28.below hB_29; have Oz3_29 := Oz3_28.below hB_29; have Oz4_29 := Oz4_28.below hB_29; have Oo1_29 := Oo1_28.below hB_29; have Oo2_29 := Oo2_28.below hB_29; have Oo3_29 := Oo3_28.below hB_29; have Oo4_29 := Oo4_28.below hB_29; have Oh0_29 := Oh0_28.below hB_29; have Ph0_29 := Ph0_28.below hB_29; have hbel_29 := hbel_28.next hB_29; have hsz_29 := hB_29.size; clear X_28 Y_28 P_28 R_28 C_28 D_28 E_28 S_28 J_28 U_28 cU_28_0 cU_28_1 cU_28_2 cU_28_3 cU_28_4 cU_28_5 W_28 cW_28_0 cW_28_1 cW_28_2 cW_28_3 cW_28_4 cW_28_5 Z_28 N_28 GOT_28 A1_28 B1_28 A2_28 B2_28 A3_28 B3_28 A4_28 B4_28 PL_28 PM_28 PN_28 PO_28 RL_28 RM_28 RN_28 RO_28 Q1_28 Q2_28 Q3_28 Q4_28 V1_28 V2_28 V3_28 V4_28 hbM_28 Os1_28 Os2_28 Os3_28 Os4_28 Ot1_28 Ot2_28 Ot3_28 Ot4_28 Ou1_28 Ou2_28 Ou3_28 Ou4_28 Ov1_28 Ov2_28 Ov3_28 Ov4_28 Oz1_28 Oz2_28 Oz3_28 Oz4_28 Oo1_28 Oo2_28 Oo3_28 Oo4_28 Oh0_28 Ph0_28 hbel_28 hB_29; have Oh1_29 := hO; have ltOh1 := hO.ltB; have Ph1_29 := hO'; have ltPh1 := hO'.ltB; clear hO hO' hD; try clear hB)))
          | (go_at_call 20; ((with_reducible refine ((beside hbel_29 (G1.out _))).mono ?_); (rintro e w30 ⟨h2a, h2n, h2c, h2b, h2m, h2d, rfl, hO, hO', hD, hB⟩; have hBT : Below w29.heap.size w29 w30 := (bl.next hB); have T_30 := hid (T_29.out.below hBT); have hbT_30 := hbT_29.next hBT; clear T_29 hbT_29 hBT; have hB_30 : Below w29.heap.size w29 w30 := (bl.next hB); have X_30 := X_29.next hB_30; have Y_30 := Y_29.next hB_30; have P_30 := P_29.next hB_30; have R_30 := R_29.next hB_30; have C_30 := C_29.next hB_30; have D_30 := D_29.next hB_30; have E_30 := E_29.next hB_30; have S_30 := S_29.next hB_30; have J_30 := J_29.next hB_30; have U_30 := U_29.next hB_30; have cU_30_0 : _ = some (Value.bool (decide ((o1).num < 0))) := U_30.cell 0; have cU_30_1 : _ = some (Value.slice ua un uc) := U_30.cell 1; have cU_30_2 : _ = some (Value.slice ub um ud) := U_30.cell 2; have cU_30_3 : _ = some (Value.bool (decide ((o2).num < 0))) := U_30.cell 3; have cU_30_4 : _ = some (Value.slice ue uj uf) := U_30.cell 4; have cU_30_5 : _ = some (Value.slice ug uk uh) := U_30.cell 5; have W_30 := W_29.next hB_30; have cW_30_0 : _ = some (Value.bool (decide ((o3).num < 0))) := W_30.cell 0; have cW_30_1 : _ = some (Value.slice va vn vc) := W_30.cell 1; have cW_30_2 : _ = some (Value.slice vb vm vd) := W_30.cell 2; have cW_30_3 : _ = some (Value.bool (decide ((o4).num < 0))) := W_30.cell 3; have cW_30_4 : _ = some (Value.slice ve vj vf) := W_30.cell 4; have cW_30_5 : _ = some (Value.slice vg vk vh) := W_30.cell 5; have Z_30 := Z_29.next hB_30; have N_30 := N_29.next hB_30; have GOT_30 := GOT_29.next hB_30; have A1_30 := A1_29.below hB_30; have B1_30 := B1_29.below hB_30; have A2_30 := A2_29.below hB_30; have B2_30 := B2_29.below hB_30; have A3_30 := A3_29.below hB_30; have B3_30 := B3_29.below hB_30; have A4_30 := A4_29.below hB_30; have B4_30 := B4_29.below hB_30; have PL_30 := PL_29.below hB_30; have PM_30 := PM_29.below hB_30; have PN_30 := PN_29.below hB_30; have PO_30 := PO_29.below hB_30; have RL_30 := RL_29.below hB_30; have RM_30 := RM_29.below hB_30; have RN_30 := RN_29.below hB_30; have RO_30 := RO_29.below hB_30; have Q1_30 := Q1_29.below hB_30; have Q2_30 := Q2_29.below hB_30; have Q3_30 := Q3_29.below hB_30; have Q4_30 := Q4_29.below hB_30; have V1_30 := V1_29.below hB_30; have V2_30 := V2_29.below hB_30; have V3_30 := V3_29.below hB_30; have V4_30 := V4_29.below hB_30; have hbM_30 := hbM_29.next hB_30; have Os1_30 := Os1_29.below hB_30; have Os2_30 := Os2_29.below hB_30; have Os3_30 := Os3_29.below hB_30; have Os4_30 := Os4_29.below hB_30; have Ot1_30 := Ot1_29.below hB_30; have Ot2_30 := Ot2_29.below hB_30; have Ot3_30 := Ot3_29.below hB_30; have Ot4_30 := Ot4_29.below hB_30; have Ou1_30 := Ou1_29.below hB_30; have Ou2_30 := Ou2_29.below hB_30; have Ou3_30 := Ou3_29.below hB_30; have Ou4_30 := Ou4_29.below hB_30; have Ov1_30 := Ov1_29.below hB_30; have Ov2_30 := Ov2_29.below hB_30; have Ov3_30 := Ov3_29.below hB_30; have Ov4_30 := Ov4_29.below hB_30; have Oz1_30 := Oz1_29.below hB_30; have Oz2_30 := Oz2_29.below hB_30; have Oz3_30 := Oz3_29.below hB_30; have Oz4_30 := Oz4_29.below hB_30; have Oo1_30 := Oo1_29.below hB_30; have Oo2_30 := Oo2_29.below hB_30; have Oo3_30 := Oo3_29.below hB_30; have Oo4_30 := Oo4_29.below hB_30; have Oh0_30 := Oh0_29.below hB_30; have Ph0_30 := Ph0_29.below hB_30; have Oh1_30 := Oh1_29.below hB_30; have Ph1_30 := Ph1_29.below hB_30; have hbel_30 := hbel_29.next hB_30; have hsz_30 := hB_30.size; clear X_29 Y_29 P_29 R_29 C_29 D_29 E_29 S_29 J_29 U_29 cU_29_0 cU_29_1 cU_29_2 cU_29_3 cU_29_4 cU_29_5 W_29 cW_29_0 cW_29_1 cW_29_2 cW_29_3 cW_29_4 cW_29_5 Z_29 N_29 GOT_29 A1_29 B1_29 A2_29 B2_29 A3_29 B3_29 A4_29 B4_29 PL_29 PM_29 PN_29 PO_29 RL_29 RM_29 RN_29 RO_29 Q1_29 Q2_29 Q3_29 Q4_29 V1_29 V2_29 V3_29 V4_29 hbM_29 Os1_29 Os2_29 Os3_29 Os4_29 Ot1_29 Ot2_29 Ot3_29 Ot4_29 Ou1_29 Ou2_29 Ou3_29 Ou4_29 Ov1_29 Ov2_29 Ov3_29 Ov4_29 Oz1_29 Oz2_29 Oz3_29 Oz4_29 Oo1_29 Oo2_29 Oo3_29 Oo4_29 Oh0_29 Ph0_29 Oh1_29 Ph1_29 hbel_29 hB_30; have Oh2_30 := hO; have ltOh2 := hO.ltB; have Ph2_30 := hO'; have ltPh2 := hO'.ltB; clear hO hO' hD; try clear hB)))
          | (go_at_call 20; ((with_reducible refine ((beside hbel_30 (G0.out _))).mono ?_); (rintro e w31 ⟨h3a, h3n, h3c, h3b, h3m, h3d, rfl, hO, hO', hD, hB⟩; have hBT : Below w30.heap.size w30 w31 := (bl.next hB); have T_31 := hid (T_30.out.below hBT); have hbT_31 := hbT_30.next hBT; clear T_30 hbT_30 hBT; have hB_31 : Below w30.heap.size w30 w31 := (bl.next hB); have X_31 := X_30.next hB_31; have Y_31 := Y_30.next hB_31; have P_31 := P_30.next hB_31; have R_31 := R_30.next hB_31; have C_31 := C_30.next hB_31; have D_31 := D_30.next hB_31; have E_31 := E_30.next hB_31; have S_31 := S_30.next hB_31; have J_31 := J_30.next hB_31; have U_31 := U_30.next hB_31; have cU_31_0 : _ = some (Value.bool (decide ((o1).num < 0))) := U_31.cell 0; have cU_31_1 : _ = some (Value.slice ua un uc) := U_31.cell 1; have cU_31_2 : _ = some (Value.slice ub um ud) := U_31.cell 2; have cU_31_3 : _ = some (Value.bool (decide ((o2).num < 0))) := U_31.cell 3; have cU_31_4 : _ = some (Value.slice ue uj uf) := U_31.cell 4; have cU_31_5 : _ = some (Value.slice ug uk uh) := U_31.cell 5; have W_31 := W_30.next hB_31; have cW_31_0 : _ = some (Value.bool (decide ((o3).num < 0))) := W_31.cell 0; have cW_31_1 : _ = some (Value.slice va vn vc) := W_31.cell 1; have cW_31_2 : _ = some (Value.slice vb vm vd) := W_31.cell 2; have cW_31_3 : _ = some (Value.bool (decide ((o4).num < 0))) := W_31.cell 3; have cW_31_4 : _ = some (Value.slice ve vj vf) := W_31.cell 4; have cW_31_5 : _ = some (Value.slice vg vk vh) := W_31.cell 5; have Z_31 := Z_30.next hB_31; have N_31 := N_30.next hB_31; have GOT_31 := GOT_30.next hB_31; have A1_31 := A1_30.below hB_31; have B1_31 := B1_30.below hB_31; have A2_31 := A2_30.below hB_31; have B2_31 := B2_30.below hB_31; have A3_31 := A3_30.below hB_31; have B3_31 := B3_30.below hB_31; have A4_31 := A4_30.below hB_31; have B4_31 := B4_30.below hB_31; have PL_31 := PL_30.below hB_31; have PM_31 := PM_30.below hB_31; have PN_31 := PN_30.below hB_31; have PO_31 := PO_30.below hB_31; have RL_31 := RL_30.below hB_31; have RM_31 := RM_30.below hB_31; have RN_31 := RN_30.below hB_31; have RO_31 := RO_30.below hB_31; have Q1_31 := Q1_30.below hB_31; have Q2_31 := Q2_30.below hB_31; have Q3_31 := Q3_30.below hB_31; have Q4_31 := Q4_30.below hB_31; have V1_31 := V1_30.below hB_31; have V2_31 := V2_30.below hB_31; have V3_31 := V3_30.below hB_31; have V4_31 := V4_30.below hB_31; have hbM_31 := hbM_30.next hB_31; have Os1_31 := Os1_30.below hB_31; have Os2_31 := Os2_30.below hB_31; have Os3_31 := Os3_30.below hB_31; have Os4_31 := Os4_30.below hB_31; have Ot1_31 := Ot1_30.below hB_31; have Ot2_31 := Ot2_30.below hB_31; have Ot3_31 := Ot3_30.below hB_31; have Ot4_31 := Ot4_30.below hB_31; have Ou1_31 := Ou1_30.below hB_31; have Ou2_31 := Ou2_30.below hB_31; have Ou3_31 := Ou3_30.below hB_31; have Ou4_31 := Ou4_30.below hB_31; have Ov1_31 := Ov1_30.below hB_31; have Ov2_31 := Ov2_30.below hB_31; have Ov3_31 := Ov3_30.below hB_31; have Ov4_31 := Ov4_30.below hB_31; have Oz1_31 := Oz1_30.below hB_31; have Oz2_31 := Oz2_30.below hB_31; have Oz3_31 := Oz3_30.below hB_31; have Oz4_31 := Oz4_30.below hB_31; have Oo1_31 := Oo1_30.below hB_31; have Oo2_31 := Oo2_30.below hB_31; have Oo3_31 := Oo3_30.below hB_31; have Oo4_31 := Oo4_30.below hB_31; have Oh0_31 := Oh0_30.below hB_31; have Ph0_31 := Ph0_30.below hB_31; have Oh1_31 := Oh1_30.below hB_31; have Ph1_31 := Ph1_30.below hB_31; have Oh2_31 := Oh2_30.below hB_31; have Ph2_31 := Ph2_30.below hB_31; have hbel_31 := hbel_30.next hB_31; have hsz_31 := hB_31.size; clear X_30 Y_30 P_30 R_30 C_30 D_30 E_30 S_30 J_30 U_30 cU_30_0 cU_30_1 cU_30_2 cU_30_3 cU_30_4 cU_30_5 W_30 cW_30_0 cW_30_1 cW_30_2 cW_30_3 cW_30_4 cW_30_5 Z_30 N_30 GOT_30 A1_30 B1_30 A2_30 B2_30 A3_30 B3_30 A4_30 B4_30 PL_30 PM_30 PN_30 PO_30 RL_30 RM_30 RN_30 RO_30 Q1_30 Q2_30 Q3_30 Q4_30 V1_30 V2_30 V3_30 V4_30 hbM_30 Os1_30 Os2_30 Os3_30 Os4_30 Ot1_30 Ot2_30 Ot3_30 Ot4_30 Ou1_30 Ou2_30 Ou3_30 Ou4_30 Ov1_30 Ov2_30 Ov3_30 Ov4_30 Oz1_30 Oz2_30 Oz3_30 Oz4_30 Oo1_30 Oo2_30 Oo3_30 Oo4_30 Oh0_30 Ph0_30 Oh1_30 Ph1_30 Oh2_30 Ph2_30 hbel_30 hB_31; have Oh3_31 := hO; have ltOh3 := hO.ltB; have Ph3_31 := hO'; have ltPh3 := hO'.ltB; clear hO hO' hD; try clear hB))))
      have hbx := blk_new w31 #[Value.bool (decide ((o1).num < 0)), Value.slice ua un uc, Value.slice ub um ud, Value.bool (decide ((o2).num < 0)), Value.slice ue uj uf, Value.slice ug uk uh, Value.bool (decide ((o3).num < 0)), Value.slice va vn vc, Value.slice vb vm vd, Value.bool (decide ((o4).num < 0)), Value.slice ve vj vf, Value.slice vg vk vh, Value.bool (decide ((o5).num < 0)), Value.slice h0a h0n h0c, Value.slice h0b h0m h0d, Value.bool (decide ((o5).num < 0)), Value.slice h1a h1n h1c, Value.slice h1b h1m h1d, Value.bool (decide ((o6).num < 0)), Value.slice h2a h2n h2c, Value.slice h2b h2m h2d, Value.bool (decide ((o5).num < 0)), Value.slice h3a h3n h3c, Value.slice h3b h3m h3d] 38
      have hbB := (Below.refl w31.heap.size w31).alloc (Nat.le_refl _) (.cells #[Value.bool (decide ((o1).num < 0)), Value.slice ua un uc, Value.slice ub um ud, Value.bool (decide ((o2).num < 0)), Value.slice ue uj uf, Value.slice ug uk uh, Value.bool (decide ((o3).num < 0)), Value.slice va vn vc, Value.slice vb vm vd, Value.bool (decide ((o4).num < 0)), Value.slice ve vj vf, Value.slice vg vk vh, Value.bool (decide ((o5).num < 0)), Value.slice h0a h0n h0c, Value.slice h0b h0m h0d, Value.bool (decide ((o5).num < 0)), Value.slice h1a h1n h1c, Value.slice h1b h1m h1d, Value.bool (decide ((o6).num < 0)), Value.slice h2a h2n h2c, Value.slice h2b h2m h2d, Value.bool (decide ((o5).num < 0)), Value.slice h3a h3n h3c, Value.slice h3b h3m h3d] 38)
      have hltWANT := hbx.lt
      have hBT : Below w31.heap.size w31 (w31.alloc (.cells #[Value.bool (decide ((o1).num < 0)), Value.slice ua un uc, Value.slice ub um ud, Value.bool (decide ((o2).num < 0)), Value.slice ue uj uf, Value.slice ug uk uh, Value.bool (decide ((o3).num < 0)), Value.slice va vn vc, Value.slice vb vm vd, Value.bool (decide ((o4).num < 0)), Value.slice ve vj vf, Value.slice vg vk vh, Value.bool (decide ((o5).num < 0)), Value.slice h0a h0n h0c, Value.slice h0b h0m h0d, Value.bool (decide ((o5).num < 0)), Value.slice h1a h1n h1c, Value.slice h1b h1m h1d, Value.bool (decide ((o6).num < 0)), Value.slice h2a h2n h2c, Value.slice h2b h2m h2d, Value.bool (decide ((o5).num < 0)), Value.slice h3a h3n h3c, Value.slice h3b h3m h3d] 38)) := hbB
      have T_32 := hid (T_31.out.below hBT)
      have hbT_32 := hbT_31.next hBT
      clear T_31 hbT_31 hBT
      have hB_32 : Below w31.heap.size w31 (w31.alloc (.cells #[Value.bool (decide ((o1).num < 0)), Value.slice ua un uc, Value.slice ub um ud, Value.bool (decide ((o2).num < 0)), Value.slice ue uj uf, Value.slice ug uk uh, Value.bool (decide ((o3).num < 0)), Value.slice va vn vc, Value.slice vb vm vd, Value.bool (decide ((o4).num < 0)), Value.slice ve vj vf, Value.slice vg vk vh, Value.bool (decide ((o5).num < 0)), Value.slice h0a h0n h0c, Value.slice h0b h0m h0d, Value.bool (decide ((o5).num < 0)), Value.slice h1a h1n h1c, Value.slice h1b h1m h1d, Value.bool (decide ((o6).num < 0)), Value.slice h2a h2n h2c, Value.slice h2b h2m h2d, Value.bool (decide ((o5).num < 0)), Value.slice h3a h3n h3c, Value.slice h3b h3m h3d] 38)) := hbB
      have X_32 := X_31.next hB_32
      have Y_32 := Y_31.next hB_32
      have P_32 := P_31.next hB_32
      have R_32 := R_31.next hB_32
      have C_32 := C_31.next hB_32
      have D_32 := D_31.next hB_32
      have E_32 := E_31.next hB_32
      have S_32 := S_31.next hB_32
      have J_32 := J_31.next hB_32
      have U_32 := U_31.next hB_32
      have W_32 := W_31.next hB_32
      have Z_32 := Z_31.next hB_32
      have N_32 := N_31.next hB_32
      have GOT_32 := GOT_31.next hB_32
      have A1_32 := A1_31.below hB_32
      have B1_32 := B1_31.below hB_32
      have A2_32 := A2_31.below hB_32
      have B2_32 := B2_31.below hB_32
      have A3_32 := A3_31.below hB_32
      have B3_32 := B3_31.below hB_32
      have A4_32 := A4_31.below hB_32
      have B4_32 := B4_31.below hB_32
      have PL_32 := PL_31.below hB_32
      have PM_32 := PM_31.below hB_32
      have PN_32 := PN_31.below hB_32
      have PO_32 := PO_31.below hB_32
      have RL_32 := RL_31.below hB_32
      have RM_32 := RM_31.below hB_32
      have RN_32 := RN_31.below hB_32
      have RO_32 := RO_31.below hB_32
      have Q1_32 := Q1_31.below hB_32
      have Q2_32 := Q2_31.below hB_32
      have Q3_32 := Q3_31.below hB_32
      have Q4_32 := Q4_31.below hB_32
      have V1_32 := V1_31.below hB_32
      have V2_32 := V2_31.below hB_32
      have V3_32 := V3_31.below hB_32
      have V4_32 := V4_31.below hB_32
      have hbM_32 := hbM_31.next hB_32
      have Os1_32 := Os1_31.below hB_32
      have Os2_32 := Os2_31.below hB_32
      have Os3_32 := Os3_31.below hB_32
      have Os4_32 := Os4_31.below hB_32
      have Ot1_32 := Ot1_31.below hB_32
      have Ot2_32 := Ot2_31.below hB_32
      have Ot3_32 := Ot3_31.below hB_32
      have Ot4_32 := Ot4_31.below hB_32
      have Ou1_32 := Ou1_31.below hB_32
      have Ou2_32 := Ou2_31.below hB_32
      have Ou3_32 := Ou3_31.below hB_32
      have Ou4_32 := Ou4_31.below hB_32
      have Ov1_32 := Ov1_31.below hB_32
      have Ov2_32 := Ov2_31.below hB_32
      have Ov3_32 := Ov3_31.below hB_32
      have Ov4_32 := Ov4_31.below hB_32
      have Oz1_32 := Oz1_31.below hB_32
      have Oz2_32 := Oz2_31.below hB_32
      have Oz3_32 := Oz3_31.below hB_32
      have Oz4_32 := Oz4_31.below hB_32
      have Oo1_32 := Oo1_31.below hB_32
      have Oo2_32 := Oo2_31.below hB_32
      have Oo3_32 := Oo3_31.below hB_32
      have Oo4_32 := Oo4_31.below hB_32
      have Oh0_32 := Oh0_31.below hB_32
      have Ph0_32 := Ph0_31.below hB_32
      have Oh1_32 := Oh1_31.below hB_32
      have Ph1_32 := Ph1_31.below hB_32
      have Oh2_32 := Oh2_31.below hB_32
      have Ph2_32 := Ph2_31.below hB_32
      have Oh3_32 := Oh3_31.below hB_32
      have Ph3_32 := Ph3_31.below hB_32
      have hbel_32 := hbel_31.next hB_32
      have hsz_32 := hB_32.size
      clear hB_32
      have WANT_32 := hbx
      clear hbx hbB
      go_wp2_with fail
      clear X_31 Y_31 P_31 R_31 C_31 D_31 E_31 S_31 J_31 U_31 cU_31_0 cU_31_1 cU_31_2 cU_31_3 cU_31_4 cU_31_5 W_31 cW_31_0 cW_31_1 cW_31_2 cW_31_3 cW_31_4 cW_31_5 Z_31 N_31 GOT_31 A1_31 B1_31 A2_31 B2_31 A3_31 B3_31 A4_31 B4_31 PL_31 PM_31 PN_31 PO_31 RL_31 RM_31 RN_31 RO_31 Q1_31 Q2_31 Q3_31 Q4_31 V1_31 V2_31 V3_31 V4_31 hbM_31 Os1_31 Os2_31 Os3_31 Os4_31 Ot1_31 Ot2_31 Ot3_31 Ot4_31 Ou1_31 Ou2_31 Ou3_31 Ou4_31 Ov1_31 Ov2_31 Ov3_31 Ov4_31 Oz1_31 Oz2_31 Oz3_31 Oz4_31 Oo1_31 Oo2_31 Oo3_31 Oo4_31 Oh0_31 Ph0_31 Oh1_31 Ph1_31 Oh2_31 Ph2_31 Oh3_31 Ph3_31 hbel_31
      generalize (w31.alloc (.cells #[Value.bool (decide ((o1).num < 0)), Value.slice ua un uc, Value.slice ub um ud, Value.bool (decide ((o2).num < 0)), Value.slice ue uj uf, Value.slice ug uk uh, Value.bool (decide ((o3).num < 0)), Value.slice va vn vc, Value.slice vb vm vd, Value.bool (decide ((o4).num < 0)), Value.slice ve vj vf, Value.slice vg vk vh, Value.bool (decide ((o5).num < 0)), Value.slice h0a h0n h0c, Value.slice h0b h0m h0d, Value.bool (decide ((o5).num < 0)), Value.slice h1a h1n h1c, Value.slice h1b h1m h1d, Value.bool (decide ((o6).num < 0)), Value.slice h2a h2n h2c, Value.slice h2b h2m h2d, Value.bool (decide ((o5).num < 0)), Value.slice h3a h3n h3c, Value.slice h3b h3m h3d] 38)) = v32 at *
      have RG_32 := qrow_of (xs := ([⟨decide (o1.num < 0), sa, sn, sc, lm o1.num.natAbs, sb, sm, sd, lm o1.den⟩, ⟨decide (o2.num < 0), se, sj, sf, lm o2.num.natAbs, sg, sk, sh, lm o2.den⟩, ⟨decide (o3.num < 0), ta, tn, tc, lm o3.num.natAbs, tb, tm, td, lm o3.den⟩, ⟨decide (o4.num < 0), te, tj, tf, lm o4.num.natAbs, tg, tk, th, lm o4.den⟩, ⟨decide (o5.num < 0), za, zn, zc, lm o5.num.natAbs, zb, zm, zd, lm o5.den⟩, ⟨decide (o5.num < 0), ze, zj, zf, lm o5.num.natAbs, zg, zk, zh, lm o5.den⟩, ⟨decide (o6.num < 0), oa, on, oc, lm o6.num.natAbs, ob, om, od, lm o6.den⟩, ⟨decide (o5.num < 0), oe, oj, of, lm o5.num.natAbs, og, ok, oh, lm o5.den⟩] : List QA)) (N := 8) GOT_32 rfl rfl (List.forall_mem_cons.2 ⟨⟨Os1_32.rd, Os2_32.rd⟩, List.forall_mem_cons.2 ⟨⟨Os3_32.rd, Os4_32.rd⟩, List.forall_mem_cons.2 ⟨⟨Ot1_32.rd, Ot2_32.rd⟩, List.forall_mem_cons.2 ⟨⟨Ot3_32.rd, Ot4_32.rd⟩, List.forall_mem_cons.2 ⟨⟨Oz1_32.rd, Oz2_32.rd⟩, List.forall_mem_cons.2 ⟨⟨Oz3_32.rd, Oz4_32.rd⟩, List.forall_mem_cons.2 ⟨⟨Oo1_32.rd, Oo2_32.rd⟩, List.forall_mem_cons.2 ⟨⟨Oo3_32.rd, Oo4_32.rd⟩, fun z hz => (by cases hz)⟩⟩⟩⟩⟩⟩⟩⟩)
      have RW_32 := qrow_of (xs := ([⟨decide (o1.num < 0), ua, un, uc, lm o1.num.natAbs, ub, um, ud, lm o1.den⟩, ⟨decide (o2.num < 0), ue, uj, uf, lm o2.num.natAbs, ug, uk, uh, lm o2.den⟩, ⟨decide (o3.num < 0), va, vn, vc, lm o3.num.natAbs, vb, vm, vd, lm o3.den⟩, ⟨decide (o4.num < 0), ve, vj, vf, lm o4.num.natAbs, vg, vk, vh, lm o4.den⟩, ⟨decide (o5.num < 0), h0a, h0n, h0c, lm o5.num.natAbs, h0b, h0m, h0d, lm o5.den⟩, ⟨decide (o5.num < 0), h1a, h1n, h1c, lm o5.num.natAbs, h1b, h1m, h1d, lm o5.den⟩, ⟨decide (o6.num < 0), h2a, h2n, h2c, lm o6.num.natAbs, h2b, h2m, h2d, lm o6.den⟩, ⟨decide (o5.num < 0), h3a, h3n, h3c, lm o5.num.natAbs, h3b, h3m, h3d, lm o5.den⟩] : List QA)) (N := 8) WANT_32 rfl rfl (List.forall_mem_cons.2 ⟨⟨Ou1_32.rd, Ou2_32.rd⟩, List.forall_mem_cons.2 ⟨⟨Ou3_32.rd, Ou4_32.rd⟩, List.forall_mem_cons.2 ⟨⟨Ov1_32.rd, Ov2_32.rd⟩, List.forall_mem_cons.2 ⟨⟨Ov3_32.rd, Ov4_32.rd⟩, List.forall_mem_cons.2 ⟨⟨Oh0_32.rd, Ph0_32.rd⟩, List.forall_mem_cons.2 ⟨⟨Oh1_32.rd, Ph1_32.rd⟩, List.forall_mem_cons.2 ⟨⟨Oh2_32.rd, Ph2_32.rd⟩, List.forall_mem_cons.2 ⟨⟨Oh3_32.rd, Ph3_32.rd⟩, fun z hz => (by cases hz)⟩⟩⟩⟩⟩⟩⟩⟩)
      have hQS : Hid (QSame 8 ([⟨decide (o1.num < 0), sa, sn, sc, lm o1.num.natAbs, sb, sm, sd, lm o1.den⟩, ⟨decide (o2.num < 0), se, sj, sf, lm o2.num.natAbs, sg, sk, sh, lm o2.den⟩, ⟨decide (o3.num < 0), ta, tn, tc, lm o3.num.natAbs, tb, tm, td, lm o3.den⟩, ⟨decide (o4.num < 0), te, tj, tf, lm o4.num.natAbs, tg, tk, th, lm o4.den⟩, ⟨decide (o5.num < 0), za, zn, zc, lm o5.num.natAbs, zb, zm, zd, lm o5.den⟩, ⟨decide (o5.num < 0), ze, zj, zf, lm o5.num.natAbs, zg, zk, zh, lm o5.den⟩, ⟨decide (o6.num < 0), oa, on, oc, lm o6.num.natAbs, ob, om, od, lm o6.den⟩, ⟨decide (o5.num < 0), oe, oj, of, lm o5.num.natAbs, og, ok, oh, lm o5.den⟩] : List QA) ([⟨decide (o1.num < 0), ua, un, uc, lm o1.num.natAbs, ub, um, ud, lm o1.den⟩, ⟨decide (o2.num < 0), ue, uj, uf, lm o2.num.natAbs, ug, uk, uh, lm o2.den⟩, ⟨decide (o3.num < 0), va, vn, vc, lm o3.num.natAbs, vb, vm, vd, lm o3.den⟩, ⟨decide (o4.num < 0), ve, vj, vf, lm o4.num.natAbs, vg, vk, vh, lm o4.den⟩, ⟨decide (o5.num < 0), h0a, h0n, h0c, lm o5.num.natAbs, h0b, h0m, h0d, lm o5.den⟩, ⟨decide (o5.num < 0), h1a, h1n, h1c, lm o5.num.natAbs, h1b, h1m, h1d, lm o5.den⟩, ⟨decide (o6.num < 0), h2a, h2n, h2c, lm o6.num.natAbs, h2b, h2m, h2d, lm o6.den⟩, ⟨decide (o5.num < 0), h3a, h3n, h3c, lm o5.num.natAbs, h3b, h3m, h3d, lm o5.den⟩] : List QA)) := by
        intro i hi
        rcases (by omega : i = 0 ∨ i = 1 ∨ i = 2 ∨ i = 3 ∨ i = 4 ∨ i = 5 ∨ i = 6 ∨ i = 7) with rfl | rfl | rfl | rfl | rfl | rfl | rfl | rfl <;> exact ⟨rfl, rfl, rfl⟩
      clear Os1_32
      clear Os2_32
      clear Os3_32
      clear Os4_32
      clear Ot1_32
      clear Ot2_32
      clear Ot3_32
      clear Ot4_32
      clear Oz1_32
      clear Oz2_32
      clear Oz3_32
      clear Oz4_32
      clear Oo1_32
      clear Oo2_32
      clear Oo3_32
      clear Oo4_32
      clear Ou1_32
      clear Ou2_32
      clear Ou3_32
      clear Ou4_32
      clear Ov1_32
      clear Ov2_32
      clear Ov3_32
      clear Ov4_32
      clear Oh0_32
      clear Ph0_32
      clear Oh1_32
      clear Ph1_32
      clear Oh2_32
      clear Ph2_32
      clear Oh3_32
      clear Ph3_32
      generalize hxs : ([⟨decide (o1.num < 0), sa, sn, sc, lm o1.num.natAbs, sb, sm, sd, lm o1.den⟩, ⟨decide (o2.num < 0), se, sj, sf, lm o2.num.natAbs, sg, sk, sh, lm o2.den⟩, ⟨decide (o3.num < 0), ta, tn, tc, lm o3.num.natAbs, tb, tm, td, lm o3.den⟩, ⟨decide (o4.num < 0), te, tj, tf, lm o4.num.natAbs, tg, tk, th, lm o4.den⟩, ⟨decide (o5.num < 0), za, zn, zc, lm o5.num.natAbs, zb, zm, zd, lm o5.den⟩, ⟨decide (o5.num < 0), ze, zj, zf, lm o5.num.natAbs, zg, zk, zh, lm o5.den⟩, ⟨decide (o6.num < 0), oa, on, oc, lm o6.num.natAbs, ob, om, od, lm o6.den⟩, ⟨decide (o5.num < 0), oe, oj, of, lm o5.num.natAbs, og, ok, oh, lm o5.den⟩] : List QA) = xs at *
      generalize ([⟨decide (o1.num < 0), ua, un, uc, lm o1.num.natAbs, ub, um, ud, lm o1.den⟩, ⟨decide (o2.num < 0), ue, uj, uf, lm o2.num.natAbs, ug, uk, uh, lm o2.den⟩, ⟨decide (o3.num < 0), va, vn, vc, lm o3.num.natAbs, vb, vm, vd, lm o3.den⟩, ⟨decide (o4.num < 0), ve, vj, vf, lm o4.num.natAbs, vg, vk, vh, lm o4.den⟩, ⟨decide (o5.num < 0), h0a, h0n, h0c, lm o5.num.natAbs, h0b, h0m, h0d, lm o5.den⟩, ⟨decide (o5.num < 0), h1a, h1n, h1c, lm o5.num.natAbs, h1b, h1m, h1d, lm o5.den⟩, ⟨decide (o6.num < 0), h2a, h2n, h2c, lm o6.num.natAbs, h2b, h2m, h2d, lm o6.den⟩, ⟨decide (o5.num < 0), h3a, h3n, h3c, lm o5.num.natAbs, h3b, h3m, h3d, lm o5.den⟩] : List QA) = ys at *
      clear hxs
      go_wp2_with fail
      have cP_32_0 : _ = some (Value.bool s1) := P_32.cell 0
      have cP_32_1 : _ = some (Value.slice pa p1 pc) := P_32.cell 1
      have cP_32_2 : _ = some (Value.slice pb q1 pd) := P_32.cell 2
      have cP_32_3 : _ = some (Value.bool s2) := P_32.cell 3
      have cP_32_4 : _ = some (Value.slice pe p2 pf) := P_32.cell 4
      have cP_32_5 : _ = some (Value.slice pg q2 ph) := P_32.cell 5
      have cR_32_0 : _ = some (Value.bool s3) := R_32.cell 0
      have cR_32_1 : _ = some (Value.slice ra p3 rc) := R_32.cell 1
      have cR_32_2 : _ = some (Value.slice rb q3 rd) := R_32.cell 2
      have cR_32_3 : _ = some (Value.bool s4) := R_32.cell 3
      have cR_32_4 : _ = some (Value.slice re p4 rf) := R_32.cell 4
      have cR_32_5 : _ = some (Value.slice rg q4 rh) := R_32.cell 5
      have cC_32_0 : _ = some (Value.bool s1) := C_32.cell 0
      have cC_32_1 : _ = some (Value.slice a1 p1 c1) := C_32.cell 1
      have cC_32_2 : _ = some (Value.slice b1 q1 d1) := C_32.cell 2
      have cC_32_3 : _ = some (Value.bool s2) := C_32.cell 3
      have cC_32_4 : _ = some (Value.slice a2 p2 c2) := C_32.cell 4
      have cC_32_5 : _ = some (Value.slice b2 q2 d2) := C_32.cell 5
      have cD_32_0 : _ = some (Value.bool s3) := D_32.cell 0
      have cD_32_1 : _ = some (Value.slice a3 p3 c3) := D_32.cell 1
      have cD_32_2 : _ = some (Value.slice b3 q3 d3) := D_32.cell 2
      have cD_32_3 : _ = some (Value.bool s4) := D_32.cell 3
      have cD_32_4 : _ = some (Value.slice a4 p4 c4) := D_32.cell 4
      have cD_32_5 : _ = some (Value.slice b4 q4 d4) := D_32.cell 5
      go_region_held3 (fun w' => w'.cell? ⟨gP, 0, none⟩ = some (Value.bool s1) ∧ w'.cell? ⟨gP, 1, none⟩ = some (Value.slice pa p1 pc) ∧ w'.cell? ⟨gP, 2, none⟩ = some (Value.slice pb q1 pd) ∧ w'.cell? ⟨gP, 3, none⟩ = some (Value.bool s2) ∧ w'.cell? ⟨gP, 4, none⟩ = some (Value.slice pe p2 pf) ∧ w'.cell? ⟨gP, 5, none⟩ = some (Value.slice pg q2 ph) ∧ w'.cell? ⟨gR, 0, none⟩ = some (Value.bool s3) ∧ w'.cell? ⟨gR, 1, none⟩ = some (Value.slice ra p3 rc) ∧ w'.cell? ⟨gR, 2, none⟩ = some (Value.slice rb q3 rd) ∧ w'.cell? ⟨gR, 3, none⟩ = some (Value.bool s4) ∧ w'.cell? ⟨gR, 4, none⟩ = some (Value.slice re p4 rf) ∧ w'.cell? ⟨gR, 5, none⟩ = some (Value.slice rg q4 rh) ∧ w'.cell? ⟨wc11.heap.size, 0, none⟩ = some (Value.bool s1) ∧ w'.cell? ⟨wc11.heap.size, 1, none⟩ = some (Value.slice a1 p1 c1) ∧ w'.cell? ⟨wc11.heap.size, 2, none⟩ = some (Value.slice b1 q1 d1) ∧ w'.cell? ⟨wc11.heap.size, 3, none⟩ = some (Value.bool s2) ∧ w'.cell? ⟨wc11.heap.size, 4, none⟩ = some (Value.slice a2 p2 c2) ∧ w'.cell? ⟨wc11.heap.size, 5, none⟩ = some (Value.slice b2 q2 d2) ∧ w'.cell? ⟨wc11.heap.size + 1, 0, none⟩ = some (Value.bool s3) ∧ w'.cell? ⟨wc11.heap.size + 1, 1, none⟩ = some (Value.slice a3 p3 c3) ∧ w'.cell? ⟨wc11.heap.size + 1, 2, none⟩ = some (Value.slice b3 q3 d3) ∧ w'.cell? ⟨wc11.heap.size + 1, 3, none⟩ = some (Value.bool s4) ∧ w'.cell? ⟨wc11.heap.size + 1, 4, none⟩ = some (Value.slice a4 p4 c4) ∧ w'.cell? ⟨wc11.heap.size + 1, 5, none⟩ = some (Value.slice b4 q4 d4))
        (first | with_reducible exact ⟨cP_32_0, cP_32_1, cP_32_2, cP_32_3, cP_32_4, cP_32_5, cR_32_0, cR_32_1, cR_32_2, cR_32_3, cR_32_4, cR_32_5, cC_32_0, cC_32_1, cC_32_2, cC_32_3, cC_32_4, cC_32_5, cD_32_0, cD_32_1, cD_32_2, cD_32_3, cD_32_4, cD_32_5⟩ | with_reducible exact ⟨cP_33_0, cP_33_1, cP_33_2, cP_33_3, cP_33_4, cP_33_5, cR_33_0, cR_33_1, cR_33_2, cR_33_3, cR_33_4, cR_33_5, cC_33_0, cC_33_1, cC_33_2, cC_33_3, cC_33_4, cC_33_5, cD_33_0, cD_33_1, cD_33_2, cD_33_3, cD_33_4, cD_33_5⟩ | with_reducible exact ⟨cP_34_0, cP_34_1, cP_34_2, cP_34_3, cP_34_4, cP_34_5, cR_34_0, cR_34_1, cR_34_2, cR_34_3, cR_34_4, cR_34_5, cC_34_0, cC_34_1, cC_34_2, cC_34_3, cC_34_4, cC_34_5, cD_34_0, cD_34_1, cD_34_2, cD_34_3, cD_34_4, cD_34_5⟩ | with_reducible exact ⟨cP_35_0, cP_35_1, cP_35_2, cP_35_3, cP_35_4, cP_35_5, cR_35_0, cR_35_1, cR_35_2, cR_35_3, cR_35_4, cR_35_5, cC_35_0, cC_35_1, cC_35_2, cC_35_3, cC_35_4, cC_35_5, cD_35_0, cD_35_1, cD_35_2, cD_35_3, cD_35_4, cD_35_5⟩ | go_keep)
        (first
          | (go_at_call 49; ((with_reducible refine (kssame (V1_32.below bl) (V2_32.below bl) (V3_32.below bl) (V4_32.below bl) (by omega : 1 ≤ 12) (by omega)).mono ?_); (rw [hsm.out]; rintro e w33 ⟨rfl, hB⟩; have hBT : Below v32.heap.size v32 w33 := (bl.next hB); have T_33 := hid (T_32.out.below hBT); have hbT_33 := hbT_32.next hBT; clear T_32 hbT_32 hBT; have hB_33 : Below v32.heap.size v32 w33 := (bl.next hB); have X_33 := X_32.next hB_33; have Y_33 := Y_32.next hB_33; have P_33 := P_32.next hB_33; have cP_33_0 : _ = some (Value.bool s1) := P_33.cell 0; have cP_33_1 : _ = some (Value.slice pa p1 pc) := P_33.cell 1; have cP_33_2 : _ = some (Value.slice pb q1 pd) := P_33.cell 2; have cP_33_3 : _ = some (Value.bool s2) := P_33.cell 3; have cP_33_4 : _ = some (Value.slice pe p2 pf) := P_33.cell 4; have cP_33_5 : _ = some (Value.slice pg q2 ph) := P_33.cell 5; have R_33 := R_32.next hB_33; have cR_33_0 : _ = some (Value.bool s3) := R_33.cell 0; have cR_33_1 : _ = some (Value.slice ra p3 rc) := R_33.cell 1; have cR_33_2 : _ = some (Value.slice rb q3 rd) := R_33.cell 2; have cR_33_3 : _ = some (Value.bool s4) := R_33.cell 3; have cR_33_4 : _ = some (Value.slice re p4 rf) := R_33.cell 4; have cR_33_5 : _ = some (Value.slice rg q4 rh) := R_33.cell 5; have C_33 := C_32.next hB_33; have cC_33_0 : _ = some (Value.bool s1) := C_33.cell 0; have cC_33_1 : _ = some (Value.slice a1 p1 c1) := C_33.cell 1; have cC_33_2 : _ = some (Value.slice b1 q1 d1) := C_33.cell 2; have cC_33_3 : _ = some (Value.bool s2) := C_33.cell 3; have cC_33_4 : _ = some (Value.slice a2 p2 c2) := C_33.cell 4; have cC_33_5 : _ = some (Value.slice b2 q2 d2) := C_33.cell 5; have D_33 := D_32.next hB_33; have cD_33_0 : _ = some (Value.bool s3) := D_33.cell 0; have cD_33_1 : _ = some (Value.slice a3 p3 c3) := D_33.cell 1; have cD_33_2 : _ = some (Value.slice b3 q3 d3) := D_33.cell 2; have cD_33_3 : _ = some (Value.bool s4) := D_33.cell 3; have cD_33_4 : _ = some (Value.slice a4 p4 c4) := D_33.cell 4; have cD_33_5 : _ = some (Value.slice b4 q4 d4) := D_33.cell 5; have E_33 := E_32.next hB_33; have S_33 := S_32.next hB_33; have J_33 := J_32.next hB_33; have U_33 := U_32.next hB_33; have W_33 := W_32.next hB_33; have Z_33 := Z_32.next hB_33; have N_33 := N_32.next hB_33; have GOT_33 := GOT_32.next hB_33; have WANT_33 := WANT_32.next hB_33; have A1_33 := A1_32.below hB_33; have B1_33 := B1_32.below hB_33; have A2_33 := A2_32.below hB_33; have B2_33 := B2_32.below hB_33; have A3_33 := A3_32.below hB_33; have B3_33 := B3_32.below hB_33; have A4_33 := A4_32.below hB_33; have B4_33 := B4_32.below hB_33; have PL_33 := PL_32.below hB_33; have PM_33 := PM_32.below hB_33; have PN_33 := PN_32.below hB_33; have PO_33 := PO_32.below hB_33; have RL_33 := RL_32.below hB_33; have RM_33 := RM_32.below hB_33; have RN_33 := RN_32.below hB_33; have RO_33 := RO_32.below hB_33; have Q1_33 := Q1_32.below hB_33; have Q2_33 := Q2_32.below hB_33; have Q3_33 := Q3_32.below hB_33; have Q4_33 := Q4_32.below hB_33; have V1_33 := V1_32.below hB_33; have V2_33 := V2_32.below hB_33; have V3_33 := V3_32.below hB_33; have V4_33 := V4_32.below hB_33; have hbM_33 := hbM_32.next hB_33; have RG_33 := RG_32.below hB_33; have RW_33 := RW_32.below hB_33; have hbel_33 := hbel_32.next hB_33; have hsz_33 := hB_33.size; clear X_32 Y_32 P_32 cP_32_0 cP_32_1 cP_32_2 cP_32_3 cP_32_4 cP_32_5 R_32 cR_32_0 cR_32_1 cR_32_2 cR_32_3 cR_32_4 cR_32_5 C_32 cC_32_0 cC_32_1 cC_32_2 cC_32_3 cC_32_4 cC_32_5 D_32 cD_32_0 cD_32_1 cD_32_2 cD_32_3 cD_32_4 cD_32_5 E_32 S_32 J_32 U_32 W_32 Z_32 N_32 GOT_32 WANT_32 A1_32 B1_32 A2_32 B2_32 A3_32 B3_32 A4_32 B4_32 PL_32 PM_32 PN_32 PO_32 RL_32 RM_32 RN_32 RO_32 Q1_32 Q2_32 Q3_32 Q4_32 V1_32 V2_32 V3_32 V4_32 hbM_32 RG_32 RW_32 hbel_32 hB_33; try clear hB)))
          | (go_at_call 50; ((with_reducible refine (rkssame (Q1_33.below bl) (Q2_33.below bl) (Q3_33.below bl) (Q4_33.below bl) (by omega : 1 ≤ 12) (by omega)).mono ?_); (rw [hsm.out]; rintro e w34 ⟨rfl, hB⟩; have hBT : Below w33.heap.size w33 w34 := (bl.next hB); have T_34 := hid (T_33.out.below hBT); have hbT_34 := hbT_33.next hBT; clear T_33 hbT_33 hBT; have hB_34 : Below w33.heap.size w33 w34 := (bl.next hB); have X_34 := X_33.next hB_34; have Y_34 := Y_33.next hB_34; have P_34 := P_33.next hB_34; have cP_34_0 : _ = some (Value.bool s1) := P_34.cell 0; have cP_34_1 : _ = some (Value.slice pa p1 pc) := P_34.cell 1; have cP_34_2 : _ = some (Value.slice pb q1 pd) := P_34.cell 2; have cP_34_3 : _ = some (Value.bool s2) := P_34.cell 3; have cP_34_4 : _ = some (Value.slice pe p2 pf) := P_34.cell 4; have cP_34_5 : _ = some (Value.slice pg q2 ph) := P_34.cell 5; have R_34 := R_33.next hB_34; have cR_34_0 : _ = some (Value.bool s3) := R_34.cell 0; have cR_34_1 : _ = some (Value.slice ra p3 rc) := R_34.cell 1; have cR_34_2 : _ = some (Value.slice rb q3 rd) := R_34.cell 2; have cR_34_3 : _ = some (Value.bool s4) := R_34.cell 3; have cR_34_4 : _ = some (Value.slice re p4 rf) := R_34.cell 4; have cR_34_5 : _ = some (Value.slice rg q4 rh) := R_34.cell 5; have C_34 := C_33.next hB_34; have cC_34_0 : _ = some (Value.bool s1) := C_34.cell 0; have cC_34_1 : _ = some (Value.slice a1 p1 c1) := C_34.cell 1; have cC_34_2 : _ = some (Value.slice b1 q1 d1) := C_34.cell 2; have cC_34_3 : _ = some (Value.bool s2) := C_34.cell 3; have cC_34_4 : _ = some (Value.slice a2 p2 c2) := C_34.cell 4; have cC_34_5 : _ = some (Value.slice b2 q2 d2) := C_34.cell 5; have D_34 := D_33.next hB_34; have cD_34_0 : _ = some (Value.bool s3) := D_34.cell 0; have cD_34_1 : _ = some (Value.slice a3 p3 c3) := D_34.cell 1; have cD_34_2 : _ = some (Value.slice b3 q3 d3) := D_34.cell 2; have cD_34_3 : _ = some (Value.bool s4) := D_34.cell 3; have cD_34_4 : _ = some (Value.slice a4 p4 c4) := D_34.cell 4; have cD_34_5 : _ = some (Value.slice b4 q4 d4) := D_34.cell 5; have E_34 := E_33.next hB_34; have S_34 := S_33.next hB_34; have J_34 := J_33.next hB_34; have U_34 := U_33.next hB_34; have W_34 := W_33.next hB_34; have Z_34 := Z_33.next hB_34; have N_34 := N_33.next hB_34; have GOT_34 := GOT_33.next hB_34; have WANT_34 := WANT_33.next hB_34; have A1_34 := A1_33.below hB_34; have B1_34 := B1_33.below hB_34; have A2_34 := A2_33.below hB_34; have B2_34 := B2_33.below hB_34; have A3_34 := A3_33.below hB_34; have B3_34 := B3_33.below hB_34; have A4_34 := A4_33.below hB_34; have B4_34 := B4_33.below hB_34; have PL_34 := PL_33.below hB_34; have PM_34 := PM_33.below hB_34; have PN_34 := PN_33.below hB_34; have PO_34 := PO_33.below hB_34; have RL_34 := RL_33.below hB_34; have RM_34 := RM_33.below hB_34; have RN_34 := RN_33.below hB_34; have RO_34 := RO_33.below hB_34; have Q1_34 := Q1_33.below hB_34; have Q2_34 := Q2_33.below hB_34; have Q3_34 := Q3_33.below hB_34; have Q4_34 := Q4_33.below hB_34; have V1_34 := V1_33.below hB_34; have V2_34 := V2_33.below hB_34; have V3_34 := V3_33.below hB_34; have V4_34 := V4_33.below hB_34; have hbM_34 := hbM_33.next hB_34; have RG_34 := RG_33.below hB_34; have RW_34 := RW_33.below hB_34; have hbel_34 := hbel_33.next hB_34; have hsz_34 := hB_34.size; clear X_33 Y_33 P_33 cP_33_0 cP_33_1 cP_33_2 cP_33_3 cP_33_4 cP_33_5 R_33 cR_33_0 cR_33_1 cR_33_2 cR_33_3 cR_33_4 cR_33_5 C_33 cC_33_0 cC_33_1 cC_33_2 cC_33_3 cC_33_4 cC_33_5 D_33 cD_33_0 cD_33_1 cD_33_2 cD_33_3 cD_33_4 cD_33_5 E_33 S_33 J_33 U_33 W_33 Z_33 N_33 GOT_33 WANT_33 A1_33 B1_33 A2_33 B2_33 A3_33 B3_33 A4_33 B4_33 PL_33 PM_33 PN_33 PO_33 RL_33 RM_33 RN_33 RO_33 Q1_33 Q2_33 Q3_33 Q4_33 V1_33 V2_33 V3_33 V4_33 hbM_33 RG_33 RW_33 hbel_33 hB_34; try clear hB)))
          | (go_at_call 49; ((with_reducible refine (kssame (V1_34.below bl) (V2_34.below bl) (V1_34.below bl) (V2_34.below bl) (by omega : 1 ≤ 12) (by omega)).mono ?_); (rw [hst.out]; rintro e w35 ⟨rfl, hB⟩; have hBT : Below w34.heap.size w34 w35 := (bl.next hB); have T_35 := hid (T_34.out.below hBT); have hbT_35 := hbT_34.next hBT; clear T_34 hbT_34 hBT; have hB_35 : Below w34.heap.size w34 w35 := (bl.next hB); have X_35 := X_34.next hB_35; have Y_35 := Y_34.next hB_35; have P_35 := P_34.next hB_35; have cP_35_0 : _ = some (Value.bool s1) := P_35.cell 0; have cP_35_1 : _ = some (Value.slice pa p1 pc) := P_35.cell 1; have cP_35_2 : _ = some (Value.slice pb q1 pd) := P_35.cell 2; have cP_35_3 : _ = some (Value.bool s2) := P_35.cell 3; have cP_35_4 : _ = some (Value.slice pe p2 pf) := P_35.cell 4; have cP_35_5 : _ = some (Value.slice pg q2 ph) := P_35.cell 5; have R_35 := R_34.next hB_35; have cR_35_0 : _ = some (Value.bool s3) := R_35.cell 0; have cR_35_1 : _ = some (Value.slice ra p3 rc) := R_35.cell 1; have cR_35_2 : _ = some (Value.slice rb q3 rd) := R_35.cell 2; have cR_35_3 : _ = some (Value.bool s4) := R_35.cell 3; have cR_35_4 : _ = some (Value.slice re p4 rf) := R_35.cell 4; have cR_35_5 : _ = some (Value.slice rg q4 rh) := R_35.cell 5; have C_35 := C_34.next hB_35; have cC_35_0 : _ = some (Value.bool s1) := C_35.cell 0; have cC_35_1 : _ = some (Value.slice a1 p1 c1) := C_35.cell 1; have cC_35_2 : _ = some (Value.slice b1 q1 d1) := C_35.cell 2; have cC_35_3 : _ = some (Value.bool s2) := C_35.cell 3; have cC_35_4 : _ = some (Value.slice a2 p2 c2) := C_35.cell 4; have cC_35_5 : _ = some (Value.slice b2 q2 d2) := C_35.cell 5; have D_35 := D_34.next hB_35; have cD_35_0 : _ = some (Value.bool s3) := D_35.cell 0; have cD_35_1 : _ = some (Value.slice a3 p3 c3) := D_35.cell 1; have cD_35_2 : _ = some (Value.slice b3 q3 d3) := D_35.cell 2; have cD_35_3 : _ = some (Value.bool s4) := D_35.cell 3; have cD_35_4 : _ = some (Value.slice a4 p4 c4) := D_35.cell 4; have cD_35_5 : _ = some (Value.slice b4 q4 d4) := D_35.cell 5; have E_35 := E_34.next hB_35; have S_35 := S_34.next hB_35; have J_35 := J_34.next hB_35; have U_35 := U_34.next hB_35; have W_35 := W_34.next hB_35; have Z_35 := Z_34.next hB_35; have N_35 := N_34.next hB_35; have GOT_35 := GOT_34.next hB_35; have WANT_35 := WANT_34.next hB_35; have A1_35 := A1_34.below hB_35; have B1_35 := B1_34.below hB_35; have A2_35 := A2_34.below hB_35; have B2_35 := B2_34.below hB_35; have A3_35 := A3_34.below hB_35; have B3_35 := B3_34.below hB_35; have A4_35 := A4_34.below hB_35; have B4_35 := B4_34.below hB_35; have PL_35 := PL_34.below hB_35; have PM_35 := PM_34.below hB_35; have PN_35 := PN_34.below hB_35; have PO_35 := PO_34.below hB_35; have RL_35 := RL_34.below hB_35; have RM_35 := RM_34.below hB_35; have RN_35 := RN_34.below hB_35; have RO_35 := RO_34.below hB_35; have Q1_35 := Q1_34.below hB_35; have Q2_35 := Q2_34.below hB_35; have Q3_35 := Q3_34.below hB_35; have Q4_35 := Q4_34.below hB_35; have V1_35 := V1_34.below hB_35; have V2_35 := V2_34.below hB_35; have V3_35 := V3_34.below hB_35; have V4_35 := V4_34.below hB_35; have hbM_35 := hbM_34.next hB_35; have RG_35 := RG_34.below hB_35; have RW_35 := RW_34.below hB_35; have hbel_35 := hbel_34.next hB_35; have hsz_35 := hB_35.size; clear X_34 Y_34 P_34 cP_34_0 cP_34_1 cP_34_2 cP_34_3 cP_34_4 cP_34_5 R_34 cR_34_0 cR_34_1 cR_34_2 cR_34_3 cR_34_4 cR_34_5 C_34 cC_34_0 cC_34_1 cC_34_2 cC_34_3 cC_34_4 cC_34_5 D_34 cD_34_0 cD_34_1 cD_34_2 cD_34_3 cD_34_4 cD_34_5 E_34 S_34 J_34 U_34 W_34 Z_34 N_34 GOT_34 WANT_34 A1_34 B1_34 A2_34 B2_34 A3_34 B3_34 A4_34 B4_34 PL_34 PM_34 PN_34 PO_34 RL_34 RM_34 RN_34 RO_34 Q1_34 Q2_34 Q3_34 Q4_34 V1_34 V2_34 V3_34 V4_34 hbM_34 RG_34 RW_34 hbel_34 hB_35; try clear hB))))
      have cX_35_0 : _ = some (Value.bool s1) := X_35.cell 0
      have fX_35_0 := X_35.free 0
      have cX_35_1 : _ = some (Value.slice a1 p1 c1) := X_35.cell 1
      have fX_35_1 := X_35.free 1
      have cX_35_2 : _ = some (Value.slice b1 q1 d1) := X_35.cell 2
      have fX_35_2 := X_35.free 2
      have cX_35_3 : _ = some (Value.bool s2) := X_35.cell 3
      have fX_35_3 := X_35.free 3
      have cX_35_4 : _ = some (Value.slice a2 p2 c2) := X_35.cell 4
      have fX_35_4 := X_35.free 4
      have cX_35_5 : _ = some (Value.slice b2 q2 d2) := X_35.cell 5
      have fX_35_5 := X_35.free 5
      go_wp2_with fail
      refine (fkept PL_35 PM_35 A1_35 B1_35).mono ?_
      rintro e w36 ⟨rfl, hB⟩
      have hBT : Below w35.heap.size w35 w36 := (bl.next hB)
      have T_36 := hid (T_35.out.below hBT)
      have hbT_36 := hbT_35.next hBT
      clear T_35 hbT_35 hBT
      have hB_36 : Below w35.heap.size w35 w36 := (bl.next hB)
      have X_36 := X_35.next hB_36
      have Y_36 := Y_35.next hB_36
      have P_36 := P_35.next hB_36
      have R_36 := R_35.next hB_36
      have C_36 := C_35.next hB_36
      have D_36 := D_35.next hB_36
      have E_36 := E_35.next hB_36
      have S_36 := S_35.next hB_36
      have J_36 := J_35.next hB_36
      have U_36 := U_35.next hB_36
      have W_36 := W_35.next hB_36
      have Z_36 := Z_35.next hB_36
      have N_36 := N_35.next hB_36
      have GOT_36 := GOT_35.next hB_36
      have WANT_36 := WANT_35.next hB_36
      have A1_36 := A1_35.below hB_36
      have B1_36 := B1_35.below hB_36
      have A2_36 := A2_35.below hB_36
      have B2_36 := B2_35.below hB_36
      have A3_36 := A3_35.below hB_36
      have B3_36 := B3_35.below hB_36
      have A4_36 := A4_35.below hB_36
      have B4_36 := B4_35.below hB_36
      have PL_36 := PL_35.below hB_36
      have PM_36 := PM_35.below hB_36
      have PN_36 := PN_35.below hB_36
      have PO_36 := PO_35.below hB_36
      have RL_36 := RL_35.below hB_36
      have RM_36 := RM_35.below hB_36
      have RN_36 := RN_35.below hB_36
      have RO_36 := RO_35.below hB_36
      have Q1_36 := Q1_35.below hB_36
      have Q2_36 := Q2_35.below hB_36
      have Q3_36 := Q3_35.below hB_36
      have Q4_36 := Q4_35.below hB_36
      have V1_36 := V1_35.below hB_36
      have V2_36 := V2_35.below hB_36
      have V3_36 := V3_35.below hB_36
      have V4_36 := V4_35.below hB_36
      have hbM_36 := hbM_35.next hB_36
      have RG_36 := RG_35.below hB_36
      have RW_36 := RW_35.below hB_36
      have hbel_36 := hbel_35.next hB_36
      have hsz_36 := hB_36.size
      clear X_35 cX_35_0 fX_35_0 cX_35_1 fX_35_1 cX_35_2 fX_35_2 cX_35_3 fX_35_3 cX_35_4 fX_35_4 cX_35_5 fX_35_5 Y_35 P_35 cP_35_0 cP_35_1 cP_35_2 cP_35_3 cP_35_4 cP_35_5 R_35 cR_35_0 cR_35_1 cR_35_2 cR_35_3 cR_35_4 cR_35_5 C_35 cC_35_0 cC_35_1 cC_35_2 cC_35_3 cC_35_4 cC_35_5 D_35 cD_35_0 cD_35_1 cD_35_2 cD_35_3 cD_35_4 cD_35_5 E_35 S_35 J_35 U_35 W_35 Z_35 N_35 GOT_35 WANT_35 A1_35 B1_35 A2_35 B2_35 A3_35 B3_35 A4_35 B4_35 PL_35 PM_35 PN_35 PO_35 RL_35 RM_35 RN_35 RO_35 Q1_35 Q2_35 Q3_35 Q4_35 V1_35 V2_35 V3_35 V4_35 hbM_35 RG_35 RW_35 hbel_35 hB_36
      try clear hB
      have cP_36_0 : _ = some (Value.bool s1) := P_36.cell 0
      have cP_36_1 : _ = some (Value.slice pa p1 pc) := P_36.cell 1
      have cP_36_2 : _ = some (Value.slice pb q1 pd) := P_36.cell 2
      have cP_36_3 : _ = some (Value.bool s2) := P_36.cell 3
      have cP_36_4 : _ = some (Value.slice pe p2 pf) := P_36.cell 4
      have cP_36_5 : _ = some (Value.slice pg q2 ph) := P_36.cell 5
      have cX_36_0 : _ = some (Value.bool s1) := X_36.cell 0
      have fX_36_0 := X_36.free 0
      have cX_36_1 : _ = some (Value.slice a1 p1 c1) := X_36.cell 1
      have fX_36_1 := X_36.free 1
      have cX_36_2 : _ = some (Value.slice b1 q1 d1) := X_36.cell 2
      have fX_36_2 := X_36.free 2
      have cX_36_3 : _ = some (Value.bool s2) := X_36.cell 3
      have fX_36_3 := X_36.free 3
      have cX_36_4 : _ = some (Value.slice a2 p2 c2) := X_36.cell 4
      have fX_36_4 := X_36.free 4
      have cX_36_5 : _ = some (Value.slice b2 q2 d2) := X_36.cell 5
      have fX_36_5 := X_36.free 5
      go_wp2_with fail
      refine (fkept PN_36 PO_36 A2_36 B2_36).mono ?_
      rintro e w37 ⟨rfl, hB⟩
      have hBT : Below w36.heap.size w36 w37 := (bl.next hB)
      have T_37 := hid (T_36.out.below hBT)
      have hbT_37 := hbT_36.next hBT
      clear T_36 hbT_36 hBT
      have hB_37 : Below w36.heap.size w36 w37 := (bl.next hB)
      have X_37 := X_36.next hB_37
      have Y_37 := Y_36.next hB_37
      have P_37 := P_36.next hB_37
      have R_37 := R_36.next hB_37
      have C_37 := C_36.next hB_37
      have D_37 := D_36.next hB_37
      have E_37 := E_36.next hB_37
      have S_37 := S_36.next hB_37
      have J_37 := J_36.next hB_37
      have U_37 := U_36.next hB_37
      have W_37 := W_36.next hB_37
      have Z_37 := Z_36.next hB_37
      have N_37 := N_36.next hB_37
      have GOT_37 := GOT_36.next hB_37
      have WANT_37 := WANT_36.next hB_37
      have A1_37 := A1_36.below hB_37
      have B1_37 := B1_36.below hB_37
      have A2_37 := A2_36.below hB_37
      have B2_37 := B2_36.below hB_37
      have A3_37 := A3_36.below hB_37
      have B3_37 := B3_36.below hB_37
      have A4_37 := A4_36.below hB_37
      have B4_37 := B4_36.below hB_37
      have PL_37 := PL_36.below hB_37
      have PM_37 := PM_36.below hB_37
      have PN_37 := PN_36.below hB_37
      have PO_37 := PO_36.below hB_37
      have RL_37 := RL_36.below hB_37
      have RM_37 := RM_36.below hB_37
      have RN_37 := RN_36.below hB_37
      have RO_37 := RO_36.below hB_37
      have Q1_37 := Q1_36.below hB_37
      have Q2_37 := Q2_36.below hB_37
      have Q3_37 := Q3_36.below hB_37
      have Q4_37 := Q4_36.below hB_37
      have V1_37 := V1_36.below hB_37
      have V2_37 := V2_36.below hB_37
      have V3_37 := V3_36.below hB_37
      have V4_37 := V4_36.below hB_37
      have hbM_37 := hbM_36.next hB_37
      have RG_37 := RG_36.below hB_37
      have RW_37 := RW_36.below hB_37
      have hbel_37 := hbel_36.next hB_37
      have hsz_37 := hB_37.size
      clear X_36 cX_36_0 fX_36_0 cX_36_1 fX_36_1 cX_36_2 fX_36_2 cX_36_3 fX_36_3 cX_36_4 fX_36_4 cX_36_5 fX_36_5 Y_36 P_36 cP_36_0 cP_36_1 cP_36_2 cP_36_3 cP_36_4 cP_36_5 R_36 C_36 D_36 E_36 S_36 J_36 U_36 W_36 Z_36 N_36 GOT_36 WANT_36 A1_36 B1_36 A2_36 B2_36 A3_36 B3_36 A4_36 B4_36 PL_36 PM_36 PN_36 PO_36 RL_36 RM_36 RN_36 RO_36 Q1_36 Q2_36 Q3_36 Q4_36 V1_36 V2_36 V3_36 V4_36 hbM_36 RG_36 RW_36 hbel_36 hB_37
      try clear hB
      have cR_37_0 : _ = some (Value.bool s3) := R_37.cell 0
      have cR_37_1 : _ = some (Value.slice ra p3 rc) := R_37.cell 1
      have cR_37_2 : _ = some (Value.slice rb q3 rd) := R_37.cell 2
      have cR_37_3 : _ = some (Value.bool s4) := R_37.cell 3
      have cR_37_4 : _ = some (Value.slice re p4 rf) := R_37.cell 4
      have cR_37_5 : _ = some (Value.slice rg q4 rh) := R_37.cell 5
      have cY_37_0 : _ = some (Value.bool s3) := Y_37.cell 0
      have fY_37_0 := Y_37.free 0
      have cY_37_1 : _ = some (Value.slice a3 p3 c3) := Y_37.cell 1
      have fY_37_1 := Y_37.free 1
      have cY_37_2 : _ = some (Value.slice b3 q3 d3) := Y_37.cell 2
      have fY_37_2 := Y_37.free 2
      have cY_37_3 : _ = some (Value.bool s4) := Y_37.cell 3
      have fY_37_3 := Y_37.free 3
      have cY_37_4 : _ = some (Value.slice a4 p4 c4) := Y_37.cell 4
      have fY_37_4 := Y_37.free 4
      have cY_37_5 : _ = some (Value.slice b4 q4 d4) := Y_37.cell 5
      have fY_37_5 := Y_37.free 5
      go_wp2_with fail
      refine (fkept RL_37 RM_37 A3_37 B3_37).mono ?_
      rintro e w38 ⟨rfl, hB⟩
      have hBT : Below w37.heap.size w37 w38 := (bl.next hB)
      have T_38 := hid (T_37.out.below hBT)
      have hbT_38 := hbT_37.next hBT
      clear T_37 hbT_37 hBT
      have hB_38 : Below w37.heap.size w37 w38 := (bl.next hB)
      have X_38 := X_37.next hB_38
      have Y_38 := Y_37.next hB_38
      have P_38 := P_37.next hB_38
      have R_38 := R_37.next hB_38
      have C_38 := C_37.next hB_38
      have D_38 := D_37.next hB_38
      have E_38 := E_37.next hB_38
      have S_38 := S_37.next hB_38
      have J_38 := J_37.next hB_38
      have U_38 := U_37.next hB_38
      have W_38 := W_37.next hB_38
      have Z_38 := Z_37.next hB_38
      have N_38 := N_37.next hB_38
      have GOT_38 := GOT_37.next hB_38
      have WANT_38 := WANT_37.next hB_38
      have A1_38 := A1_37.below hB_38
      have B1_38 := B1_37.below hB_38
      have A2_38 := A2_37.below hB_38
      have B2_38 := B2_37.below hB_38
      have A3_38 := A3_37.below hB_38
      have B3_38 := B3_37.below hB_38
      have A4_38 := A4_37.below hB_38
      have B4_38 := B4_37.below hB_38
      have PL_38 := PL_37.below hB_38
      have PM_38 := PM_37.below hB_38
      have PN_38 := PN_37.below hB_38
      have PO_38 := PO_37.below hB_38
      have RL_38 := RL_37.below hB_38
      have RM_38 := RM_37.below hB_38
      have RN_38 := RN_37.below hB_38
      have RO_38 := RO_37.below hB_38
      have Q1_38 := Q1_37.below hB_38
      have Q2_38 := Q2_37.below hB_38
      have Q3_38 := Q3_37.below hB_38
      have Q4_38 := Q4_37.below hB_38
      have V1_38 := V1_37.below hB_38
      have V2_38 := V2_37.below hB_38
      have V3_38 := V3_37.below hB_38
      have V4_38 := V4_37.below hB_38
      have hbM_38 := hbM_37.next hB_38
      have RG_38 := RG_37.below hB_38
      have RW_38 := RW_37.below hB_38
      have hbel_38 := hbel_37.next hB_38
      have hsz_38 := hB_38.size
      clear X_37 Y_37 cY_37_0 fY_37_0 cY_37_1 fY_37_1 cY_37_2 fY_37_2 cY_37_3 fY_37_3 cY_37_4 fY_37_4 cY_37_5 fY_37_5 P_37 R_37 cR_37_0 cR_37_1 cR_37_2 cR_37_3 cR_37_4 cR_37_5 C_37 D_37 E_37 S_37 J_37 U_37 W_37 Z_37 N_37 GOT_37 WANT_37 A1_37 B1_37 A2_37 B2_37 A3_37 B3_37 A4_37 B4_37 PL_37 PM_37 PN_37 PO_37 RL_37 RM_37 RN_37 RO_37 Q1_37 Q2_37 Q3_37 Q4_37 V1_37 V2_37 V3_37 V4_37 hbM_37 RG_37 RW_37 hbel_37 hB_38
      try clear hB
      have cR_38_0 : _ = some (Value.bool s3) := R_38.cell 0
      have cR_38_1 : _ = some (Value.slice ra p3 rc) := R_38.cell 1
      have cR_38_2 : _ = some (Value.slice rb q3 rd) := R_38.cell 2
      have cR_38_3 : _ = some (Value.bool s4) := R_38.cell 3
      have cR_38_4 : _ = some (Value.slice re p4 rf) := R_38.cell 4
      have cR_38_5 : _ = some (Value.slice rg q4 rh) := R_38.cell 5
      have cY_38_0 : _ = some (Value.bool s3) := Y_38.cell 0
      have fY_38_0 := Y_38.free 0
      have cY_38_1 : _ = some (Value.slice a3 p3 c3) := Y_38.cell 1
      have fY_38_1 := Y_38.free 1
      have cY_38_2 : _ = some (Value.slice b3 q3 d3) := Y_38.cell 2
      have fY_38_2 := Y_38.free 2
      have cY_38_3 : _ = some (Value.bool s4) := Y_38.cell 3
      have fY_38_3 := Y_38.free 3
      have cY_38_4 : _ = some (Value.slice a4 p4 c4) := Y_38.cell 4
      have fY_38_4 := Y_38.free 4
      have cY_38_5 : _ = some (Value.slice b4 q4 d4) := Y_38.cell 5
      have fY_38_5 := Y_38.free 5
      go_wp2_with fail
      refine (fkept RN_38 RO_38 A4_38 B4_38).mono ?_
      rintro e w39 ⟨rfl, hB⟩
      have hBT : Below w38.heap.size w38 w39 := (bl.next hB)
      have T_39 := hid (T_38.out.below hBT)
      have hbT_39 := hbT_38.next hBT
      clear T_38 hbT_38 hBT
      have hB_39 : Below w38.heap.size w38 w39 := (bl.next hB)
      have X_39 := X_38.next hB_39
      have Y_39 := Y_38.next hB_39
      have P_39 := P_38.next hB_39
      have R_39 := R_38.next hB_39
      have C_39 := C_38.next hB_39
      have D_39 := D_38.next hB_39
      have E_39 := E_38.next hB_39
      have S_39 := S_38.next hB_39
      have J_39 := J_38.next hB_39
      have U_39 := U_38.next hB_39
      have W_39 := W_38.next hB_39
      have Z_39 := Z_38.next hB_39
      have N_39 := N_38.next hB_39
      have GOT_39 := GOT_38.next hB_39
      have WANT_39 := WANT_38.next hB_39
      have A1_39 := A1_38.below hB_39
      have B1_39 := B1_38.below hB_39
      have A2_39 := A2_38.below hB_39
      have B2_39 := B2_38.below hB_39
      have A3_39 := A3_38.below hB_39
      have B3_39 := B3_38.below hB_39
      have A4_39 := A4_38.below hB_39
      have B4_39 := B4_38.below hB_39
      have PL_39 := PL_38.below hB_39
      have PM_39 := PM_38.below hB_39
      have PN_39 := PN_38.below hB_39
      have PO_39 := PO_38.below hB_39
      have RL_39 := RL_38.below hB_39
      have RM_39 := RM_38.below hB_39
      have RN_39 := RN_38.below hB_39
      have RO_39 := RO_38.below hB_39
      have Q1_39 := Q1_38.below hB_39
      have Q2_39 := Q2_38.below hB_39
      have Q3_39 := Q3_38.below hB_39
      have Q4_39 := Q4_38.below hB_39
      have V1_39 := V1_38.below hB_39
      have V2_39 := V2_38.below hB_39
      have V3_39 := V3_38.below hB_39
      have V4_39 := V4_38.below hB_39
      have hbM_39 := hbM_38.next hB_39
      have RG_39 := RG_38.below hB_39
      have RW_39 := RW_38.below hB_39
      have hbel_39 := hbel_38.next hB_39
      have hsz_39 := hB_39.size
      clear X_38 Y_38 cY_38_0 fY_38_0 cY_38_1 fY_38_1 cY_38_2 fY_38_2 cY_38_3 fY_38_3 cY_38_4 fY_38_4 cY_38_5 fY_38_5 P_38 R_38 cR_38_0 cR_38_1 cR_38_2 cR_38_3 cR_38_4 cR_38_5 C_38 D_38 E_38 S_38 J_38 U_38 W_38 Z_38 N_38 GOT_38 WANT_38 A1_38 B1_38 A2_38 B2_38 A3_38 B3_38 A4_38 B4_38 PL_38 PM_38 PN_38 PO_38 RL_38 RM_38 RN_38 RO_38 Q1_38 Q2_38 Q3_38 Q4_38 V1_38 V2_38 V3_38 V4_38 hbM_38 RG_38 RW_38 hbel_38 hB_39
      try clear hB
      go_wp2_with fail
      refine (samelist RG_39 RW_39 hQS.out (by omega)).mono ?_
      rintro e w40 ⟨rfl, hB⟩
      have hBT : Below w39.heap.size w39 w40 := (bl.next hB)
      have T_40 := hid (T_39.out.below hBT)
      have hbT_40 := hbT_39.next hBT
      clear T_39 hbT_39 hBT
      have hB_40 : Below w39.heap.size w39 w40 := (bl.next hB)
      have X_40 := X_39.next hB_40
      have Y_40 := Y_39.next hB_40
      have P_40 := P_39.next hB_40
      have R_40 := R_39.next hB_40
      have C_40 := C_39.next hB_40
      have D_40 := D_39.next hB_40
      have E_40 := E_39.next hB_40
      have S_40 := S_39.next hB_40
      have J_40 := J_39.next hB_40
      have U_40 := U_39.next hB_40
      have W_40 := W_39.next hB_40
      have Z_40 := Z_39.next hB_40
      have N_40 := N_39.next hB_40
      have GOT_40 := GOT_39.next hB_40
      have WANT_40 := WANT_39.next hB_40
      have A1_40 := A1_39.below hB_40
      have B1_40 := B1_39.below hB_40
      have A2_40 := A2_39.below hB_40
      have B2_40 := B2_39.below hB_40
      have A3_40 := A3_39.below hB_40
      have B3_40 := B3_39.below hB_40
      have A4_40 := A4_39.below hB_40
      have B4_40 := B4_39.below hB_40
      have PL_40 := PL_39.below hB_40
      have PM_40 := PM_39.below hB_40
      have PN_40 := PN_39.below hB_40
      have PO_40 := PO_39.below hB_40
      have RL_40 := RL_39.below hB_40
      have RM_40 := RM_39.below hB_40
      have RN_40 := RN_39.below hB_40
      have RO_40 := RO_39.below hB_40
      have Q1_40 := Q1_39.below hB_40
      have Q2_40 := Q2_39.below hB_40
      have Q3_40 := Q3_39.below hB_40
      have Q4_40 := Q4_39.below hB_40
      have V1_40 := V1_39.below hB_40
      have V2_40 := V2_39.below hB_40
      have V3_40 := V3_39.below hB_40
      have V4_40 := V4_39.below hB_40
      have hbM_40 := hbM_39.next hB_40
      have RG_40 := RG_39.below hB_40
      have RW_40 := RW_39.below hB_40
      have hbel_40 := hbel_39.next hB_40
      have hsz_40 := hB_40.size
      clear X_39 Y_39 P_39 R_39 C_39 D_39 E_39 S_39 J_39 U_39 W_39 Z_39 N_39 GOT_39 WANT_39 A1_39 B1_39 A2_39 B2_39 A3_39 B3_39 A4_39 B4_39 PL_39 PM_39 PN_39 PO_39 RL_39 RM_39 RN_39 RO_39 Q1_39 Q2_39 Q3_39 Q4_39 V1_39 V2_39 V3_39 V4_39 hbM_39 RG_39 RW_39 hbel_39 hB_40
      try clear hB
      clear hQS
      obtain ⟨TL, hTL⟩ : ∃ l : List It, l = [⟨og, ok, oh, lm o5.den⟩, ⟨oe, oj, of, lm o5.num.natAbs⟩, ⟨ob, om, od, lm o6.den⟩, ⟨oa, on, oc, lm o6.num.natAbs⟩, ⟨zg, zk, zh, lm o5.den⟩, ⟨ze, zj, zf, lm o5.num.natAbs⟩, ⟨zb, zm, zd, lm o5.den⟩, ⟨za, zn, zc, lm o5.num.natAbs⟩, ⟨tg, tk, th, lm o4.den⟩, ⟨te, tj, tf, lm o4.num.natAbs⟩, ⟨tb, tm, td, lm o3.den⟩, ⟨ta, tn, tc, lm o3.num.natAbs⟩, ⟨sg, sk, sh, lm o2.den⟩, ⟨se, sj, sf, lm o2.num.natAbs⟩, ⟨sb, sm, sd, lm o1.den⟩, ⟨sa, sn, sc, lm o1.num.natAbs⟩] := ⟨_, rfl⟩
      have HT := hid (show Told2 vM.heap.size w40 TL from hTL ▸ T_40.out)
      have hm2 : ∀ i ∈ ([15, 14, 13, 12, 11, 10, 9, 8, 7, 6, 5, 4, 3, 2, 1, 0] : List Nat), i < TL.length := by rw [hTL]; show ∀ i ∈ ([15, 14, 13, 12, 11, 10, 9, 8, 7, 6, 5, 4, 3, 2, 1, 0] : List Nat), i < 16; decide
      have hRG := rgot_told HT.out.1 ([15, 14, 13, 12, 11, 10, 9, 8, 7, 6, 5, 4, 3, 2, 1, 0] : List Nat) (K := 8) rfl (by decide) hm2 (Below.refl _ _) GOT_40 (by
        subst hTL; intro i hi
        rcases (by omega : i = 0 ∨ i = 1 ∨ i = 2 ∨ i = 3 ∨ i = 4 ∨ i = 5 ∨ i = 6 ∨ i = 7) with rfl | rfl | rfl | rfl | rfl | rfl | rfl | rfl
        · exact ⟨rfl, rfl⟩
        · exact ⟨rfl, rfl⟩
        · exact ⟨rfl, rfl⟩
        · exact ⟨rfl, rfl⟩
        · exact ⟨rfl, rfl⟩
        · exact ⟨rfl, rfl⟩
        · exact ⟨rfl, rfl⟩
        · exact ⟨rfl, rfl⟩)
      have HN : ∀ i, i < 2 * 8 → (TL.getD (([15, 14, 13, 12, 11, 10, 9, 8, 7, 6, 5, 4, 3, 2, 1, 0] : List Nat).getD i 0) It.d).n ≤ 268435456 := told_n HT.out ([15, 14, 13, 12, 11, 10, 9, 8, 7, 6, 5, 4, 3, 2, 1, 0] : List Nat) (K := 8) rfl hm2
      have hBK := hid (fun (w' : World) (hk : Kp (fun b => ∃ i, i < 2 * 8 ∧ (TL.getD (([15, 14, 13, 12, 11, 10, 9, 8, 7, 6, 5, 4, 3, 2, 1, 0] : List Nat).getD i 0) It.d).a = some ⟨b, 0, none⟩) w40 w') => below_told hbM_40 HT.out.1 ([15, 14, 13, 12, 11, 10, 9, 8, 7, 6, 5, 4, 3, 2, 1, 0] : List Nat) (K := 8) rfl hm2 hk)
      clear hTL hm2 HT
      go_wp2_with fail
      refine (ownrats_any (c := 8) hRG (by omega) (by omega) (by omega) (by unfold maxLen; omega) HN).mono ?_
      rintro e wo ⟨rfl, hK⟩
      have hM := hBK.out _ hK
      clear hRG hK HN hBK T_40 hbT_40
      have hbM_41 := hM
      have X_41 := mX.out.next hbM_41
      have Y_41 := mY.out.next hbM_41
      have P_41 := mP.out.next hbM_41
      have R_41 := mR.out.next hbM_41
      have C_41 := mC.out.next hbM_41
      have D_41 := mD.out.next hbM_41
      have E_41 := mE.out.next hbM_41
      have A1_41 := mA1.out.below hbM_41
      have B1_41 := mB1.out.below hbM_41
      have A2_41 := mA2.out.below hbM_41
      have B2_41 := mB2.out.below hbM_41
      have A3_41 := mA3.out.below hbM_41
      have B3_41 := mB3.out.below hbM_41
      have A4_41 := mA4.out.below hbM_41
      have B4_41 := mB4.out.below hbM_41
      have PL_41 := mPL.out.below hbM_41
      have PM_41 := mPM.out.below hbM_41
      have PN_41 := mPN.out.below hbM_41
      have PO_41 := mPO.out.below hbM_41
      have RL_41 := mRL.out.below hbM_41
      have RM_41 := mRM.out.below hbM_41
      have RN_41 := mRN.out.below hbM_41
      have RO_41 := mRO.out.below hbM_41
      have Q1_41 := mQ1.out.below hbM_41
      have Q2_41 := mQ2.out.below hbM_41
      have Q3_41 := mQ3.out.below hbM_41
      have Q4_41 := mQ4.out.below hbM_41
      have V1_41 := mV1.out.below hbM_41
      have V2_41 := mV2.out.below hbM_41
      have V3_41 := mV3.out.below hbM_41
      have V4_41 := mV4.out.below hbM_41
      have hbel_41 := mhbel.out.next hbM_41
      have hsz_41 := hbM_41.size
      clear X_40 Y_40 P_40 R_40 C_40 D_40 E_40 S_40 J_40 U_40 W_40 Z_40 N_40 GOT_40 WANT_40 A1_40 B1_40 A2_40 B2_40 A3_40 B3_40 A4_40 B4_40 PL_40 PM_40 PN_40 PO_40 RL_40 RM_40 RN_40 RO_40 Q1_40 Q2_40 Q3_40 Q4_40 V1_40 V2_40 V3_40 V4_40 hbM_40 RG_40 RW_40 hbel_40
      clear hM
      go_wp2
      go_ret
      exact ⟨rfl, hbel_41⟩

end Go.Proofs.YtgddnmmllchndaaGreat
