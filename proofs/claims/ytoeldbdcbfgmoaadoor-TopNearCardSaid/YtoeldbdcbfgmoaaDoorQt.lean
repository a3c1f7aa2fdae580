/- WALKS OF FRACTIONS, 16: Norm; the reference's opposites, differences, products, quotients, comparison. -/
import Derived.Test.YtoeldbdcbfgmoaaDoorQm
namespace Go.Proofs.YtoeldbdcbfgmoaaDoor
set_option linter.unusedVariables false
set_option linter.unusedSimpArgs false
open Go.ChangeShapes Go.WideShapes Go.ChangeAt Go.RowKit Go.NatP

theorem szMulZ {x y : Int} {j k : Nat} (h : Sz x.natAbs j) (h' : Sz y.natAbs k) : Sz (x * y).natAbs (j + k) := by rw [Int.natAbs_mul]; exact h.mul h'

set_option maxRecDepth 100000 in
set_option maxHeartbeats 4000000 in
theorem rqneg {w : World} {a1 b1 : Option Addr} {n1 c1 m1 d1 : Nat} {s : Bool} {x : Rat} {J : Nat} (hx : RdQ J w s a1 n1 c1 b1 m1 d1 x) (hJ : J ≤ 1000000) :
    Calls Tryd.prog 36 #[.agg #[.bool s, .slice a1 n1 c1, .slice b1 m1 d1]] w (RetQ w (-x)) := by
  obtain ⟨u1, v1, h1, hd1, rfl⟩ := hx
  have hz1 := h1.toZ (s := s)
  have sd1 := hid (sz_und (hd1.sz.mono (Nat.le_refl _) (Nat.le_succ J)) (by omega))
  have su1 := hid h1.sz
  have hu1 := hid (und_ne v1)
  unfold qv
  rw [Rat.neg_mkRat]
  have HU1 := hid (fun W (h : RdN J W b1 m1 d1 v1) => rqden (w := W) (s := s) (a := a1) (n := n1) (c := c1) (h.mono (show _ ≤ 4194304 by omega)))
  generalize hD1 : und v1 = e1 at *
  clear hD1
  have sz1 := hid hz1.sz
  clear h1
  generalize zv s u1 = x1 at *
  obtain ⟨y1, hy0⟩ : ∃ y, -x1 = y := ⟨_, rfl⟩
  have hy := hid hy0
  have sy := hid (show Sz y1.natAbs J by rw [← hy0, Int.natAbs_neg]; exact sz1.out)
  rw [hy0]
  clear hy0
  have hent := ent2 w #[Value.bool s, Value.slice a1 n1 c1, Value.slice b1 m1 d1] #[Value.bool false, Value.slice none 0 0, Value.slice none 0 0] 27 27
  go_enter Tryd.func36, Tryd.ntmps36
  go_wp2_with fail
  generalize ((w.alloc (.cells #[Value.bool s, Value.slice a1 n1 c1, Value.slice b1 m1 d1] 27)).alloc (.cells #[Value.bool false, Value.slice none 0 0, Value.slice none 0 0] 27)) = W0 at hent ⊢
  obtain ⟨X_0, R0_0, hbel_0, hsz_0⟩ := hent
  have cX_0_0 : _ = some (Value.bool s) := X_0.cell 0
  have cX_0_1 : _ = some (Value.slice a1 n1 c1) := X_0.cell 1
  have cX_0_2 : _ = some (Value.slice b1 m1 d1) := X_0.cell 2
  have cR0_0_0 : _ = some (Value.bool false) := R0_0.cell 0
  have fR0_0_0 := R0_0.free 0
  have cR0_0_1 : _ = some (Value.slice none 0 0) := R0_0.cell 1
  have fR0_0_1 := R0_0.free 1
  have cR0_0_2 : _ = some (Value.slice none 0 0) := R0_0.cell 2
  have fR0_0_2 := R0_0.free 2
  have hz1_0 := hz1.below hbel_0
  clear hz1
  have hd1_0 := hd1.below hbel_0
  clear hd1
  go_wp2_with fail
  go_region_held3 (fun w' => w'.cell? ⟨w.heap.size, 0, none⟩ = some (Value.bool s) ∧ w'.cell? ⟨w.heap.size, 1, none⟩ = some (Value.slice a1 n1 c1) ∧ w'.cell? ⟨w.heap.size, 2, none⟩ = some (Value.slice b1 m1 d1))
    (first | exact ⟨cX_0_0, cX_0_1, cX_0_2⟩ | exact ⟨cX_1_0, cX_1_1, cX_1_2⟩ | exact ⟨cX_2_0, cX_2_1, cX_2_2⟩ | exact ⟨cX_3_0, cX_3_1, cX_3_2⟩ | exact ⟨(cell_set3 (by omega) _ _ _).trans (cX_3_0), (cell_set3 (by omega) _ _ _).trans (cX_3_1), (cell_set3 (by omega) _ _ _).trans (cX_3_2)⟩ | go_keep)
    (first
      | (go_at_call 60; ((with_reducible refine (rznegR (hz1_0.below bl) (by omega)).mono ?_); (rw [hy.out]; rintro e w1 ⟨na, nn, nc, rfl, hO, hB⟩; have hB_1 : Below W0.heap.size W0 w1 := (bl.next hB); have X_1 := X_0.next hB_1; have cX_1_0 : _ = some (Value.bool s) := X_1.cell 0; have cX_1_1 : _ = some (Value.slice a1 n1 c1) := X_1.cell 1; have cX_1_2 : _ = some (Value.slice b1 m1 d1) := X_1.cell 2; have R0_1 := R0_0.next hB_1; have cR0_1_0 : _ = some (Value.bool false) := R0_1.cell 0; have fR0_1_0 := R0_1.free 0; have cR0_1_1 : _ = some (Value.slice none 0 0) := R0_1.cell 1; have fR0_1_1 := R0_1.free 1; have cR0_1_2 : _ = some (Value.slice none 0 0) := R0_1.cell 2; have fR0_1_2 := R0_1.free 2; have hz1_1 := hz1_0.below hB_1; have hd1_1 := hd1_0.below hB_1; have hbel_1 := hbel_0.next hB_1; have hsz_1 := hB_1.size; clear X_0 cX_0_0 cX_0_1 cX_0_2 R0_0 cR0_0_0 fR0_0_0 cR0_0_1 fR0_0_1 cR0_0_2 fR0_0_2 hz1_0 hd1_0 hbel_0 hB_1; have N_1 := hO.rdZ sy.out; clear hO; try clear hB)))
      | (go_at_call 43; ((with_reducible refine (HU1.out _ (hd1_1.below bl)).mono ?_); (rintro e w2 ⟨va, vn, vc, rfl, hO, hB⟩; have hB_2 : Below w1.heap.size w1 w2 := (bl.next hB); have X_2 := X_1.next hB_2; have cX_2_0 : _ = some (Value.bool s) := X_2.cell 0; have cX_2_1 : _ = some (Value.slice a1 n1 c1) := X_2.cell 1; have cX_2_2 : _ = some (Value.slice b1 m1 d1) := X_2.cell 2; have R0_2 := R0_1.next hB_2; have cR0_2_0 : _ = some (Value.bool false) := R0_2.cell 0; have fR0_2_0 := R0_2.free 0; have cR0_2_1 : _ = some (Value.slice none 0 0) := R0_2.cell 1; have fR0_2_1 := R0_2.free 1; have cR0_2_2 : _ = some (Value.slice none 0 0) := R0_2.cell 2; have fR0_2_2 := R0_2.free 2; have hz1_2 := hz1_1.below hB_2; have hd1_2 := hd1_1.below hB_2; have N_2 := N_1.below hB_2; have hbel_2 := hbel_1.next hB_2; have hsz_2 := hB_2.size; clear X_1 cX_1_0 cX_1_1 cX_1_2 R0_1 cR0_1_0 fR0_1_0 cR0_1_1 fR0_1_1 cR0_1_2 fR0_1_2 hz1_1 hd1_1 N_1 hbel_1 hB_2; have V_2 := hO.rdN sd1.out; clear hO; try clear hB)))
      | (go_at_call 59; ((with_reducible refine (rqlow ((N_2.below bl).mono (by omega)) ((V_2.below bl).mono (by omega)) hu1.out).mono ?_); (rintro e w3 ⟨qa, qn, qc, da, dn, dc, rfl, hO, hO', hD, hB⟩; have hB_3 : Below w2.heap.size w2 w3 := (bl.next hB); have X_3 := X_2.next hB_3; have cX_3_0 : _ = some (Value.bool s) := X_3.cell 0; have cX_3_1 : _ = some (Value.slice a1 n1 c1) := X_3.cell 1; have cX_3_2 : _ = some (Value.slice b1 m1 d1) := X_3.cell 2; have R0_3 := R0_2.next hB_3; have cR0_3_0 : _ = some (Value.bool false) := R0_3.cell 0; have fR0_3_0 := R0_3.free 0; have cR0_3_1 : _ = some (Value.slice none 0 0) := R0_3.cell 1; have fR0_3_1 := R0_3.free 1; have cR0_3_2 : _ = some (Value.slice none 0 0) := R0_3.cell 2; have fR0_3_2 := R0_3.free 2; have hz1_3 := hz1_2.below hB_3; have hd1_3 := hd1_2.below hB_3; have N_3 := N_2.below hB_3; have V_3 := V_2.below hB_3; have hbel_3 := hbel_2.next hB_3; have hsz_3 := hB_3.size; clear X_2 cX_2_0 cX_2_1 cX_2_2 R0_2 cR0_2_0 fR0_2_0 cR0_2_1 fR0_2_1 cR0_2_2 fR0_2_2 hz1_2 hd1_2 N_2 V_2 hbel_2 hB_3; have OQ_3 := hO; have ltOQ := hO.ltB; have OD_3 := hO'; have ltOD := hO'.ltB; clear hO hO'; try clear hB))))
  go_wp2
  refine bodyPost_ret (v := .agg #[.bool (decide ((mkRat y1 e1).num < 0)), .slice qa qn qc, .slice da dn dc]) (by simp [results, Tryd.results36, go_sem, cR0_3_0, cR0_3_1, cR0_3_2]) rfl ?_
  exact retq_set OQ_3 OD_3 hD hbel_3 (by omega) (by omega)

set_option maxRecDepth 100000 in
set_option maxHeartbeats 4000000 in
theorem rqsub {w : World} {a1 b1 : Option Addr} {n1 c1 m1 d1 : Nat} {s : Bool} {x : Rat} {a2 b2 : Option Addr} {n2 c2 m2 d2 : Nat} {t : Bool} {y : Rat} {J K : Nat} (hx : RdQ J w s a1 n1 c1 b1 m1 d1 x) (hJ : J ≤ 900000) (hy : RdQ K w t a2 n2 c2 b2 m2 d2 y) (hK : K ≤ 900000) :
    Calls Tryd.prog 35 #[.agg #[.bool s, .slice a1 n1 c1, .slice b1 m1 d1], .agg #[.bool t, .slice a2 n2 c2, .slice b2 m2 d2]] w (RetQ w (x - y)) := by
  obtain ⟨z, hz0⟩ : ∃ z, -y = z := ⟨_, rfl⟩
  have hz := hid hz0
  have hqz := hid (show QS z (K + 1) by rw [← hz0]; exact ((hy.mono (Nat.le_succ K)).qs (by omega)).neg)
  rw [Rat.sub_eq_add_neg, hz0]
  clear hz0
  have hent := ent3 w #[Value.bool s, Value.slice a1 n1 c1, Value.slice b1 m1 d1] #[Value.bool t, Value.slice a2 n2 c2, Value.slice b2 m2 d2] #[Value.bool false, Value.slice none 0 0, Value.slice none 0 0] 27 27 27
  go_enter Tryd.func35, Tryd.ntmps35
  go_wp2_with fail
  generalize (((w.alloc (.cells #[Value.bool s, Value.slice a1 n1 c1, Value.slice b1 m1 d1] 27)).alloc (.cells #[Value.bool t, Value.slice a2 n2 c2, Value.slice b2 m2 d2] 27)).alloc (.cells #[Value.bool false, Value.slice none 0 0, Value.slice none 0 0] 27)) = W0 at hent ⊢
  obtain ⟨X_0, Y_0, R0_0, hbel_0, hsz_0⟩ := hent
  have cX_0_0 : _ = some (Value.bool s) := X_0.cell 0
  have cX_0_1 : _ = some (Value.slice a1 n1 c1) := X_0.cell 1
  have cX_0_2 : _ = some (Value.slice b1 m1 d1) := X_0.cell 2
  have cY_0_0 : _ = some (Value.bool t) := Y_0.cell 0
  have cY_0_1 : _ = some (Value.slice a2 n2 c2) := Y_0.cell 1
  have cY_0_2 : _ = some (Value.slice b2 m2 d2) := Y_0.cell 2
  have cR0_0_0 : _ = some (Value.bool false) := R0_0.cell 0
  have fR0_0_0 := R0_0.free 0
  have cR0_0_1 : _ = some (Value.slice none 0 0) := R0_0.cell 1
  have fR0_0_1 := R0_0.free 1
  have cR0_0_2 : _ = some (Value.slice none 0 0) := R0_0.cell 2
  have fR0_0_2 := R0_0.free 2
  have hx_0 := hx.below hbel_0
  clear hx
  have hy_0 := hy.below hbel_0
  clear hy
  go_wp2_with fail
  go_region_held3 (fun w' => w'.cell? ⟨w.heap.size, 0, none⟩ = some (Value.bool s) ∧ w'.cell? ⟨w.heap.size, 1, none⟩ = some (Value.slice a1 n1 c1) ∧ w'.cell? ⟨w.heap.size, 2, none⟩ = some (Value.slice b1 m1 d1) ∧ w'.cell? ⟨w.heap.size + 1, 0, none⟩ = some (Value.bool t) ∧ w'.cell? ⟨w.heap.size + 1, 1, none⟩ = some (Value.slice a2 n2 c2) ∧ w'.cell? ⟨w.heap.size + 1, 2, none⟩ = some (Value.slice b2 m2 d2))
    (first | exact ⟨cX_0_0, cX_0_1, cX_0_2, cY_0_0, cY_0_1, cY_0_2⟩ | exact ⟨cX_1_0, cX_1_1, cX_1_2, cY_1_0, cY_1_1, cY_1_2⟩ | exact ⟨cX_2_0, cX_2_1, cX_2_2, cY_2_0, cY_2_1, cY_2_2⟩ | exact ⟨(cell_set3 (by omega) _ _ _).trans (cX_2_0), (cell_set3 (by omega) _ _ _).trans (cX_2_1), (cell_set3 (by omega) _ _ _).trans (cX_2_2), (cell_set3 (by omega) _ _ _).trans (cY_2_0), (cell_set3 (by omega) _ _ _).trans (cY_2_1), (cell_set3 (by omega) _ _ _).trans (cY_2_2)⟩ | go_keep)
    (first
      | (go_at_call 36; ((with_reducible refine (rqneg (hy_0.below bl) (by omega)).mono ?_); (rw [hz.out]; rintro e w1 ⟨na, nn, nc, ma, mn, mc, rfl, hO, hO', hD, hB⟩; have hB_1 : Below W0.heap.size W0 w1 := (bl.next hB); have X_1 := X_0.next hB_1; have cX_1_0 : _ = some (Value.bool s) := X_1.cell 0; have cX_1_1 : _ = some (Value.slice a1 n1 c1) := X_1.cell 1; have cX_1_2 : _ = some (Value.slice b1 m1 d1) := X_1.cell 2; have Y_1 := Y_0.next hB_1; have cY_1_0 : _ = some (Value.bool t) := Y_1.cell 0; have cY_1_1 : _ = some (Value.slice a2 n2 c2) := Y_1.cell 1; have cY_1_2 : _ = some (Value.slice b2 m2 d2) := Y_1.cell 2; have R0_1 := R0_0.next hB_1; have cR0_1_0 : _ = some (Value.bool false) := R0_1.cell 0; have fR0_1_0 := R0_1.free 0; have cR0_1_1 : _ = some (Value.slice none 0 0) := R0_1.cell 1; have fR0_1_1 := R0_1.free 1; have cR0_1_2 : _ = some (Value.slice none 0 0) := R0_1.cell 2; have fR0_1_2 := R0_1.free 2; have hx_1 := hx_0.below hB_1; have hy_1 := hy_0.below hB_1; have hbel_1 := hbel_0.next hB_1; have hsz_1 := hB_1.size; clear X_0 cX_0_0 cX_0_1 cX_0_2 Y_0 cY_0_0 cY_0_1 cY_0_2 R0_0 cR0_0_0 fR0_0_0 cR0_0_1 fR0_0_1 cR0_0_2 fR0_0_2 hx_0 hy_0 hbel_0 hB_1; have Z_1 := hO.rdQ hO' hqz.out; clear hO hO' hD; try clear hB)))
      | (go_at_call 58; ((with_reducible refine (rqadd (hx_1.below bl) (by omega) (Z_1.below bl) (by omega)).mono ?_); (rintro e w2 ⟨qa, qn, qc, da, dn, dc, rfl, hO, hO', hD, hB⟩; have hB_2 : Below w1.heap.size w1 w2 := (bl.next hB); have X_2 := X_1.next hB_2; have cX_2_0 : _ = some (Value.bool s) := X_2.cell 0; have cX_2_1 : _ = some (Value.slice a1 n1 c1) := X_2.cell 1; have cX_2_2 : _ = some (Value.slice b1 m1 d1) := X_2.cell 2; have Y_2 := Y_1.next hB_2; have cY_2_0 : _ = some (Value.bool t) := Y_2.cell 0; have cY_2_1 : _ = some (Value.slice a2 n2 c2) := Y_2.cell 1; have cY_2_2 : _ = some (Value.slice b2 m2 d2) := Y_2.cell 2; have R0_2 := R0_1.next hB_2; have cR0_2_0 : _ = some (Value.bool false) := R0_2.cell 0; have fR0_2_0 := R0_2.free 0; have cR0_2_1 : _ = some (Value.slice none 0 0) := R0_2.cell 1; have fR0_2_1 := R0_2.free 1; have cR0_2_2 : _ = some (Value.slice none 0 0) := R0_2.cell 2; have fR0_2_2 := R0_2.free 2; have hx_2 := hx_1.below hB_2; have hy_2 := hy_1.below hB_2; have Z_2 := Z_1.below hB_2; have hbel_2 := hbel_1.next hB_2; have hsz_2 := hB_2.size; clear X_1 cX_1_0 cX_1_1 cX_1_2 Y_1 cY_1_0 cY_1_1 cY_1_2 R0_1 cR0_1_0 fR0_1_0 cR0_1_1 fR0_1_1 cR0_1_2 fR0_1_2 hx_1 hy_1 Z_1 hbel_1 hB_2; have OQ_2 := hO; have ltOQ := hO.ltB; have OD_2 := hO'; have ltOD := hO'.ltB; clear hO hO'; try clear hB))))
  go_wp2
  refine bodyPost_ret (v := .agg #[.bool (decide ((x + z).num < 0)), .slice qa qn qc, .slice da dn dc]) (by simp [results, Tryd.results35, go_sem, cR0_2_0, cR0_2_1, cR0_2_2]) rfl ?_
  exact retq_set OQ_2 OD_2 hD hbel_2 (by omega) (by omega)

set_option maxRecDepth 100000 in
set_option maxHeartbeats 4000000 in
theorem rqcmp {w : World} {a1 b1 : Option Addr} {n1 c1 m1 d1 : Nat} {s : Bool} {x : Rat} {a2 b2 : Option Addr} {n2 c2 m2 d2 : Nat} {t : Bool} {y : Rat} {J K : Nat} (hx : RdQ J w s a1 n1 c1 b1 m1 d1 x) (hJ : J ≤ 1000000) (hy : RdQ K w t a2 n2 c2 b2 m2 d2 y) (hK : K ≤ 1000000) :
    Calls Tryd.prog 14 #[.agg #[.bool s, .slice a1 n1 c1, .slice b1 m1 d1], .agg #[.bool t, .slice a2 n2 c2, .slice b2 m2 d2]] w (RetIb w (cmpQ x y)) := by
  obtain ⟨u1, v1, h1, hd1, rfl⟩ := hx
  obtain ⟨u2, v2, h2, hd2, rfl⟩ := hy
  have hz1 := h1.toZ (s := s)
  have hz2 := h2.toZ (s := t)
  have sd1 := hid (sz_und (hd1.sz.mono (Nat.le_refl _) (Nat.le_succ J)) (by omega))
  have sd2 := hid (sz_und (hd2.sz.mono (Nat.le_refl _) (Nat.le_succ K)) (by omega))
  have sz1 := hid hz1.sz
  have sz2 := hid hz2.sz
  have su1 := hid h1.sz
  have su2 := hid h2.sz
  have hu1 := hid (und_ne v1)
  have hu2 := hid (und_ne v2)
  unfold qv
  rw [← cmpQ_mk hu1.out hu2.out]
  have HU1 := hid (fun W (h : RdN J W b1 m1 d1 v1) => rqden (w := W) (s := s) (a := a1) (n := n1) (c := c1) (h.mono (show _ ≤ 4194304 by omega)))
  generalize hD1 : und v1 = e1 at *
  clear hD1
  have HU2 := hid (fun W (h : RdN K W b2 m2 d2 v2) => rqden (w := W) (s := t) (a := a2) (n := n2) (c := c2) (h.mono (show _ ≤ 4194304 by omega)))
  generalize hD2 : und v2 = e2 at *
  clear hD2
  have s12 := hid (szMulN sz1.out sd2.out)
  have s21 := hid (szMulN sz2.out sd1.out)
  clear h1 h2
  generalize zv s u1 = x1 at *
  generalize zv t u2 = x2 at *
  have hent := ent2 w #[Value.bool s, Value.slice a1 n1 c1, Value.slice b1 m1 d1] #[Value.bool t, Value.slice a2 n2 c2, Value.slice b2 m2 d2] 27 27
  go_enter Tryd.func14, Tryd.ntmps14
  go_wp2_with fail
  generalize ((w.alloc (.cells #[Value.bool s, Value.slice a1 n1 c1, Value.slice b1 m1 d1] 27)).alloc (.cells #[Value.bool t, Value.slice a2 n2 c2, Value.slice b2 m2 d2] 27)) = W0 at hent ⊢
  obtain ⟨X_0, Y_0, hbel_0, hsz_0⟩ := hent
  have cX_0_0 : _ = some (Value.bool s) := X_0.cell 0
  have cX_0_1 : _ = some (Value.slice a1 n1 c1) := X_0.cell 1
  have cX_0_2 : _ = some (Value.slice b1 m1 d1) := X_0.cell 2
  have cY_0_0 : _ = some (Value.bool t) := Y_0.cell 0
  have cY_0_1 : _ = some (Value.slice a2 n2 c2) := Y_0.cell 1
  have cY_0_2 : _ = some (Value.slice b2 m2 d2) := Y_0.cell 2
  have hz1_0 := hz1.below hbel_0
  clear hz1
  have hz2_0 := hz2.below hbel_0
  clear hz2
  have hd1_0 := hd1.below hbel_0
  clear hd1
  have hd2_0 := hd2.below hbel_0
  clear hd2
  go_wp2_with fail
  go_region_held3 (fun w' => w'.cell? ⟨w.heap.size, 0, none⟩ = some (Value.bool s) ∧ w'.cell? ⟨w.heap.size, 1, none⟩ = some (Value.slice a1 n1 c1) ∧ w'.cell? ⟨w.heap.size, 2, none⟩ = some (Value.slice b1 m1 d1) ∧ w'.cell? ⟨w.heap.size + 1, 0, none⟩ = some (Value.bool t) ∧ w'.cell? ⟨w.heap.size + 1, 1, none⟩ = some (Value.slice a2 n2 c2) ∧ w'.cell? ⟨w.heap.size + 1, 2, none⟩ = some (Value.slice b2 m2 d2))
    (first | exact ⟨cX_0_0, cX_0_1, cX_0_2, cY_0_0, cY_0_1, cY_0_2⟩ | exact ⟨cX_1_0, cX_1_1, cX_1_2, cY_1_0, cY_1_1, cY_1_2⟩ | exact ⟨cX_2_0, cX_2_1, cX_2_2, cY_2_0, cY_2_1, cY_2_2⟩ | exact ⟨cX_3_0, cX_3_1, cX_3_2, cY_3_0, cY_3_1, cY_3_2⟩ | exact ⟨cX_4_0, cX_4_1, cX_4_2, cY_4_0, cY_4_1, cY_4_2⟩ | exact ⟨cX_5_0, cX_5_1, cX_5_2, cY_5_0, cY_5_1, cY_5_2⟩ | exact ⟨cX_6_0, cX_6_1, cX_6_2, cY_6_0, cY_6_1, cY_6_2⟩ | exact ⟨cX_7_0, cX_7_1, cX_7_2, cY_7_0, cY_7_1, cY_7_2⟩ | go_keep)
    (first
      | (go_at_call 43; ((with_reducible refine (HU2.out _ (hd2_0.below bl)).mono ?_); (rintro e w1 ⟨ua, un, uc, rfl, hO, hB⟩; have hB_1 : Below W0.heap.size W0 w1 := (bl.next hB); have X_1 := X_0.next hB_1; have cX_1_0 : _ = some (Value.bool s) := X_1.cell 0; have cX_1_1 : _ = some (Value.slice a1 n1 c1) := X_1.cell 1; have cX_1_2 : _ = some (Value.slice b1 m1 d1) := X_1.cell 2; have Y_1 := Y_0.next hB_1; have cY_1_0 : _ = some (Value.bool t) := Y_1.cell 0; have cY_1_1 : _ = some (Value.slice a2 n2 c2) := Y_1.cell 1; have cY_1_2 : _ = some (Value.slice b2 m2 d2) := Y_1.cell 2; have hz1_1 := hz1_0.below hB_1; have hz2_1 := hz2_0.below hB_1; have hd1_1 := hd1_0.below hB_1; have hd2_1 := hd2_0.below hB_1; have hbel_1 := hbel_0.next hB_1; have hsz_1 := hB_1.size; clear X_0 cX_0_0 cX_0_1 cX_0_2 Y_0 cY_0_0 cY_0_1 cY_0_2 hz1_0 hz2_0 hd1_0 hd2_0 hbel_0 hB_1; have U_1 := hO.rdN sd2.out; clear hO; try clear hB)))
      | (go_at_call 42; ((with_reducible refine (rwhole_any).mono ?_); (rintro e w2 ⟨rfl, hB⟩; have hB_2 : Below w1.heap.size w1 w2 := (bl.next hB); have X_2 := X_1.next hB_2; have cX_2_0 : _ = some (Value.bool s) := X_2.cell 0; have cX_2_1 : _ = some (Value.slice a1 n1 c1) := X_2.cell 1; have cX_2_2 : _ = some (Value.slice b1 m1 d1) := X_2.cell 2; have Y_2 := Y_1.next hB_2; have cY_2_0 : _ = some (Value.bool t) := Y_2.cell 0; have cY_2_1 : _ = some (Value.slice a2 n2 c2) := Y_2.cell 1; have cY_2_2 : _ = some (Value.slice b2 m2 d2) := Y_2.cell 2; have hz1_2 := hz1_1.below hB_2; have hz2_2 := hz2_1.below hB_2; have hd1_2 := hd1_1.below hB_2; have hd2_2 := hd2_1.below hB_2; have U_2 := U_1.below hB_2; have hbel_2 := hbel_1.next hB_2; have hsz_2 := hB_2.size; clear X_1 cX_1_0 cX_1_1 cX_1_2 Y_1 cY_1_0 cY_1_1 cY_1_2 hz1_1 hz2_1 hd1_1 hd2_1 U_1 hbel_1 hB_2; try clear hB)))
      | (go_at_call 41; ((with_reducible refine (rzmulR (hz1_2.below bl) (U_2.below bl).toI (by omega) (by omega)).mono ?_); (rintro e w3 ⟨pa, pn, pc, rfl, hO, hB⟩; have hB_3 : Below w2.heap.size w2 w3 := (bl.next hB); have X_3 := X_2.next hB_3; have cX_3_0 : _ = some (Value.bool s) := X_3.cell 0; have cX_3_1 : _ = some (Value.slice a1 n1 c1) := X_3.cell 1; have cX_3_2 : _ = some (Value.slice b1 m1 d1) := X_3.cell 2; have Y_3 := Y_2.next hB_3; have cY_3_0 : _ = some (Value.bool t) := Y_3.cell 0; have cY_3_1 : _ = some (Value.slice a2 n2 c2) := Y_3.cell 1; have cY_3_2 : _ = some (Value.slice b2 m2 d2) := Y_3.cell 2; have hz1_3 := hz1_2.below hB_3; have hz2_3 := hz2_2.below hB_3; have hd1_3 := hd1_2.below hB_3; have hd2_3 := hd2_2.below hB_3; have U_3 := U_2.below hB_3; have hbel_3 := hbel_2.next hB_3; have hsz_3 := hB_3.size; clear X_2 cX_2_0 cX_2_1 cX_2_2 Y_2 cY_2_0 cY_2_1 cY_2_2 hz1_2 hz2_2 hd1_2 hd2_2 U_2 hbel_2 hB_3; have P_3 := hO.rdZ s12.out; clear hO; try clear hB)))
      | (go_at_call 43; ((with_reducible refine (HU1.out _ (hd1_3.below bl)).mono ?_); (rintro e w4 ⟨va, vn, vc, rfl, hO, hB⟩; have hB_4 : Below w3.heap.size w3 w4 := (bl.next hB); have X_4 := X_3.next hB_4; have cX_4_0 : _ = some (Value.bool s) := X_4.cell 0; have cX_4_1 : _ = some (Value.slice a1 n1 c1) := X_4.cell 1; have cX_4_2 : _ = some (Value.slice b1 m1 d1) := X_4.cell 2; have Y_4 := Y_3.next hB_4; have cY_4_0 : _ = some (Value.bool t) := Y_4.cell 0; have cY_4_1 : _ = some (Value.slice a2 n2 c2) := Y_4.cell 1; have cY_4_2 : _ = some (Value.slice b2 m2 d2) := Y_4.cell 2; have hz1_4 := hz1_3.below hB_4; have hz2_4 := hz2_3.below hB_4; have hd1_4 := hd1_3.below hB_4; have hd2_4 := hd2_3.below hB_4; have U_4 := U_3.below hB_4; have P_4 := P_3.below hB_4; have hbel_4 := hbel_3.next hB_4; have hsz_4 := hB_4.size; clear X_3 cX_3_0 cX_3_1 cX_3_2 Y_3 cY_3_0 cY_3_1 cY_3_2 hz1_3 hz2_3 hd1_3 hd2_3 U_3 P_3 hbel_3 hB_4; have V_4 := hO.rdN sd1.out; clear hO; try clear hB)))
      | (go_at_call 42; ((with_reducible refine (rwhole_any).mono ?_); (rintro e w5 ⟨rfl, hB⟩; have hB_5 : Below w4.heap.size w4 w5 := (bl.next hB); have X_5 := X_4.next hB_5; have cX_5_0 : _ = some (Value.bool s) := X_5.cell 0; have cX_5_1 : _ = some (Value.slice a1 n1 c1) := X_5.cell 1; have cX_5_2 : _ = some (Value.slice b1 m1 d1) := X_5.cell 2; have Y_5 := Y_4.next hB_5; have cY_5_0 : _ = some (Value.bool t) := Y_5.cell 0; have cY_5_1 : _ = some (Value.slice a2 n2 c2) := Y_5.cell 1; have cY_5_2 : _ = some (Value.slice b2 m2 d2) := Y_5.cell 2; have hz1_5 := hz1_4.below hB_5; have hz2_5 := hz2_4.below hB_5; have hd1_5 := hd1_4.below hB_5; have hd2_5 := hd2_4.below hB_5; have U_5 := U_4.below hB_5; have P_5 := P_4.below hB_5; have V_5 := V_4.below hB_5; have hbel_5 := hbel_4.next hB_5; have hsz_5 := hB_5.size; clear X_4 cX_4_0 cX_4_1 cX_4_2 Y_4 cY_4_0 cY_4_1 cY_4_2 hz1_4 hz2_4 hd1_4 hd2_4 U_4 P_4 V_4 hbel_4 hB_5; try clear hB)))
      | (go_at_call 41; ((with_reducible refine (rzmulR (hz2_5.below bl) (V_5.below bl).toI (by omega) (by omega)).mono ?_); (rintro e w6 ⟨qa, qn, qc, rfl, hO, hB⟩; have hB_6 : Below w5.heap.size w5 w6 := (bl.next hB); have X_6 := X_5.next hB_6; have cX_6_0 : _ = some (Value.bool s) := X_6.cell 0; have cX_6_1 : _ = some (Value.slice a1 n1 c1) := X_6.cell 1; have cX_6_2 : _ = some (Value.slice b1 m1 d1) := X_6.cell 2; have Y_6 := Y_5.next hB_6; have cY_6_0 : _ = some (Value.bool t) := Y_6.cell 0; have cY_6_1 : _ = some (Value.slice a2 n2 c2) := Y_6.cell 1; have cY_6_2 : _ = some (Value.slice b2 m2 d2) := Y_6.cell 2; have hz1_6 := hz1_5.below hB_6; have hz2_6 := hz2_5.below hB_6; have hd1_6 := hd1_5.below hB_6; have hd2_6 := hd2_5.below hB_6; have U_6 := U_5.below hB_6; have P_6 := P_5.below hB_6; have V_6 := V_5.below hB_6; have hbel_6 := hbel_5.next hB_6; have hsz_6 := hB_6.size; clear X_5 cX_5_0 cX_5_1 cX_5_2 Y_5 cY_5_0 cY_5_1 cY_5_2 hz1_5 hz2_5 hd1_5 hd2_5 U_5 P_5 V_5 hbel_5 hB_6; have Q_6 := hO.rdZ s21.out; clear hO; try clear hB)))
      | (go_at_call 40; ((with_reducible refine (rzcmpR (P_6.below bl) (Q_6.below bl) (by omega) (by omega)).mono ?_); (rintro e w7 ⟨rfl, hB⟩; have hB_7 : Below w6.heap.size w6 w7 := (bl.next hB); have X_7 := X_6.next hB_7; have cX_7_0 : _ = some (Value.bool s) := X_7.cell 0; have cX_7_1 : _ = some (Value.slice a1 n1 c1) := X_7.cell 1; have cX_7_2 : _ = some (Value.slice b1 m1 d1) := X_7.cell 2; have Y_7 := Y_6.next hB_7; have cY_7_0 : _ = some (Value.bool t) := Y_7.cell 0; have cY_7_1 : _ = some (Value.slice a2 n2 c2) := Y_7.cell 1; have cY_7_2 : _ = some (Value.slice b2 m2 d2) := Y_7.cell 2; have hz1_7 := hz1_6.below hB_7; have hz2_7 := hz2_6.below hB_7; have hd1_7 := hd1_6.below hB_7; have hd2_7 := hd2_6.below hB_7; have U_7 := U_6.below hB_7; have P_7 := P_6.below hB_7; have V_7 := V_6.below hB_7; have Q_7 := Q_6.below hB_7; have hbel_7 := hbel_6.next hB_7; have hsz_7 := hB_7.size; clear X_6 cX_6_0 cX_6_1 cX_6_2 Y_6 cY_6_0 cY_6_1 cY_6_2 hz1_6 hz2_6 hd1_6 hd2_6 U_6 P_6 V_6 Q_6 hbel_6 hB_7; try clear hB))))
  go_wp2
  go_ret
  exact ⟨rfl, hbel_7⟩

/-- slot s holds a new block with a fraction of the sign t, the size v (the call's own) and the limbs that lie at b -/
def BoxO (w0 : World) (t : Bool) (v : Nat) (b : Option Addr) (m d : Nat) (s : Value) (wx : World) : Prop :=
  ∃ g qa qn qc, s = .pointer (some ⟨g, 0, none⟩) ∧ Blk wx g #[.bool t, .slice qa qn qc, .slice b m d] ∧ w0.heap.size ≤ g ∧ Own w0.heap.size wx qa qn qc (lm v) ∧ Below w0.heap.size w0 wx
theorem boxO_set {w0 w5 : World} {t : Bool} {v : Nat} {g B : Nat} {qa b : Option Addr} {qn qc m d : Nat} (A : Blk w5 g #[.bool false, .slice none 0 0, .slice none 0 0]) (hO : Own B w5 qa qn qc (lm v)) (hg : w0.heap.size ≤ g) (hgB : g < B) (hB : Below w0.heap.size w0 w5) :
    BoxO w0 t v b m d (.pointer (some ⟨g, 0, none⟩)) (((w5.setCell ⟨g, 0, none⟩ (.bool t)).setCell ⟨g, 1, none⟩ (.slice qa qn qc)).setCell ⟨g, 2, none⟩ (.slice b m d)) :=
  ⟨g, qa, qn, qc, rfl, (show Blk _ _ #[_, _, _] from ((A.setCell (i := 0) (v := .bool t) (by simp)).setCell (i := 1) (v := .slice qa qn qc) (by simp)).setCell (i := 2) (v := .slice b m d) (by simp)), hg, (hO.set3 hgB _ _ _).mono (by omega), Below.set3 hB hg _ _ _⟩
theorem boxO_new {w0 w5 : World} {t : Bool} {v : Nat} {B : Nat} {qa b : Option Addr} {qn qc m d : Nat} {T : TypeId} (hO : Own B w5 qa qn qc (lm v)) (hgB : w0.heap.size ≤ B) (hB : Below w0.heap.size w0 w5) :
    BoxO w0 t v b m d (.pointer (some ⟨w5.heap.size, 0, none⟩)) (w5.alloc (.cells #[.bool t, .slice qa qn qc, .slice b m d] T)) :=
  ⟨_, qa, qn, qc, rfl, blk_new _ _ _, hB.size, (hO.alloc _).mono hgB, hB.alloc hB.size _⟩
theorem qv_inv (t : Bool) {u v : Nat} (hu : u ≠ 0) : qv t (und v) u = (qv t u v)⁻¹ := by
  unfold qv
  rw [und_of hu, ← Rat.divInt_ofNat, ← Rat.divInt_ofNat, Rat.inv_divInt]
  cases t
  · rfl
  · rw [show zv true u = -(u : Int) by simp [zv], show zv true (und v) = -((und v : Nat) : Int) by simp [zv], Rat.divInt_neg']

end Go.Proofs.YtoeldbdcbfgmoaaDoor
