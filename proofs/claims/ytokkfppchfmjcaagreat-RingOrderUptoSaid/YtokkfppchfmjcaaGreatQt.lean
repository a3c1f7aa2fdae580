/- WALKS OF FRACTIONS, 16: Norm; the reference's opposites, differences, products, quotients, comparison. -/
import Derived.Test.YtokkfppchfmjcaaGreatQm
namespace Go.Proofs.YtokkfppchfmjcaaGreat
set_option linter.unusedVariables false
set_option linter.unusedSimpArgs false
open Go.ChangeShapes Go.WideShapes Go.ChangeAt Go.RowKit Go.NatP

theorem szMulZ {x y : Int} {j k : Nat} (h : Sz x.natAbs j) (h' : Sz y.natAbs k) : Sz (x * y).natAbs (j + k) := by rw [Int.natAbs_mul]; exact h.mul h'

set_option maxRecDepth 100000 in
set_option maxHeartbeats 4000000 in
theorem rqneg {w : World} {a1 b1 : Option Addr} {n1 c1 m1 d1 : Nat} {s : Bool} {x : Rat} {J : Nat} (hx : RdQ J w s a1 n1 c1 b1 m1 d1 x) (hJ : J ≤ 1000000) :
    Calls Tryz.prog 85 #[.agg #[.bool s, .slice a1 n1 c1, .slice b1 m1 d1]] w (RetQ w (-x)) := by
  obtain ⟨u1, v1, h1, hd1, rfl⟩ := hx
  have hz1 := h1.toZ (s := s)
  have sd1 := hid (sz_und (hd1.sz.mono (Nat.le_refl _) (Nat.le_succ J)) (by omega))
  have su1 := hid h1.sz
  have hu1 := hid (und_ne v1)
  unfold qv
  rw [Rat.neg_mkRat]
  have HU1 := hid (fun W (h : RdN J W b1 m1 d1 v1) => rqden (w := W) (s := s) (a := a1) (n := n1) (c := c1) (h.mono (show _ ≤ 4194304 by omega)))
  generalize hD1 : und v1 = e1 at *
  clear hD1
  have sz1 := hid hz1.sz
  clear h1
  generalize zv s u1 = x1 at *
  obtain ⟨y1, hy0⟩ : ∃ y, -x1 = y := ⟨_, rfl⟩
  have hy := hid hy0
  have sy := hid (show Sz y1.natAbs J by rw [← hy0, Int.natAbs_neg]; exact sz1.out)
  rw [hy0]
  clear hy0
  have hent := ent2 w #[Value.bool s, Value.slice a1 n1 c1, Value.slice b1 m1 d1] #[Value.bool false, Value.slice none 0 0, Value.slice none 0 0] 39 39
  go_enter Tryz.func85, Tryz.ntmps85
  go_wp2_with fail
  generalize ((w.alloc (.cells #[Value.bool s, Value.slice a1 n1 c1, Value.slice b1 m1 d1] 39)).alloc (.cells #[Value.bool false, Value.slice none 0 0, Value.slice none 0 0] 39)) = W0 at hent ⊢
  obtain ⟨X_0, R0_0, hbel_0, hsz_0⟩ := hent
  have cX_0_0 : _ = some (Value.bool s) := X_0.cell 0
  have cX_0_1 : _ = some (Value.slice a1 n1 c1) := X_0.cell 1
  have cX_0_2 : _ = some (Value.slice b1 m1 d1) := X_0.cell 2
  have cR0_0_0 : _ = some (Value.bool false) := R0_0.cell 0
  have fR0_0_0 := R0_0.free 0
  have cR0_0_1 : _ = some (Value.slice none 0 0) := R0_0.cell 1
  have fR0_0_1 := R0_0.free 1
  have cR0_0_2 : _ = some (Value.slice none 0 0) := R0_0.cell 2
  have fR0_0_2 := R0_0.free 2
  have hz1_0 := hz1.below hbel_0
  clear hz1
  have hd1_0 := hd1.below hbel_0
  clear hd1
  go_wp2_with fail
  go_region_held3 (fun w' => w'.cell? ⟨w.heap.size, 0, none⟩ = some (Value.bool s) ∧ w'.cell? ⟨w.heap.size, 1, none⟩ = some (Value.slice a1 n1 c1) ∧ w'.cell? ⟨w.heap.size, 2, none⟩ = some (Value.slice b1 m1 d1))
    (first | exact ⟨cX_0_0, cX_0_1, cX_0_2⟩ | exact ⟨cX_1_0, cX_1_1, cX_1_2⟩ | exact ⟨cX_2_0, cX_2_1, cX_2_2⟩ | exact ⟨cX_3_0, cX_3_1, cX_3_2⟩ | exact ⟨(cell_set3 (by omega) _ _ _).trans (cX_3_0), (cell_set3 (by omega) _ _ _).trans (cX_3_1), (cell_set3 (by omega) _ _ _).trans (cX_3_2)⟩ | go_keep)
    (first
      | (go_at_call 122; ((with_reducible refine (rznegR (hz1_0.below bl) (by omega)).mono ?_); (rw [hy.out]; rintro e w1 ⟨na, nn, nc, rfl, hO, hB⟩; have hB_1 : Below W0.heap.size W0 w1 := (bl.next hB); have X_1 := X_0.next hB_1; have cX_1_0 : _ = some (Value.bool s) := X_1.cell 0; have cX_1_1 : _ = some (Value.slice a1 n1 c1) := X_1.cell 1; have cX_1_2 : _ = some (Value.slice b1 m1 d1) := X_1.cell 2; have R0_1 := R0_0.next hB_1; have cR0_1_0 : _ = some (Value.bool false) := R0_1.cell 0; have fR0_1_0 := R0_1.free 0; have cR0_1_1 : _ = some (Value.slice none 0 0) := R0_1.cell 1; have fR0_1_1 := R0_1.free 1; have cR0_1_2 : _ = some (Value.slice none 0 0) := R0_1.cell 2; have fR0_1_2 := R0_1.free 2; have hz1_1 := hz1_0.below hB_1; have hd1_1 := hd1_0.below hB_1; have hbel_1 := hbel_0.next hB_1; have hsz_1 := hB_1.size; clear X_0 cX_0_0 cX_0_1 cX_0_2 R0_0 cR0_0_0 fR0_0_0 cR0_0_1 fR0_0_1 cR0_0_2 fR0_0_2 hz1_0 hd1_0 hbel_0 hB_1; have N_1 := hO.rdZ sy.out; clear hO; try clear hB)))
      | (go_at_call 89; ((with_reducible refine (HU1.out _ (hd1_1.below bl)).mono ?_); (rintro e w2 ⟨va, vn, vc, rfl, hO, hB⟩; have hB_2 : Below w1.heap.size w1 w2 := (bl.next hB); have X_2 := X_1.next hB_2; have cX_2_0 : _ = some (Value.bool s) := X_2.cell 0; have cX_2_1 : _ = some (Value.slice a1 n1 c1) := X_2.cell 1; have cX_2_2 : _ = some (Value.slice b1 m1 d1) := X_2.cell 2; have R0_2 := R0_1.next hB_2; have cR0_2_0 : _ = some (Value.bool false) := R0_2.cell 0; have fR0_2_0 := R0_2.free 0; have cR0_2_1 : _ = some (Value.slice none 0 0) := R0_2.cell 1; have fR0_2_1 := R0_2.free 1; have cR0_2_2 : _ = some (Value.slice none 0 0) := R0_2.cell 2; have fR0_2_2 := R0_2.free 2; have hz1_2 := hz1_1.below hB_2; have hd1_2 := hd1_1.below hB_2; have N_2 := N_1.below hB_2; have hbel_2 := hbel_1.next hB_2; have hsz_2 := hB_2.size; clear X_1 cX_1_0 cX_1_1 cX_1_2 R0_1 cR0_1_0 fR0_1_0 cR0_1_1 fR0_1_1 cR0_1_2 fR0_1_2 hz1_1 hd1_1 N_1 hbel_1 hB_2; have V_2 := hO.rdN sd1.out; clear hO; try clear hB)))
      | (go_at_call 102; ((with_reducible refine (rqlow ((N_2.below bl).mono (by omega)) ((V_2.below bl).mono (by omega)) hu1.out).mono ?_); (rintro e w3 ⟨qa, qn, qc, da, dn, dc, rfl, hO, hO', hD, hB⟩; have hB_3 : Below w2.heap.size w2 w3 := (bl.next hB); have X_3 := X_2.next hB_3; have cX_3_0 : _ = some (Value.bool s) := X_3.cell 0; have cX_3_1 : _ = some (Value.slice a1 n1 c1) := X_3.cell 1; have cX_3_2 : _ = some (Value.slice b1 m1 d1) := X_3.cell 2; have R0_3 := R0_2.next hB_3; have cR0_3_0 : _ = some (Value.bool false) := R0_3.cell 0; have fR0_3_0 := R0_3.free 0; have cR0_3_1 : _ = some (Value.slice none 0 0) := R0_3.cell 1; have fR0_3_1 := R0_3.free 1; have cR0_3_2 : _ = some (Value.slice none 0 0) := R0_3.cell 2; have fR0_3_2 := R0_3.free 2; have hz1_3 := hz1_2.below hB_3; have hd1_3 := hd1_2.below hB_3; have N_3 := N_2.below hB_3; have V_3 := V_2.below hB_3; have hbel_3 := hbel_2.next hB_3; have hsz_3 := hB_3.size; clear X_2 cX_2_0 cX_2_1 cX_2_2 R0_2 cR0_2_0 fR0_2_0 cR0_2_1 fR0_2_1 cR0_2_2 fR0_2_2 hz1_2 hd1_2 N_2 V_2 hbel_2 hB_3; have OQ_3 := hO; have ltOQ := hO.ltB; have OD_3 := hO'; have ltOD := hO'.ltB; clear hO hO'; try clear hB))))
  go_wp2
  refine bodyPost_ret (v := .agg #[.bool (decide ((mkRat y1 e1).num < 0)), .slice qa qn qc, .slice da dn dc]) (by simp [results, Tryz.results85, go_sem, cR0_3_0, cR0_3_1, cR0_3_2]) rfl ?_
  exact retq_set OQ_3 OD_3 hD hbel_3 (by omega) (by omega)

set_option maxRecDepth 100000 in
set_option maxHeartbeats 4000000 in
theorem rqsub {w : World} {a1 b1 : Option Addr} {n1 c1 m1 d1 : Nat} {s : Bool} {x : Rat} {a2 b2 : Option Addr} {n2 c2 m2 d2 : Nat} {t : Bool} {y : Rat} {J K : Nat} (hx : RdQ J w s a1 n1 c1 b1 m1 d1 x) (hJ : J ≤ 900000) (hy : RdQ K w t a2 n2 c2 b2 m2 d2 y) (hK : K ≤ 900000) :
    Calls Tryz.prog 61 #[.agg #[.bool s, .slice a1 n1 c1, .slice b1 m1 d1], .agg #[.bool t, .slice a2 n2 c2, .slice b2 m2 d2]] w (RetQ w (x - y)) := by
  obtain ⟨z, hz0⟩ : ∃ z, -y = z := ⟨_, rfl⟩
  have hz := hid hz0
  have hqz := hid (show QS z (K + 1) by rw [← hz0]; exact ((hy.mono (Nat.le_succ K)).qs (by omega)).neg)
  rw [Rat.sub_eq_add_neg, hz0]
  clear hz0
  have hent := ent3 w #[Value.bool s, Value.slice a1 n1 c1, Value.slice b1 m1 d1] #[Value.bool t, Value.slice a2 n2 c2, Value.slice b2 m2 d2] #[Value.bool false, Value.slice none 0 0, Value.slice none 0 0] 39 39 39
  go_enter Tryz.func61, Tryz.ntmps61
  go_wp2_with fail
  generalize (((w.alloc (.cells #[Value.bool s, Value.slice a1 n1 c1, Value.slice b1 m1 d1] 39)).alloc (.cells #[Value.bool t, Value.slice a2 n2 c2, Value.slice b2 m2 d2] 39)).alloc (.cells #[Value.bool false, Value.slice none 0 0, Value.slice none 0 0] 39)) = W0 at hent ⊢
  obtain ⟨X_0, Y_0, R0_0, hbel_0, hsz_0⟩ := hent
  have cX_0_0 : _ = some (Value.bool s) := X_0.cell 0
  have cX_0_1 : _ = some (Value.slice a1 n1 c1) := X_0.cell 1
  have cX_0_2 : _ = some (Value.slice b1 m1 d1) := X_0.cell 2
  have cY_0_0 : _ = some (Value.bool t) := Y_0.cell 0
  have cY_0_1 : _ = some (Value.slice a2 n2 c2) := Y_0.cell 1
  have cY_0_2 : _ = some (Value.slice b2 m2 d2) := Y_0.cell 2
  have cR0_0_0 : _ = some (Value.bool false) := R0_0.cell 0
  have fR0_0_0 := R0_0.free 0
  have cR0_0_1 : _ = some (Value.slice none 0 0) := R0_0.cell 1
  have fR0_0_1 := R0_0.free 1
  have cR0_0_2 : _ = some (Value.slice none 0 0) := R0_0.cell 2
  have fR0_0_2 := R0_0.free 2
  have hx_0 := hx.below hbel_0
  clear hx
  have hy_0 := hy.below hbel_0
  clear hy
  go_wp2_with fail
  go_region_held3 (fun w' => w'.cell? ⟨w.heap.size, 0, none⟩ = some (Value.bool s) ∧ w'.cell? ⟨w.heap.size, 1, none⟩ = some (Value.slice a1 n1 c1) ∧ w'.cell? ⟨w.heap.size, 2, none⟩ = some (Value.slice b1 m1 d1) ∧ w'.cell? ⟨w.heap.size + 1, 0, none⟩ = some (Value.bool t) ∧ w'.cell? ⟨w.heap.size + 1, 1, none⟩ = some (Value.slice a2 n2 c2) ∧ w'.cell? ⟨w.heap.size + 1, 2, none⟩ = some (Value.slice b2 m2 d2))
    (first | exact ⟨cX_0_0, cX_0_1, cX_0_2, cY_0_0, cY_0_1, cY_0_2⟩ | exact ⟨cX_1_0, cX_1_1, cX_1_2, cY_1_0, cY_1_1, cY_1_2⟩ | exact ⟨cX_2_0, cX_2_1, cX_2_2, cY_2_0, cY_2_1, cY_2_2⟩ | exact ⟨(cell_set3 (by omega) _ _ _).trans (cX_2_0), (cell_set3 (by omega) _ _ _).trans (cX_2_1), (cell_set3 (by omega) _ _ _).trans (cX_2_2), (cell_set3 (by omega) _ _ _).trans (cY_2_0), (cell_set3 (by omega) _ _ _).trans (cY_2_1), (cell_set3 (by omega) _ _ _).trans (cY_2_2)⟩ | go_keep)
    (first
      | (go_at_call 85; ((with_reducible refine (rqneg (hy_0.below bl) (by omega)).mono ?_); (rw [hz.out]; rintro e w1 ⟨na, nn, nc, ma, mn, mc, rfl, hO, hO', hD, hB⟩; have hB_1 : Below W0.heap.size W0 w1 := (bl.next hB); have X_1 := X_0.next hB_1; have cX_1_0 : _ = some (Value.bool s) := X_1.cell 0; have cX_1_1 : _ = some (Value.slice a1 n1 c1) := X_1.cell 1; have cX_1_2 : _ = some (Value.slice b1 m1 d1) := X_1.cell 2; have Y_1 := Y_0.next hB_1; have cY_1_0 : _ = some (Value.bool t) := Y_1.cell 0; have cY_1_1 : _ = some (Value.slice a2 n2 c2) := Y_1.cell 1; have cY_1_2 : _ = some (Value.slice b2 m2 d2) := Y_1.cell 2; have R0_1 := R0_0.next hB_1; have cR0_1_0 : _ = some (Value.bool false) := R0_1.cell 0; have fR0_1_0 := R0_1.free 0; have cR0_1_1 : _ = some (Value.slice none 0 0) := R0_1.cell 1; have fR0_1_1 := R0_1.free 1; have cR0_1_2 : _ = some (Value.slice none 0 0) := R0_1.cell 2; have fR0_1_2 := R0_1.free 2; have hx_1 := hx_0.below hB_1; have hy_1 := hy_0.below hB_1; have hbel_1 := hbel_0.next hB_1; have hsz_1 := hB_1.size; clear X_0 cX_0_0 cX_0_1 cX_0_2 Y_0 cY_0_0 cY_0_1 cY_0_2 R0_0 cR0_0_0 fR0_0_0 cR0_0_1 fR0_0_1 cR0_0_2 fR0_0_2 hx_0 hy_0 hbel_0 hB_1; have Z_1 := hO.rdQ hO' hqz.out; clear hO hO' hD; try clear hB)))
      | (go_at_call 101; ((with_reducible refine (rqadd (hx_1.below bl) (by omega) (Z_1.below bl) (by omega)).mono ?_); (rintro e w2 ⟨qa, qn, qc, da, dn, dc, rfl, hO, hO', hD, hB⟩; have hB_2 : Below w1.heap.size w1 w2 := (bl.next hB); have X_2 := X_1.next hB_2; have cX_2_0 : _ = some (Value.bool s) := X_2.cell 0; have cX_2_1 : _ = some (Value.slice a1 n1 c1) := X_2.cell 1; have cX_2_2 : _ = some (Value.slice b1 m1 d1) := X_2.cell 2; have Y_2 := Y_1.next hB_2; have cY_2_0 : _ = some (Value.bool t) := Y_2.cell 0; have cY_2_1 : _ = some (Value.slice a2 n2 c2) := Y_2.cell 1; have cY_2_2 : _ = some (Value.slice b2 m2 d2) := Y_2.cell 2; have R0_2 := R0_1.next hB_2; have cR0_2_0 : _ = some (Value.bool false) := R0_2.cell 0; have fR0_2_0 := R0_2.free 0; have cR0_2_1 : _ = some (Value.slice none 0 0) := R0_2.cell 1; have fR0_2_1 := R0_2.free 1; have cR0_2_2 : _ = some (Value.slice none 0 0) := R0_2.cell 2; have fR0_2_2 := R0_2.free 2; have hx_2 := hx_1.below hB_2; have hy_2 := hy_1.below hB_2; have Z_2 := Z_1.below hB_2; have hbel_2 := hbel_1.next hB_2; have hsz_2 := hB_2.size; clear X_1 cX_1_0 cX_1_1 cX_1_2 Y_1 cY_1_0 cY_1_1 cY_1_2 R0_1 cR0_1_0 fR0_1_0 cR0_1_1 fR0_1_1 cR0_1_2 fR0_1_2 hx_1 hy_1 Z_1 hbel_1 hB_2; have OQ_2 := hO; have ltOQ := hO.ltB; have OD_2 := hO'; have ltOD := hO'.ltB; clear hO hO'; try clear hB))))
  go_wp2
  refine bodyPost_ret (v := .agg #[.bool (decide ((x + z).num < 0)), .slice qa qn qc, .slice da dn dc]) (by simp [results, Tryz.results61, go_sem, cR0_2_0, cR0_2_1, cR0_2_2]) rfl ?_
  exact retq_set OQ_2 OD_2 hD hbel_2 (by omega) (by omega)

set_option maxRecDepth 100000 in
set_option maxHeartbeats 4000000 in
theorem rqmul {w : World} {a1 b1 : Option Addr} {n1 c1 m1 d1 : Nat} {s : Bool} {x : Rat} {a2 b2 : Option Addr} {n2 c2 m2 d2 : Nat} {t : Bool} {y : Rat} {J K : Nat} (hx : RdQ J w s a1 n1 c1 b1 m1 d1 x) (hJ : J ≤ 1000000) (hy : RdQ K w t a2 n2 c2 b2 m2 d2 y) (hK : K ≤ 1000000) :
    Calls Tryz.prog 90 #[.agg #[.bool s, .slice a1 n1 c1, .slice b1 m1 d1], .agg #[.bool t, .slice a2 n2 c2, .slice b2 m2 d2]] w (RetQ w (x * y)) := by
  obtain ⟨u1, v1, h1, hd1, rfl⟩ := hx
  obtain ⟨u2, v2, h2, hd2, rfl⟩ := hy
  have hz1 := h1.toZ (s := s)
  have hz2 := h2.toZ (s := t)
  have sd1 := hid (sz_und (hd1.sz.mono (Nat.le_refl _) (Nat.le_succ J)) (by omega))
  have sd2 := hid (sz_und (hd2.sz.mono (Nat.le_refl _) (Nat.le_succ K)) (by omega))
  have sz1 := hid hz1.sz
  have sz2 := hid hz2.sz
  have su1 := hid h1.sz
  have su2 := hid h2.sz
  have hu1 := hid (und_ne v1)
  have hu2 := hid (und_ne v2)
  unfold qv
  rw [← qv_mul]
  have HU1 := hid (fun W (h : RdN J W b1 m1 d1 v1) => rqden (w := W) (s := s) (a := a1) (n := n1) (c := c1) (h.mono (show _ ≤ 4194304 by omega)))
  generalize hD1 : und v1 = e1 at *
  clear hD1
  have HU2 := hid (fun W (h : RdN K W b2 m2 d2 v2) => rqden (w := W) (s := t) (a := a2) (n := n2) (c := c2) (h.mono (show _ ≤ 4194304 by omega)))
  generalize hD2 : und v2 = e2 at *
  clear hD2
  have sN := hid (szMulZ sz1.out sz2.out)
  have sD := hid (sd1.out.mul sd2.out)
  have hDD := hid (Nat.mul_ne_zero hu1.out hu2.out)
  clear h1 h2
  generalize zv s u1 = x1 at *
  generalize zv t u2 = x2 at *
  have hent := ent3 w #[Value.bool s, Value.slice a1 n1 c1, Value.slice b1 m1 d1] #[Value.bool t, Value.slice a2 n2 c2, Value.slice b2 m2 d2] #[Value.bool false, Value.slice none 0 0, Value.slice none 0 0] 39 39 39
  go_enter Tryz.func90, Tryz.ntmps90
  go_wp2_with fail
  generalize (((w.alloc (.cells #[Value.bool s, Value.slice a1 n1 c1, Value.slice b1 m1 d1] 39)).alloc (.cells #[Value.bool t, Value.slice a2 n2 c2, Value.slice b2 m2 d2] 39)).alloc (.cells #[Value.bool false, Value.slice none 0 0, Value.slice none 0 0] 39)) = W0 at hent ⊢
  obtain ⟨X_0, Y_0, R0_0, hbel_0, hsz_0⟩ := hent
  have cX_0_0 : _ = some (Value.bool s) := X_0.cell 0
  have cX_0_1 : _ = some (Value.slice a1 n1 c1) := X_0.cell 1
  have cX_0_2 : _ = some (Value.slice b1 m1 d1) := X_0.cell 2
  have cY_0_0 : _ = some (Value.bool t) := Y_0.cell 0
  have cY_0_1 : _ = some (Value.slice a2 n2 c2) := Y_0.cell 1
  have cY_0_2 : _ = some (Value.slice b2 m2 d2) := Y_0.cell 2
  have cR0_0_0 : _ = some (Value.bool false) := R0_0.cell 0
  have fR0_0_0 := R0_0.free 0
  have cR0_0_1 : _ = some (Value.slice none 0 0) := R0_0.cell 1
  have fR0_0_1 := R0_0.free 1
  have cR0_0_2 : _ = some (Value.slice none 0 0) := R0_0.cell 2
  have fR0_0_2 := R0_0.free 2
  have hz1_0 := hz1.below hbel_0
  clear hz1
  have hz2_0 := hz2.below hbel_0
  clear hz2
  have hd1_0 := hd1.below hbel_0
  clear hd1
  have hd2_0 := hd2.below hbel_0
  clear hd2
  go_wp2_with fail
  go_region_held3 (fun w' => w'.cell? ⟨w.heap.size, 0, none⟩ = some (Value.bool s) ∧ w'.cell? ⟨w.heap.size, 1, none⟩ = some (Value.slice a1 n1 c1) ∧ w'.cell? ⟨w.heap.size, 2, none⟩ = some (Value.slice b1 m1 d1) ∧ w'.cell? ⟨w.heap.size + 1, 0, none⟩ = some (Value.bool t) ∧ w'.cell? ⟨w.heap.size + 1, 1, none⟩ = some (Value.slice a2 n2 c2) ∧ w'.cell? ⟨w.heap.size + 1, 2, none⟩ = some (Value.slice b2 m2 d2))
    (first | exact ⟨cX_0_0, cX_0_1, cX_0_2, cY_0_0, cY_0_1, cY_0_2⟩ | exact ⟨cX_1_0, cX_1_1, cX_1_2, cY_1_0, cY_1_1, cY_1_2⟩ | exact ⟨cX_2_0, cX_2_1, cX_2_2, cY_2_0, cY_2_1, cY_2_2⟩ | exact ⟨cX_3_0, cX_3_1, cX_3_2, cY_3_0, cY_3_1, cY_3_2⟩ | exact ⟨cX_4_0, cX_4_1, cX_4_2, cY_4_0, cY_4_1, cY_4_2⟩ | exact ⟨cX_5_0, cX_5_1, cX_5_2, cY_5_0, cY_5_1, cY_5_2⟩ | exact ⟨(cell_set3 (by omega) _ _ _).trans (cX_5_0), (cell_set3 (by omega) _ _ _).trans (cX_5_1), (cell_set3 (by omega) _ _ _).trans (cX_5_2), (cell_set3 (by omega) _ _ _).trans (cY_5_0), (cell_set3 (by omega) _ _ _).trans (cY_5_1), (cell_set3 (by omega) _ _ _).trans (cY_5_2)⟩ | go_keep)
    (first
      | (go_at_call 114; ((with_reducible refine (rzmulR (hz1_0.below bl) (hz2_0.below bl) (by omega) (by omega)).mono ?_); (rintro e w1 ⟨na, nn, nc, rfl, hO, hB⟩; have hB_1 : Below W0.heap.size W0 w1 := (bl.next hB); have X_1 := X_0.next hB_1; have cX_1_0 : _ = some (Value.bool s) := X_1.cell 0; have cX_1_1 : _ = some (Value.slice a1 n1 c1) := X_1.cell 1; have cX_1_2 : _ = some (Value.slice b1 m1 d1) := X_1.cell 2; have Y_1 := Y_0.next hB_1; have cY_1_0 : _ = some (Value.bool t) := Y_1.cell 0; have cY_1_1 : _ = some (Value.slice a2 n2 c2) := Y_1.cell 1; have cY_1_2 : _ = some (Value.slice b2 m2 d2) := Y_1.cell 2; have R0_1 := R0_0.next hB_1; have cR0_1_0 : _ = some (Value.bool false) := R0_1.cell 0; have fR0_1_0 := R0_1.free 0; have cR0_1_1 : _ = some (Value.slice none 0 0) := R0_1.cell 1; have fR0_1_1 := R0_1.free 1; have cR0_1_2 : _ = some (Value.slice none 0 0) := R0_1.cell 2; have fR0_1_2 := R0_1.free 2; have hz1_1 := hz1_0.below hB_1; have hz2_1 := hz2_0.below hB_1; have hd1_1 := hd1_0.below hB_1; have hd2_1 := hd2_0.below hB_1; have hbel_1 := hbel_0.next hB_1; have hsz_1 := hB_1.size; clear X_0 cX_0_0 cX_0_1 cX_0_2 Y_0 cY_0_0 cY_0_1 cY_0_2 R0_0 cR0_0_0 fR0_0_0 cR0_0_1 fR0_0_1 cR0_0_2 fR0_0_2 hz1_0 hz2_0 hd1_0 hd2_0 hbel_0 hB_1; have N_1 := hO.rdZ sN.out; clear hO; try clear hB)))
      | (go_at_call 89; ((with_reducible refine (HU1.out _ (hd1_1.below bl)).mono ?_); (rintro e w2 ⟨ua, un, uc, rfl, hO, hB⟩; have hB_2 : Below w1.heap.size w1 w2 := (bl.next hB); have X_2 := X_1.next hB_2; have cX_2_0 : _ = some (Value.bool s) := X_2.cell 0; have cX_2_1 : _ = some (Value.slice a1 n1 c1) := X_2.cell 1; have cX_2_2 : _ = some (Value.slice b1 m1 d1) := X_2.cell 2; have Y_2 := Y_1.next hB_2; have cY_2_0 : _ = some (Value.bool t) := Y_2.cell 0; have cY_2_1 : _ = some (Value.slice a2 n2 c2) := Y_2.cell 1; have cY_2_2 : _ = some (Value.slice b2 m2 d2) := Y_2.cell 2; have R0_2 := R0_1.next hB_2; have cR0_2_0 : _ = some (Value.bool false) := R0_2.cell 0; have fR0_2_0 := R0_2.free 0; have cR0_2_1 : _ = some (Value.slice none 0 0) := R0_2.cell 1; have fR0_2_1 := R0_2.free 1; have cR0_2_2 : _ = some (Value.slice none 0 0) := R0_2.cell 2; have fR0_2_2 := R0_2.free 2; have hz1_2 := hz1_1.below hB_2; have hz2_2 := hz2_1.below hB_2; have hd1_2 := hd1_1.below hB_2; have hd2_2 := hd2_1.below hB_2; have N_2 := N_1.below hB_2; have hbel_2 := hbel_1.next hB_2; have hsz_2 := hB_2.size; clear X_1 cX_1_0 cX_1_1 cX_1_2 Y_1 cY_1_0 cY_1_1 cY_1_2 R0_1 cR0_1_0 fR0_1_0 cR0_1_1 fR0_1_1 cR0_1_2 fR0_1_2 hz1_1 hz2_1 hd1_1 hd2_1 N_1 hbel_1 hB_2; have U_2 := hO.rdN sd1.out; clear hO; try clear hB)))
      | (go_at_call 89; ((with_reducible refine (HU2.out _ (hd2_2.below bl)).mono ?_); (rintro e w3 ⟨va, vn, vc, rfl, hO, hB⟩; have hB_3 : Below w2.heap.size w2 w3 := (bl.next hB); have X_3 := X_2.next hB_3; have cX_3_0 : _ = some (Value.bool s) := X_3.cell 0; have cX_3_1 : _ = some (Value.slice a1 n1 c1) := X_3.cell 1; have cX_3_2 : _ = some (Value.slice b1 m1 d1) := X_3.cell 2; have Y_3 := Y_2.next hB_3; have cY_3_0 : _ = some (Value.bool t) := Y_3.cell 0; have cY_3_1 : _ = some (Value.slice a2 n2 c2) := Y_3.cell 1; have cY_3_2 : _ = some (Value.slice b2 m2 d2) := Y_3.cell 2; have R0_3 := R0_2.next hB_3; have cR0_3_0 : _ = some (Value.bool false) := R0_3.cell 0; have fR0_3_0 := R0_3.free 0; have cR0_3_1 : _ = some (Value.slice none 0 0) := R0_3.cell 1; have fR0_3_1 := R0_3.free 1; have cR0_3_2 : _ = some (Value.slice none 0 0) := R0_3.cell 2; have fR0_3_2 := R0_3.free 2; have hz1_3 := hz1_2.below hB_3; have hz2_3 := hz2_2.below hB_3; have hd1_3 := hd1_2.below hB_3; have hd2_3 := hd2_2.below hB_3; have N_3 := N_2.below hB_3; have U_3 := U_2.below hB_3; have hbel_3 := hbel_2.next hB_3; have hsz_3 := hB_3.size; clear X_2 cX_2_0 cX_2_1 cX_2_2 Y_2 cY_2_0 cY_2_1 cY_2_2 R0_2 cR0_2_0 fR0_2_0 cR0_2_1 fR0_2_1 cR0_2_2 fR0_2_2 hz1_2 hz2_2 hd1_2 hd2_2 N_2 U_2 hbel_2 hB_3; have V_3 := hO.rdN sd2.out; clear hO; try clear hB)))
      | (go_at_call 127; ((with_reducible refine (rmulR (U_3.below bl) (V_3.below bl) (by omega) (by omega)).mono ?_); (rintro e w4 ⟨pa, pn, pc, rfl, hO, hB⟩; have hB_4 : Below w3.heap.size w3 w4 := (bl.next hB); have X_4 := X_3.next hB_4; have cX_4_0 : _ = some (Value.bool s) := X_4.cell 0; have cX_4_1 : _ = some (Value.slice a1 n1 c1) := X_4.cell 1; have cX_4_2 : _ = some (Value.slice b1 m1 d1) := X_4.cell 2; have Y_4 := Y_3.next hB_4; have cY_4_0 : _ = some (Value.bool t) := Y_4.cell 0; have cY_4_1 : _ = some (Value.slice a2 n2 c2) := Y_4.cell 1; have cY_4_2 : _ = some (Value.slice b2 m2 d2) := Y_4.cell 2; have R0_4 := R0_3.next hB_4; have cR0_4_0 : _ = some (Value.bool false) := R0_4.cell 0; have fR0_4_0 := R0_4.free 0; have cR0_4_1 : _ = some (Value.slice none 0 0) := R0_4.cell 1; have fR0_4_1 := R0_4.free 1; have cR0_4_2 : _ = some (Value.slice none 0 0) := R0_4.cell 2; have fR0_4_2 := R0_4.free 2; have hz1_4 := hz1_3.below hB_4; have hz2_4 := hz2_3.below hB_4; have hd1_4 := hd1_3.below hB_4; have hd2_4 := hd2_3.below hB_4; have N_4 := N_3.below hB_4; have U_4 := U_3.below hB_4; have V_4 := V_3.below hB_4; have hbel_4 := hbel_3.next hB_4; have hsz_4 := hB_4.size; clear X_3 cX_3_0 cX_3_1 cX_3_2 Y_3 cY_3_0 cY_3_1 cY_3_2 R0_3 cR0_3_0 fR0_3_0 cR0_3_1 fR0_3_1 cR0_3_2 fR0_3_2 hz1_3 hz2_3 hd1_3 hd2_3 N_3 U_3 V_3 hbel_3 hB_4; have P_4 := hO.rdN sD.out; clear hO; try clear hB)))
      | (go_at_call 102; ((with_reducible refine (rqlow ((N_4.below bl).mono (by omega)) ((P_4.below bl).mono (by omega)) hDD.out).mono ?_); (rintro e w5 ⟨qa, qn, qc, da, dn, dc, rfl, hO, hO', hD, hB⟩; have hB_5 : Below w4.heap.size w4 w5 := (bl.next hB); have X_5 := X_4.next hB_5; have cX_5_0 : _ = some (Value.bool s) := X_5.cell 0; have cX_5_1 : _ = some (Value.slice a1 n1 c1) := X_5.cell 1; have cX_5_2 : _ = some (Value.slice b1 m1 d1) := X_5.cell 2; have Y_5 := Y_4.next hB_5; have cY_5_0 : _ = some (Value.bool t) := Y_5.cell 0; have cY_5_1 : _ = some (Value.slice a2 n2 c2) := Y_5.cell 1; have cY_5_2 : _ = some (Value.slice b2 m2 d2) := Y_5.cell 2; have R0_5 := R0_4.next hB_5; have cR0_5_0 : _ = some (Value.bool false) := R0_5.cell 0; have fR0_5_0 := R0_5.free 0; have cR0_5_1 : _ = some (Value.slice none 0 0) := R0_5.cell 1; have fR0_5_1 := R0_5.free 1; have cR0_5_2 : _ = some (Value.slice none 0 0) := R0_5.cell 2; have fR0_5_2 := R0_5.free 2; have hz1_5 := hz1_4.below hB_5; have hz2_5 := hz2_4.below hB_5; have hd1_5 := hd1_4.below hB_5; have hd2_5 := hd2_4.below hB_5; have N_5 := N_4.below hB_5; have U_5 := U_4.below hB_5; have V_5 := V_4.below hB_5; have P_5 := P_4.below hB_5; have hbel_5 := hbel_4.next hB_5; have hsz_5 := hB_5.size; clear X_4 cX_4_0 cX_4_1 cX_4_2 Y_4 cY_4_0 cY_4_1 cY_4_2 R0_4 cR0_4_0 fR0_4_0 cR0_4_1 fR0_4_1 cR0_4_2 fR0_4_2 hz1_4 hz2_4 hd1_4 hd2_4 N_4 U_4 V_4 P_4 hbel_4 hB_5; have OQ_5 := hO; have ltOQ := hO.ltB; have OD_5 := hO'; have ltOD := hO'.ltB; clear hO hO'; try clear hB))))
  go_wp2
  refine bodyPost_ret (v := .agg #[.bool (decide ((mkRat (x1 * x2) (e1 * e2)).num < 0)), .slice qa qn qc, .slice da dn dc]) (by simp [results, Tryz.results90, go_sem, cR0_5_0, cR0_5_1, cR0_5_2]) rfl ?_
  exact retq_set OQ_5 OD_5 hD hbel_5 (by omega) (by omega)

set_option maxRecDepth 100000 in
set_option maxHeartbeats 4000000 in
theorem rqcmp {w : World} {a1 b1 : Option Addr} {n1 c1 m1 d1 : Nat} {s : Bool} {x : Rat} {a2 b2 : Option Addr} {n2 c2 m2 d2 : Nat} {t : Bool} {y : Rat} {J K : Nat} (hx : RdQ J w s a1 n1 c1 b1 m1 d1 x) (hJ : J ≤ 1000000) (hy : RdQ K w t a2 n2 c2 b2 m2 d2 y) (hK : K ≤ 1000000) :
    Calls Tryz.prog 74 #[.agg #[.bool s, .slice a1 n1 c1, .slice b1 m1 d1], .agg #[.bool t, .slice a2 n2 c2, .slice b2 m2 d2]] w (RetIb w (cmpQ x y)) := by
  obtain ⟨u1, v1, h1, hd1, rfl⟩ := hx
  obtain ⟨u2, v2, h2, hd2, rfl⟩ := hy
  have hz1 := h1.toZ (s := s)
  have hz2 := h2.toZ (s := t)
  have sd1 := hid (sz_und (hd1.sz.mono (Nat.le_refl _) (Nat.le_succ J)) (by omega))
  have sd2 := hid (sz_und (hd2.sz.mono (Nat.le_refl _) (Nat.le_succ K)) (by omega))
  have sz1 := hid hz1.sz
  have sz2 := hid hz2.sz
  have su1 := hid h1.sz
  have su2 := hid h2.sz
  have hu1 := hid (und_ne v1)
  have hu2 := hid (und_ne v2)
  unfold qv
  rw [← cmpQ_mk hu1.out hu2.out]
  have HU1 := hid (fun W (h : RdN J W b1 m1 d1 v1) => rqden (w := W) (s := s) (a := a1) (n := n1) (c := c1) (h.mono (show _ ≤ 4194304 by omega)))
  generalize hD1 : und v1 = e1 at *
  clear hD1
  have HU2 := hid (fun W (h : RdN K W b2 m2 d2 v2) => rqden (w := W) (s := t) (a := a2) (n := n2) (c := c2) (h.mono (show _ ≤ 4194304 by omega)))
  generalize hD2 : und v2 = e2 at *
  clear hD2
  have s12 := hid (szMulN sz1.out sd2.out)
  have s21 := hid (szMulN sz2.out sd1.out)
  clear h1 h2
  generalize zv s u1 = x1 at *
  generalize zv t u2 = x2 at *
  have hent := ent2 w #[Value.bool s, Value.slice a1 n1 c1, Value.slice b1 m1 d1] #[Value.bool t, Value.slice a2 n2 c2, Value.slice b2 m2 d2] 39 39
  go_enter Tryz.func74, Tryz.ntmps74
  go_wp2_with fail
  generalize ((w.alloc (.cells #[Value.bool s, Value.slice a1 n1 c1, Value.slice b1 m1 d1] 39)).alloc (.cells #[Value.bool t, Value.slice a2 n2 c2, Value.slice b2 m2 d2] 39)) = W0 at hent ⊢
  obtain ⟨X_0, Y_0, hbel_0, hsz_0⟩ := hent
  have cX_0_0 : _ = some (Value.bool s) := X_0.cell 0
  have cX_0_1 : _ = some (Value.slice a1 n1 c1) := X_0.cell 1
  have cX_0_2 : _ = some (Value.slice b1 m1 d1) := X_0.cell 2
  have cY_0_0 : _ = some (Value.bool t) := Y_0.cell 0
  have cY_0_1 : _ = some (Value.slice a2 n2 c2) := Y_0.cell 1
  have cY_0_2 : _ = some (Value.slice b2 m2 d2) := Y_0.cell 2
  have hz1_0 := hz1.below hbel_0
  clear hz1
  have hz2_0 := hz2.below hbel_0
  clear hz2
  have hd1_0 := hd1.below hbel_0
  clear hd1
  have hd2_0 := hd2.below hbel_0
  clear hd2
  go_wp2_with fail
  go_region_held3 (fun w' => w'.cell? ⟨w.heap.size, 0, none⟩ = some (Value.bool s) ∧ w'.cell? ⟨w.heap.size, 1, none⟩ = some (Value.slice a1 n1 c1) ∧ w'.cell? ⟨w.heap.size, 2, none⟩ = some (Value.slice b1 m1 d1) ∧ w'.cell? ⟨w.heap.size + 1, 0, none⟩ = some (Value.bool t) ∧ w'.cell? ⟨w.heap.size + 1, 1, none⟩ = some (Value.slice a2 n2 c2) ∧ w'.cell? ⟨w.heap.size + 1, 2, none⟩ = some (Value.slice b2 m2 d2))
    (first | exact ⟨cX_0_0, cX_0_1, cX_0_2, cY_0_0, cY_0_1, cY_0_2⟩ | exact ⟨cX_1_0, cX_1_1, cX_1_2, cY_1_0, cY_1_1, cY_1_2⟩ | exact ⟨cX_2_0, cX_2_1, cX_2_2, cY_2_0, cY_2_1, cY_2_2⟩ | exact ⟨cX_3_0, cX_3_1, cX_3_2, cY_3_0, cY_3_1, cY_3_2⟩ | exact ⟨cX_4_0, cX_4_1, cX_4_2, cY_4_0, cY_4_1, cY_4_2⟩ | exact ⟨cX_5_0, cX_5_1, cX_5_2, cY_5_0, cY_5_1, cY_5_2⟩ | exact ⟨cX_6_0, cX_6_1, cX_6_2, cY_6_0, cY_6_1, cY_6_2⟩ | exact ⟨cX_7_0, cX_7_1, cX_7_2, cY_7_0, cY_7_1, cY_7_2⟩ | go_keep)
    (first
      | (go_at_call 89; ((with_reducible refine (HU2.out _ (hd2_0.below bl)).mono ?_); (rintro e w1 ⟨ua, un, uc, rfl, hO, hB⟩; have hB_1 : Below W0.heap.size W0 w1 := (bl.next hB); have X_1 := X_0.next hB_1; have cX_1_0 : _ = some (Value.bool s) := X_1.cell 0; have cX_1_1 : _ = some (Value.slice a1 n1 c1) := X_1.cell 1; have cX_1_2 : _ = some (Value.slice b1 m1 d1) := X_1.cell 2; have Y_1 := Y_0.next hB_1; have cY_1_0 : _ = some (Value.bool t) := Y_1.cell 0; have cY_1_1 : _ = some (Value.slice a2 n2 c2) := Y_1.cell 1; have cY_1_2 : _ = some (Value.slice b2 m2 d2) := Y_1.cell 2; have hz1_1 := hz1_0.below hB_1; have hz2_1 := hz2_0.below hB_1; have hd1_1 := hd1_0.below hB_1; have hd2_1 := hd2_0.below hB_1; have hbel_1 := hbel_0.next hB_1; have hsz_1 := hB_1.size; clear X_0 cX_0_0 cX_0_1 cX_0_2 Y_0 cY_0_0 cY_0_1 cY_0_2 hz1_0 hz2_0 hd1_0 hd2_0 hbel_0 hB_1; have U_1 := hO.rdN sd2.out; clear hO; try clear hB)))
      | (go_at_call 100; ((with_reducible refine (rwhole_any).mono ?_); (rintro e w2 ⟨rfl, hB⟩; have hB_2 : Below w1.heap.size w1 w2 := (bl.next hB); have X_2 := X_1.next hB_2; have cX_2_0 : _ = some (Value.bool s) := X_2.cell 0; have cX_2_1 : _ = some (Value.slice a1 n1 c1) := X_2.cell 1; have cX_2_2 : _ = some (Value.slice b1 m1 d1) := X_2.cell 2; have Y_2 := Y_1.next hB_2; have cY_2_0 : _ = some (Value.bool t) := Y_2.cell 0; have cY_2_1 : _ = some (Value.slice a2 n2 c2) := Y_2.cell 1; have cY_2_2 : _ = some (Value.slice b2 m2 d2) := Y_2.cell 2; have hz1_2 := hz1_1.below hB_2; have hz2_2 := hz2_1.below hB_2; have hd1_2 := hd1_1.below hB_2; have hd2_2 := hd2_1.below hB_2; have U_2 := U_1.below hB_2; have hbel_2 := hbel_1.next hB_2; have hsz_2 := hB_2.size; clear X_1 cX_1_0 cX_1_1 cX_1_2 Y_1 cY_1_0 cY_1_1 cY_1_2 hz1_1 hz2_1 hd1_1 hd2_1 U_1 hbel_1 hB_2; try clear hB)))
      | (go_at_call 114; ((with_reducible refine (rzmulR (hz1_2.below bl) (U_2.below bl).toI (by omega) (by omega)).mono ?_); (rintro e w3 ⟨pa, pn, pc, rfl, hO, hB⟩; have hB_3 : Below w2.heap.size w2 w3 := (bl.next hB); have X_3 := X_2.next hB_3; have cX_3_0 : _ = some (Value.bool s) := X_3.cell 0; have cX_3_1 : _ = some (Value.slice a1 n1 c1) := X_3.cell 1; have cX_3_2 : _ = some (Value.slice b1 m1 d1) := X_3.cell 2; have Y_3 := Y_2.next hB_3; have cY_3_0 : _ = some (Value.bool t) := Y_3.cell 0; have cY_3_1 : _ = some (Value.slice a2 n2 c2) := Y_3.cell 1; have cY_3_2 : _ = some (Value.slice b2 m2 d2) := Y_3.cell 2; have hz1_3 := hz1_2.below hB_3; have hz2_3 := hz2_2.below hB_3; have hd1_3 := hd1_2.below hB_3; have hd2_3 := hd2_2.below hB_3; have U_3 := U_2.below hB_3; have hbel_3 := hbel_2.next hB_3; have hsz_3 := hB_3.size; clear X_2 cX_2_0 cX_2_1 cX_2_2 Y_2 cY_2_0 cY_2_1 cY_2_2 hz1_2 hz2_2 hd1_2 hd2_2 U_2 hbel_2 hB_3; have P_3 := hO.rdZ s12.out; clear hO; try clear hB)))
      | (go_at_call 89; ((with_reducible refine (HU1.out _ (hd1_3.below bl)).mono ?_); (rintro e w4 ⟨va, vn, vc, rfl, hO, hB⟩; have hB_4 : Below w3.heap.size w3 w4 := (bl.next hB); have X_4 := X_3.next hB_4; have cX_4_0 : _ = some (Value.bool s) := X_4.cell 0; have cX_4_1 : _ = some (Value.slice a1 n1 c1) := X_4.cell 1; have cX_4_2 : _ = some (Value.slice b1 m1 d1) := X_4.cell 2; have Y_4 := Y_3.next hB_4; have cY_4_0 : _ = some (Value.bool t) := Y_4.cell 0; have cY_4_1 : _ = some (Value.slice a2 n2 c2) := Y_4.cell 1; have cY_4_2 : _ = some (Value.slice b2 m2 d2) := Y_4.cell 2; have hz1_4 := hz1_3.below hB_4; have hz2_4 := hz2_3.below hB_4; have hd1_4 := hd1_3.below hB_4; have hd2_4 := hd2_3.below hB_4; have U_4 := U_3.below hB_4; have P_4 := P_3.below hB_4; have hbel_4 := hbel_3.next hB_4; have hsz_4 := hB_4.size; clear X_3 cX_3_0 cX_3_1 cX_3_2 Y_3 cY_3_0 cY_3_1 cY_3_2 hz1_3 hz2_3 hd1_3 hd2_3 U_3 P_3 hbel_3 hB_4; have V_4 := hO.rdN sd1.out; clear hO; try clear hB)))
      | (go_at_call 100; ((with_reducible refine (rwhole_any).mono ?_); (rintro e w5 ⟨rfl, hB⟩; have hB_5 : Below w4.heap.size w4 w5 := (bl.next hB); have X_5 := X_4.next hB_5; have cX_5_0 : _ = some (Value.bool s) := X_5.cell 0; have cX_5_1 : _ = some (Value.slice a1 n1 c1) := X_5.cell 1; have cX_5_2 : _ = some (Value.slice b1 m1 d1) := X_5.cell 2; have Y_5 := Y_4.next hB_5; have cY_5_0 : _ = some (Value.bool t) := Y_5.cell 0; have cY_5_1 : _ = some (Value.slice a2 n2 c2) := Y_5.cell 1; have cY_5_2 : _ = some (Value.slice b2 m2 d2) := Y_5.cell 2; have hz1_5 := hz1_4.below hB_5; have hz2_5 := hz2_4.below hB_5; have hd1_5 := hd1_4.below hB_5; have hd2_5 := hd2_4.below hB_5; have U_5 := U_4.below hB_5; have P_5 := P_4.below hB_5; have V_5 := V_4.below hB_5; have hbel_5 := hbel_4.next hB_5; have hsz_5 := hB_5.size; clear X_4 cX_4_0 cX_4_1 cX_4_2 Y_4 cY_4_0 cY_4_1 cY_4_2 hz1_4 hz2_4 hd1_4 hd2_4 U_4 P_4 V_4 hbel_4 hB_5; try clear hB)))
      | (go_at_call 114; ((with_reducible refine (rzmulR (hz2_5.below bl) (V_5.below bl).toI (by omega) (by omega)).mono ?_); (rintro e w6 ⟨qa, qn, qc, rfl, hO, hB⟩; have hB_6 : Below w5.heap.size w5 w6 := (bl.next hB); have X_6 := X_5.next hB_6; have cX_6_0 : _ = some (Value.bool s) := X_6.cell 0; have cX_6_1 : _ = some (Value.slice a1 n1 c1) := X_6.cell 1; have cX_6_2 : _ = some (Value.slice b1 m1 d1) := X_6.cell 2; have Y_6 := Y_5.next hB_6; have cY_6_0 : _ = some (Value.bool t) := Y_6.cell 0; have cY_6_1 : _ = some (Value.slice a2 n2 c2) := Y_6.cell 1; have cY_6_2 : _ = some (Value.slice b2 m2 d2) := Y_6.cell 2; have hz1_6 := hz1_5.below hB_6; have hz2_6 := hz2_5.below hB_6; have hd1_6 := hd1_5.below hB_6; have hd2_6 := hd2_5.below hB_6; have U_6 := U_5.below hB_6; have P_6 := P_5.below hB_6; have V_6 := V_5.below hB_6; have hbel_6 := hbel_5.next hB_6; have hsz_6 := hB_6.size; clear X_5 cX_5_0 cX_5_1 cX_5_2 Y_5 cY_5_0 cY_5_1 cY_5_2 hz1_5 hz2_5 hd1_5 hd2_5 U_5 P_5 V_5 hbel_5 hB_6; have Q_6 := hO.rdZ s21.out; clear hO; try clear hB)))
      | (go_at_call 113; ((with_reducible refine (rzcmpR (P_6.below bl) (Q_6.below bl) (by omega) (by omega)).mono ?_); (rintro e w7 ⟨rfl, hB⟩; have hB_7 : Below w6.heap.size w6 w7 := (bl.next hB); have X_7 := X_6.next hB_7; have cX_7_0 : _ = some (Value.bool s) := X_7.cell 0; have cX_7_1 : _ = some (Value.slice a1 n1 c1) := X_7.cell 1; have cX_7_2 : _ = some (Value.slice b1 m1 d1) := X_7.cell 2; have Y_7 := Y_6.next hB_7; have cY_7_0 : _ = some (Value.bool t) := Y_7.cell 0; have cY_7_1 : _ = some (Value.slice a2 n2 c2) := Y_7.cell 1; have cY_7_2 : _ = some (Value.slice b2 m2 d2) := Y_7.cell 2; have hz1_7 := hz1_6.below hB_7; have hz2_7 := hz2_6.below hB_7; have hd1_7 := hd1_6.below hB_7; have hd2_7 := hd2_6.below hB_7; have U_7 := U_6.below hB_7; have P_7 := P_6.below hB_7; have V_7 := V_6.below hB_7; have Q_7 := Q_6.below hB_7; have hbel_7 := hbel_6.next hB_7; have hsz_7 := hB_7.size; clear X_6 cX_6_0 cX_6_1 cX_6_2 Y_6 cY_6_0 cY_6_1 cY_6_2 hz1_6 hz2_6 hd1_6 hd2_6 U_6 P_6 V_6 Q_6 hbel_6 hB_7; try clear hB))))
  go_wp2
  go_ret
  exact ⟨rfl, hbel_7⟩

/-- slot s holds a new block with a fraction of the sign t, the size v (the call's own) and the limbs that lie at b -/
def BoxO (w0 : World) (t : Bool) (v : Nat) (b : Option Addr) (m d : Nat) (s : Value) (wx : World) : Prop :=
  ∃ g qa qn qc, s = .pointer (some ⟨g, 0, none⟩) ∧ Blk wx g #[.bool t, .slice qa qn qc, .slice b m d] ∧ w0.heap.size ≤ g ∧ Own w0.heap.size wx qa qn qc (lm v) ∧ Below w0.heap.size w0 wx
theorem boxO_set {w0 w5 : World} {t : Bool} {v : Nat} {g B : Nat} {qa b : Option Addr} {qn qc m d : Nat} (A : Blk w5 g #[.bool false, .slice none 0 0, .slice none 0 0]) (hO : Own B w5 qa qn qc (lm v)) (hg : w0.heap.size ≤ g) (hgB : g < B) (hB : Below w0.heap.size w0 w5) :
    BoxO w0 t v b m d (.pointer (some ⟨g, 0, none⟩)) (((w5.setCell ⟨g, 0, none⟩ (.bool t)).setCell ⟨g, 1, none⟩ (.slice qa qn qc)).setCell ⟨g, 2, none⟩ (.slice b m d)) :=
  ⟨g, qa, qn, qc, rfl, (show Blk _ _ #[_, _, _] from ((A.setCell (i := 0) (v := .bool t) (by simp)).setCell (i := 1) (v := .slice qa qn qc) (by simp)).setCell (i := 2) (v := .slice b m d) (by simp)), hg, (hO.set3 hgB _ _ _).mono (by omega), Below.set3 hB hg _ _ _⟩
theorem boxO_new {w0 w5 : World} {t : Bool} {v : Nat} {B : Nat} {qa b : Option Addr} {qn qc m d : Nat} {T : TypeId} (hO : Own B w5 qa qn qc (lm v)) (hgB : w0.heap.size ≤ B) (hB : Below w0.heap.size w0 w5) :
    BoxO w0 t v b m d (.pointer (some ⟨w5.heap.size, 0, none⟩)) (w5.alloc (.cells #[.bool t, .slice qa qn qc, .slice b m d] T)) :=
  ⟨_, qa, qn, qc, rfl, blk_new _ _ _, hB.size, (hO.alloc _).mono hgB, hB.alloc hB.size _⟩
theorem qv_inv (t : Bool) {u v : Nat} (hu : u ≠ 0) : qv t (und v) u = (qv t u v)⁻¹ := by
  unfold qv
  rw [und_of hu, ← Rat.divInt_ofNat, ← Rat.divInt_ofNat, Rat.inv_divInt]
  cases t
  · rfl
  · rw [show zv true u = -(u : Int) by simp [zv], show zv true (und v) = -((und v : Nat) : Int) by simp [zv], Rat.divInt_neg']

set_option maxRecDepth 100000 in
set_option maxHeartbeats 4000000 in
theorem rqdiv0 {w : World} {a1 b1 : Option Addr} {n1 c1 m1 d1 : Nat} {s : Bool} {x : Rat} {a2 b2 : Option Addr} {n2 c2 m2 d2 : Nat} {t : Bool} {y : Rat} {J K : Nat} (hx : RdQ J w s a1 n1 c1 b1 m1 d1 x) (hJ : J ≤ 900000) (hy : RdQ K w t a2 n2 c2 b2 m2 d2 y) (hK : K ≤ 900000) (hv : y = 0) :
    Calls Tryz.prog 52 #[.agg #[.bool s, .slice a1 n1 c1, .slice b1 m1 d1], .agg #[.bool t, .slice a2 n2 c2, .slice b2 m2 d2]] w (RetQE w (x / y) (qE y)) := by
  rw [qE_zero hv]
  have hs := hid (show sgnQ y = 0 by rw [hv]; rfl)
  clear hv hx
  have hent := ent3 w #[Value.bool s, Value.slice a1 n1 c1, Value.slice b1 m1 d1] #[Value.bool t, Value.slice a2 n2 c2, Value.slice b2 m2 d2] #[Value.bool false, Value.slice none 0 0, Value.slice none 0 0] 39 39 39
  go_enter Tryz.func52, Tryz.ntmps52
  go_wp2_with fail
  generalize (((w.alloc (.cells #[Value.bool s, Value.slice a1 n1 c1, Value.slice b1 m1 d1] 39)).alloc (.cells #[Value.bool t, Value.slice a2 n2 c2, Value.slice b2 m2 d2] 39)).alloc (.cells #[Value.bool false, Value.slice none 0 0, Value.slice none 0 0] 39)) = W0 at hent ⊢
  obtain ⟨X_0, Y_0, R0_0, hbel_0, hsz_0⟩ := hent
  have cX_0_0 : _ = some (Value.bool s) := X_0.cell 0
  have cX_0_1 : _ = some (Value.slice a1 n1 c1) := X_0.cell 1
  have cX_0_2 : _ = some (Value.slice b1 m1 d1) := X_0.cell 2
  have cY_0_0 : _ = some (Value.bool t) := Y_0.cell 0
  have cY_0_1 : _ = some (Value.slice a2 n2 c2) := Y_0.cell 1
  have cY_0_2 : _ = some (Value.slice b2 m2 d2) := Y_0.cell 2
  have cR0_0_0 : _ = some (Value.bool false) := R0_0.cell 0
  have fR0_0_0 := R0_0.free 0
  have cR0_0_1 : _ = some (Value.slice none 0 0) := R0_0.cell 1
  have fR0_0_1 := R0_0.free 1
  have cR0_0_2 : _ = some (Value.slice none 0 0) := R0_0.cell 2
  have fR0_0_2 := R0_0.free 2
  have hy_0 := hy.below hbel_0
  clear hy
  go_wp2_with fail
  refine (rqsign hy_0 (by omega)).mono ?_
  rw [hs.out]
  rintro e w1 ⟨rfl, hB⟩
  have hB_1 : Below W0.heap.size W0 w1 := (bl.next hB)
  have X_1 := X_0.next hB_1
  have cX_1_0 : _ = some (Value.bool s) := X_1.cell 0
  have cX_1_1 : _ = some (Value.slice a1 n1 c1) := X_1.cell 1
  have cX_1_2 : _ = some (Value.slice b1 m1 d1) := X_1.cell 2
  have Y_1 := Y_0.next hB_1
  have cY_1_0 : _ = some (Value.bool t) := Y_1.cell 0
  have cY_1_1 : _ = some (Value.slice a2 n2 c2) := Y_1.cell 1
  have cY_1_2 : _ = some (Value.slice b2 m2 d2) := Y_1.cell 2
  have R0_1 := R0_0.next hB_1
  have cR0_1_0 : _ = some (Value.bool false) := R0_1.cell 0
  have fR0_1_0 := R0_1.free 0
  have cR0_1_1 : _ = some (Value.slice none 0 0) := R0_1.cell 1
  have fR0_1_1 := R0_1.free 1
  have cR0_1_2 : _ = some (Value.slice none 0 0) := R0_1.cell 2
  have fR0_1_2 := R0_1.free 2
  have hy_1 := hy_0.below hB_1
  have hbel_1 := hbel_0.next hB_1
  have hsz_1 := hB_1.size
  clear X_0 cX_0_0 cX_0_1 cX_0_2 Y_0 cY_0_0 cY_0_1 cY_0_2 R0_0 cR0_0_0 fR0_0_0 cR0_0_1 fR0_0_1 cR0_0_2 fR0_0_2 hy_0 hbel_0 hB_1
  try clear hB
  go_wp2
  refine bodyPost_ret (v := .tuple #[.agg #[.bool false, .slice none 0 0, .slice none 0 0], .int .i64 11]) (by simp [results, Tryz.results52, go_sem, cR0_1_0, cR0_1_1, cR0_1_2]) rfl ?_
  exact retqe_nil (by decide) hbel_1 (by omega)

set_option maxRecDepth 100000 in
set_option maxHeartbeats 4000000 in
theorem rqdiv1 {w : World} {a1 b1 : Option Addr} {n1 c1 m1 d1 : Nat} {s : Bool} {x : Rat} {a2 b2 : Option Addr} {n2 c2 m2 d2 : Nat} {t : Bool} {y : Rat} {J K : Nat} (hx : RdQ J w s a1 n1 c1 b1 m1 d1 x) (hJ : J ≤ 900000) (hy : RdQ K w t a2 n2 c2 b2 m2 d2 y) (hK : K ≤ 900000) (hv : y ≠ 0) :
    Calls Tryz.prog 52 #[.agg #[.bool s, .slice a1 n1 c1, .slice b1 m1 d1], .agg #[.bool t, .slice a2 n2 c2, .slice b2 m2 d2]] w (RetQE w (x / y) (qE y)) := by
  rw [qE_pos hv]
  have hs : (sgnQ y == (0 : Int)) = false := by rcases sgnQ_cases y with ⟨_, e⟩ | ⟨h, _⟩ | ⟨_, e⟩ <;> first | (rw [e]; rfl) | exact absurd h hv
  have hy0 := hy
  obtain ⟨u2, v2, h2, hd2, hyq⟩ := hy
  have hv2 : u2 ≠ 0 := fun e => hv (by rw [← hyq, e]; unfold qv; rw [zv_zero t rfl]; exact Rat.zero_mkRat _)
  have hq := hid (show x * qv t (und v2) u2 = x / y by rw [qv_inv t hv2, hyq, Rat.div_def])
  have sd2 := hid (sz_und (hd2.sz.mono (Nat.le_refl _) (Nat.le_succ K)) (by omega))
  clear hv hyq hv2
  have HU2 := hid (fun W (h : RdN K W b2 m2 d2 v2) => rqden (w := W) (s := t) (a := a2) (n := n2) (c := c2) (h.mono (show _ ≤ 4194304 by omega)))
  generalize hD2 : und v2 = e2 at *
  clear hD2
  have hent := ent3 w #[Value.bool s, Value.slice a1 n1 c1, Value.slice b1 m1 d1] #[Value.bool t, Value.slice a2 n2 c2, Value.slice b2 m2 d2] #[Value.bool false, Value.slice none 0 0, Value.slice none 0 0] 39 39 39
  go_enter Tryz.func52, Tryz.ntmps52
  go_wp2_with fail
  generalize (((w.alloc (.cells #[Value.bool s, Value.slice a1 n1 c1, Value.slice b1 m1 d1] 39)).alloc (.cells #[Value.bool t, Value.slice a2 n2 c2, Value.slice b2 m2 d2] 39)).alloc (.cells #[Value.bool false, Value.slice none 0 0, Value.slice none 0 0] 39)) = W0 at hent ⊢
  obtain ⟨X_0, Y_0, R0_0, hbel_0, hsz_0⟩ := hent
  have cX_0_0 : _ = some (Value.bool s) := X_0.cell 0
  have cX_0_1 : _ = some (Value.slice a1 n1 c1) := X_0.cell 1
  have cX_0_2 : _ = some (Value.slice b1 m1 d1) := X_0.cell 2
  have cY_0_0 : _ = some (Value.bool t) := Y_0.cell 0
  have cY_0_1 : _ = some (Value.slice a2 n2 c2) := Y_0.cell 1
  have cY_0_2 : _ = some (Value.slice b2 m2 d2) := Y_0.cell 2
  have cR0_0_0 : _ = some (Value.bool false) := R0_0.cell 0
  have fR0_0_0 := R0_0.free 0
  have cR0_0_1 : _ = some (Value.slice none 0 0) := R0_0.cell 1
  have fR0_0_1 := R0_0.free 1
  have cR0_0_2 : _ = some (Value.slice none 0 0) := R0_0.cell 2
  have fR0_0_2 := R0_0.free 2
  have hx_0 := hx.below hbel_0
  clear hx
  have hy0_0 := hy0.below hbel_0
  clear hy0
  have h2_0 := h2.below hbel_0
  clear h2
  have hd2_0 := hd2.below hbel_0
  clear hd2
  go_wp2_with fail
  refine (rqsign hy0_0 (by omega)).mono ?_
  rintro e w1 ⟨rfl, hB⟩
  have hB_1 : Below W0.heap.size W0 w1 := (bl.next hB)
  have X_1 := X_0.next hB_1
  have cX_1_0 : _ = some (Value.bool s) := X_1.cell 0
  have cX_1_1 : _ = some (Value.slice a1 n1 c1) := X_1.cell 1
  have cX_1_2 : _ = some (Value.slice b1 m1 d1) := X_1.cell 2
  have Y_1 := Y_0.next hB_1
  have cY_1_0 : _ = some (Value.bool t) := Y_1.cell 0
  have cY_1_1 : _ = some (Value.slice a2 n2 c2) := Y_1.cell 1
  have cY_1_2 : _ = some (Value.slice b2 m2 d2) := Y_1.cell 2
  have R0_1 := R0_0.next hB_1
  have cR0_1_0 : _ = some (Value.bool false) := R0_1.cell 0
  have fR0_1_0 := R0_1.free 0
  have cR0_1_1 : _ = some (Value.slice none 0 0) := R0_1.cell 1
  have fR0_1_1 := R0_1.free 1
  have cR0_1_2 : _ = some (Value.slice none 0 0) := R0_1.cell 2
  have fR0_1_2 := R0_1.free 2
  have hx_1 := hx_0.below hB_1
  have hy0_1 := hy0_0.below hB_1
  have h2_1 := h2_0.below hB_1
  have hd2_1 := hd2_0.below hB_1
  have hbel_1 := hbel_0.next hB_1
  have hsz_1 := hB_1.size
  clear X_0 cX_0_0 cX_0_1 cX_0_2 Y_0 cY_0_0 cY_0_1 cY_0_2 R0_0 cR0_0_0 fR0_0_0 cR0_0_1 fR0_0_1 cR0_0_2 fR0_0_2 hx_0 hy0_0 h2_0 hd2_0 hbel_0 hB_1
  try clear hB
  go_wp2_with fail
  go_cut [6] (fun s6 wx => BoxO w1 t e2 a2 n2 c2 s6 wx)
  case first =>
    have acc_1 : Below w1.heap.size w1 w1 := Below.refl _ _
    go_wp2_with fail
    go_region_held3 (fun w' => w'.cell? ⟨w.heap.size, 0, none⟩ = some (Value.bool s) ∧ w'.cell? ⟨w.heap.size, 1, none⟩ = some (Value.slice a1 n1 c1) ∧ w'.cell? ⟨w.heap.size, 2, none⟩ = some (Value.slice b1 m1 d1) ∧ w'.cell? ⟨w.heap.size + 1, 0, none⟩ = some (Value.bool t) ∧ w'.cell? ⟨w.heap.size + 1, 1, none⟩ = some (Value.slice a2 n2 c2) ∧ w'.cell? ⟨w.heap.size + 1, 2, none⟩ = some (Value.slice b2 m2 d2))
      (first | exact ⟨cX_1_0, cX_1_1, cX_1_2, cY_1_0, cY_1_1, cY_1_2⟩ | exact ⟨cX_2_0, cX_2_1, cX_2_2, cY_2_0, cY_2_1, cY_2_2⟩ | exact ⟨(cell_set3 (by omega) _ _ _).trans (cX_2_0), (cell_set3 (by omega) _ _ _).trans (cX_2_1), (cell_set3 (by omega) _ _ _).trans (cX_2_2), (cell_set3 (by omega) _ _ _).trans (cY_2_0), (cell_set3 (by omega) _ _ _).trans (cY_2_1), (cell_set3 (by omega) _ _ _).trans (cY_2_2)⟩ | exact ⟨(X_1.alloc _).cell 0, (X_1.alloc _).cell 1, (X_1.alloc _).cell 2, (Y_1.alloc _).cell 0, (Y_1.alloc _).cell 1, (Y_1.alloc _).cell 2⟩ | exact ⟨(X_2.alloc _).cell 0, (X_2.alloc _).cell 1, (X_2.alloc _).cell 2, (Y_2.alloc _).cell 0, (Y_2.alloc _).cell 1, (Y_2.alloc _).cell 2⟩ | go_keep)
      (first
        | (go_at_call 89; ((with_reducible refine (HU2.out _ (hd2_1.below bl)).mono ?_); (rintro e w2 ⟨va, vn, vc, rfl, hO, hB⟩; have hB_2 : Below w1.heap.size w1 w2 := (bl.next hB); have X_2 := X_1.next hB_2; have cX_2_0 : _ = some (Value.bool s) := X_2.cell 0; have cX_2_1 : _ = some (Value.slice a1 n1 c1) := X_2.cell 1; have cX_2_2 : _ = some (Value.slice b1 m1 d1) := X_2.cell 2; have Y_2 := Y_1.next hB_2; have cY_2_0 : _ = some (Value.bool t) := Y_2.cell 0; have cY_2_1 : _ = some (Value.slice a2 n2 c2) := Y_2.cell 1; have cY_2_2 : _ = some (Value.slice b2 m2 d2) := Y_2.cell 2; have R0_2 := R0_1.next hB_2; have cR0_2_0 : _ = some (Value.bool false) := R0_2.cell 0; have fR0_2_0 := R0_2.free 0; have cR0_2_1 : _ = some (Value.slice none 0 0) := R0_2.cell 1; have fR0_2_1 := R0_2.free 1; have cR0_2_2 : _ = some (Value.slice none 0 0) := R0_2.cell 2; have fR0_2_2 := R0_2.free 2; have hx_2 := hx_1.below hB_2; have hy0_2 := hy0_1.below hB_2; have h2_2 := h2_1.below hB_2; have hd2_2 := hd2_1.below hB_2; have hbel_2 := hbel_1.next hB_2; have hsz_2 := hB_2.size; clear X_1 cX_1_0 cX_1_1 cX_1_2 Y_1 cY_1_0 cY_1_1 cY_1_2 R0_1 cR0_1_0 fR0_1_0 cR0_1_1 fR0_1_1 cR0_1_2 fR0_1_2 hx_1 hy0_1 h2_1 hd2_1 hbel_1 hB_2; have acc_2 := acc_1.next (show Below _ _ _ from (bl.next hB)); (first | (have A := (blk_new' _ #[Value.bool false, Value.slice none 0 0, Value.slice none 0 0] 39 (g := w1.heap.size) rfl).next (by first | exact hB | exact below_drew hB); have ltA := A.lt; have cA0 : _ = some (Value.bool false) := A.cell 0; have fA0 := A.free 0; have cA1 : _ = some (Value.slice none 0 0) := A.cell 1; have fA1 := A.free 1; have cA2 : _ = some (Value.slice none 0 0) := A.cell 2; have fA2 := A.free 2) | skip); try clear hB))))
    all_goals (go_wp2_with fail; go_meet; first | exact boxO_new hO (by first | omega | (simp; omega) | simp) acc_2 | exact boxO_set A hO (by first | omega | (simp; omega) | simp) (by first | omega | (simp; omega) | simp) acc_2)
  case rest =>
    obtain ⟨gS, Sa, Sn, Sc, rfl, hbk, hgeS, hO, hBc⟩ := hcut
    have hB_2 : Below w1.heap.size w1 wc := hBc
    have X_2 := X_1.next hB_2
    have cX_2_0 : _ = some (Value.bool s) := X_2.cell 0
    have cX_2_1 : _ = some (Value.slice a1 n1 c1) := X_2.cell 1
    have cX_2_2 : _ = some (Value.slice b1 m1 d1) := X_2.cell 2
    have Y_2 := Y_1.next hB_2
    have cY_2_0 : _ = some (Value.bool t) := Y_2.cell 0
    have cY_2_1 : _ = some (Value.slice a2 n2 c2) := Y_2.cell 1
    have cY_2_2 : _ = some (Value.slice b2 m2 d2) := Y_2.cell 2
    have R0_2 := R0_1.next hB_2
    have cR0_2_0 : _ = some (Value.bool false) := R0_2.cell 0
    have fR0_2_0 := R0_2.free 0
    have cR0_2_1 : _ = some (Value.slice none 0 0) := R0_2.cell 1
    have fR0_2_1 := R0_2.free 1
    have cR0_2_2 : _ = some (Value.slice none 0 0) := R0_2.cell 2
    have fR0_2_2 := R0_2.free 2
    have hx_2 := hx_1.below hB_2
    have hy0_2 := hy0_1.below hB_2
    have h2_2 := h2_1.below hB_2
    have hd2_2 := hd2_1.below hB_2
    have hbel_2 := hbel_1.next hB_2
    have hsz_2 := hB_2.size
    clear X_1 cX_1_0 cX_1_1 cX_1_2 Y_1 cY_1_0 cY_1_1 cY_1_2 R0_1 cR0_1_0 fR0_1_0 cR0_1_1 fR0_1_1 cR0_1_2 fR0_1_2 hx_1 hy0_1 h2_1 hd2_1 hbel_1 hB_2
    clear hBc
    obtain ⟨wc2, hwc⟩ : ∃ y : World, y = wc := ⟨_, rfl⟩
    subst hwc
    have S_2 := hbk
    have hltS := hbk.lt
    clear hbk
    have cS_2_0 : _ = some (Value.bool t) := S_2.cell 0
    have cS_2_1 : _ = some (Value.slice Sa Sn Sc) := S_2.cell 1
    have cS_2_2 : _ = some (Value.slice a2 n2 c2) := S_2.cell 2
    have OV_2 := (⟨_, _, hO.rdN sd2.out, h2_2.mono (Nat.le_succ K), rfl⟩ : ∃ v u, RdN (K + 1) wc2 Sa Sn Sc v ∧ RdN (K + 1) wc2 a2 n2 c2 u ∧ qv t v u = qv t e2 u2)
    have OW_2 : RdQ (K + 1) wc2 t Sa Sn Sc a2 n2 c2 (qv t e2 u2) := OV_2
    clear OV_2
    clear hO
    go_wp2_with fail
    refine (rqmul hx_2 (by omega) OW_2 (by omega)).mono ?_
    rw [hq.out]
    rintro e w3 ⟨qa, qn, qc, da, dn, dc, rfl, hO, hO', hD, hB⟩
    have hB_3 : Below wc2.heap.size wc2 w3 := (bl.next hB)
    have X_3 := X_2.next hB_3
    have cX_3_0 : _ = some (Value.bool s) := X_3.cell 0
    have cX_3_1 : _ = some (Value.slice a1 n1 c1) := X_3.cell 1
    have cX_3_2 : _ = some (Value.slice b1 m1 d1) := X_3.cell 2
    have Y_3 := Y_2.next hB_3
    have cY_3_0 : _ = some (Value.bool t) := Y_3.cell 0
    have cY_3_1 : _ = some (Value.slice a2 n2 c2) := Y_3.cell 1
    have cY_3_2 : _ = some (Value.slice b2 m2 d2) := Y_3.cell 2
    have R0_3 := R0_2.next hB_3
    have cR0_3_0 : _ = some (Value.bool false) := R0_3.cell 0
    have fR0_3_0 := R0_3.free 0
    have cR0_3_1 : _ = some (Value.slice none 0 0) := R0_3.cell 1
    have fR0_3_1 := R0_3.free 1
    have cR0_3_2 : _ = some (Value.slice none 0 0) := R0_3.cell 2
    have fR0_3_2 := R0_3.free 2
    have S_3 := S_2.next hB_3
    have cS_3_0 : _ = some (Value.bool t) := S_3.cell 0
    have cS_3_1 : _ = some (Value.slice Sa Sn Sc) := S_3.cell 1
    have cS_3_2 : _ = some (Value.slice a2 n2 c2) := S_3.cell 2
    have hx_3 := hx_2.below hB_3
    have hy0_3 := hy0_2.below hB_3
    have h2_3 := h2_2.below hB_3
    have hd2_3 := hd2_2.below hB_3
    have OW_3 := OW_2.below hB_3
    have hbel_3 := hbel_2.next hB_3
    have hsz_3 := hB_3.size
    clear X_2 cX_2_0 cX_2_1 cX_2_2 Y_2 cY_2_0 cY_2_1 cY_2_2 R0_2 cR0_2_0 fR0_2_0 cR0_2_1 fR0_2_1 cR0_2_2 fR0_2_2 S_2 cS_2_0 cS_2_1 cS_2_2 hx_2 hy0_2 h2_2 hd2_2 OW_2 hbel_2 hB_3
    have OQ_3 := hO
    have ltOQ := hO.ltB
    have OD_3 := hO'
    have ltOD := hO'.ltB
    clear hO hO'
    try clear hB
    go_wp2
    refine bodyPost_ret (v := .tuple #[.agg #[.bool (decide ((x / y).num < 0)), .slice qa qn qc, .slice da dn dc], .int .i64 0]) (by simp [results, Tryz.results52, go_sem, cR0_3_0, cR0_3_1, cR0_3_2]) rfl ?_
    exact retqe_set (er := 0) OQ_3 OD_3 hD hbel_3 (by omega) (by omega)

theorem rqdiv {w : World} {a1 b1 : Option Addr} {n1 c1 m1 d1 : Nat} {s : Bool} {x : Rat} {a2 b2 : Option Addr} {n2 c2 m2 d2 : Nat} {t : Bool} {y : Rat} {J K : Nat} (hx : RdQ J w s a1 n1 c1 b1 m1 d1 x) (hJ : J ≤ 900000) (hy : RdQ K w t a2 n2 c2 b2 m2 d2 y) (hK : K ≤ 900000) : Calls Tryz.prog 52 #[.agg #[.bool s, .slice a1 n1 c1, .slice b1 m1 d1], .agg #[.bool t, .slice a2 n2 c2, .slice b2 m2 d2]] w (RetQE w (x / y) (qE y)) := by
  by_cases h : y = 0
  · exact rqdiv0 hx (by omega) hy (by omega) h
  · exact rqdiv1 hx (by omega) hy (by omega) h

end Go.Proofs.YtokkfppchfmjcaaGreat
