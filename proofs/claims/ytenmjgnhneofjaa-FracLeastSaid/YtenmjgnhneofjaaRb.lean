/- WALKS OF FRACTIONS, 20: the simplest between two. -/
import Derived.Test.YtenmjgnhneofjaaQu
import Derived.Test.YtenmjgnhneofjaaPs
namespace Go.Proofs.Ytenmjgnhneofjaa
set_option linter.unusedVariables false
set_option linter.unusedSimpArgs false
open Go.ChangeShapes Go.WideShapes Go.ChangeAt Go.RowKit Go.NatP

theorem qv_int (z : Int) : qv (decide (z < 0)) z.natAbs 1 = (z : Rat) := by
  unfold qv
  rw [zv_self, und_of (by decide), Rat.mkRat_one]
theorem rdq_int {J B B' : Nat} {W : World} {a b : Option Addr} {n c m d : Nat} {z : Int} (h : Own B W a n c (lm z.natAbs)) (h' : Own B' W b m d (lm 1)) (hs : Sz z.natAbs J) (hJ : 1 ≤ J) : RdQ J W (decide (z < 0)) a n c b m d (z : Rat) :=
  ⟨_, _, h.rdN hs, h'.rdN (sz_one hJ), qv_int z⟩
theorem rdq_one {B B' : Nat} {W : World} {a b : Option Addr} {n c m d : Nat} (h : Own B W a n c (lm 1)) (h' : Own B' W b m d (lm 1)) : RdQ 1 W false a n c b m d 1 :=
  ⟨_, _, h.rdN (sz_one (by decide)), h'.rdN (sz_one (by decide)), qv_int 1⟩
theorem zone_any {w : World} : Calls Try.prog 36 #[.int .i64 1] w (fun e w' => ∃ a n c, e = .returned (.agg #[.bool false, .slice a n c]) ∧ Own w.heap.size w' a n c (lm 1) ∧ Below w.heap.size w w') :=
  zofi_any 1 (by omega) (by omega)
theorem retqe_k (w : World) {q : Rat} {er : Int} (h : er = 0) : RetQE w q er = RetQK w q := by rw [h]; rfl
structure BtwC (J k : Nat) : Prop where
  go : ∀ {w : World} {a1 b1 : Option Addr} {n1 c1 m1 d1 : Nat} {s : Bool} {x : Rat} {a2 b2 : Option Addr} {n2 c2 m2 d2 : Nat} {t : Bool} {y : Rat},
    SmpIn x y → x.den + y.den ≤ k → RdQ J w s a1 n1 c1 b1 m1 d1 x → RdQ J w t a2 n2 c2 b2 m2 d2 y → Calls Try.prog 97 #[.agg #[.bool s, .slice a1 n1 c1, .slice b1 m1 d1], .agg #[.bool t, .slice a2 n2 c2, .slice b2 m2 d2]] w (RetQ w (smp k x y))

set_option maxRecDepth 100000 in
set_option maxHeartbeats 40000000 in
theorem qbtw1 {w : World} {a1 b1 : Option Addr} {n1 c1 m1 d1 : Nat} {s : Bool} {x : Rat} {a2 b2 : Option Addr} {n2 c2 m2 d2 : Nat} {t : Bool} {y : Rat} {J k : Nat} (hJ1 : 1 ≤ J) (hJ : J ≤ 200000) (hin : SmpIn x y) (hx : RdQ J w s a1 n1 c1 b1 m1 d1 x) (hy : RdQ J w t a2 n2 c2 b2 m2 d2 y) (h1 : (x.floor : Rat) = x) :
    Calls Try.prog 97 #[.agg #[.bool s, .slice a1 n1 c1, .slice b1 m1 d1], .agg #[.bool t, .slice a2 n2 c2, .slice b2 m2 d2]] w (RetQ w (smp (k + 1) x y)) := by
  have hqx := hx.qs hJ1
  have hqy := hy.qs hJ1
  have sf : Sz x.floor.natAbs J := (floor_qs hin.pos hJ1 hqx).1
  have hqf := floor_qs hin.pos hJ1 hqx
  rw [smp_succ1 h1]
  have hc := hid (cmpQ_eq h1)
  clear hin h1
  generalize hf0 : x.floor = f at *
  have hf := hid hf0
  clear hf0
  have hsf := hid sf
  clear sf hqf hqx hqy
  have hent := ent3 w #[Value.bool s, Value.slice a1 n1 c1, Value.slice b1 m1 d1] #[Value.bool t, Value.slice a2 n2 c2, Value.slice b2 m2 d2] #[Value.bool false, Value.slice none 0 0, Value.slice none 0 0] 32 32 32
  go_enter Try.func97, Try.ntmps97
  go_wp2_with fail
  generalize (((w.alloc (.cells #[Value.bool s, Value.slice a1 n1 c1, Value.slice b1 m1 d1] 32)).alloc (.cells #[Value.bool t, Value.slice a2 n2 c2, Value.slice b2 m2 d2] 32)).alloc (.cells #[Value.bool false, Value.slice none 0 0, Value.slice none 0 0] 32)) = W0 at hent ⊢
  obtain ⟨X_0, Y_0, R0_0, hbel_0, hsz_0⟩ := hent
  have cX_0_0 : _ = some (Value.bool s) := X_0.cell 0
  have cX_0_1 : _ = some (Value.slice a1 n1 c1) := X_0.cell 1
  have cX_0_2 : _ = some (Value.slice b1 m1 d1) := X_0.cell 2
  have cY_0_0 : _ = some (Value.bool t) := Y_0.cell 0
  have cY_0_1 : _ = some (Value.slice a2 n2 c2) := Y_0.cell 1
  have cY_0_2 : _ = some (Value.slice b2 m2 d2) := Y_0.cell 2
  have cR0_0_0 : _ = some (Value.bool false) := R0_0.cell 0
  have fR0_0_0 := R0_0.free 0
  have cR0_0_1 : _ = some (Value.slice none 0 0) := R0_0.cell 1
  have fR0_0_1 := R0_0.free 1
  have cR0_0_2 : _ = some (Value.slice none 0 0) := R0_0.cell 2
  have fR0_0_2 := R0_0.free 2
  have hx_0 := hx.below hbel_0
  clear hx
  have hy_0 := hy.below hbel_0
  clear hy
  go_wp2_with fail
  refine (zone_any).mono ?_
  rintro e w1 ⟨oa, on, oc, rfl, hO, hB⟩
  have hB_1 : Below W0.heap.size W0 w1 := (by first | exact hB | exact below_drew hB | exact bel_alloc hB | exact below_drew (bel_alloc hB) | exact bel_alloc (below_drew hB) | exact bel_alloc (bel_alloc hB) | exact bel_alloc (bel_alloc (below_drew hB)))
  have X_1 := X_0.next hB_1
  have cX_1_0 : _ = some (Value.bool s) := X_1.cell 0
  have cX_1_1 : _ = some (Value.slice a1 n1 c1) := X_1.cell 1
  have cX_1_2 : _ = some (Value.slice b1 m1 d1) := X_1.cell 2
  have Y_1 := Y_0.next hB_1
  have cY_1_0 : _ = some (Value.bool t) := Y_1.cell 0
  have cY_1_1 : _ = some (Value.slice a2 n2 c2) := Y_1.cell 1
  have cY_1_2 : _ = some (Value.slice b2 m2 d2) := Y_1.cell 2
  have R0_1 := R0_0.next hB_1
  have cR0_1_0 : _ = some (Value.bool false) := R0_1.cell 0
  have fR0_1_0 := R0_1.free 0
  have cR0_1_1 : _ = some (Value.slice none 0 0) := R0_1.cell 1
  have fR0_1_1 := R0_1.free 1
  have cR0_1_2 : _ = some (Value.slice none 0 0) := R0_1.cell 2
  have fR0_1_2 := R0_1.free 2
  have hx_1 := hx_0.below hB_1
  have hy_1 := hy_0.below hB_1
  have hbel_1 := hbel_0.next hB_1
  have hsz_1 := hB_1.size
  clear X_0 cX_0_0 cX_0_1 cX_0_2 Y_0 cY_0_0 cY_0_1 cY_0_2 R0_0 cR0_0_0 fR0_0_0 cR0_0_1 fR0_0_1 cR0_0_2 fR0_0_2 hx_0 hy_0 hbel_0 hB_1
  have Oo_1 := hO
  have ltOo := hO.ltB
  clear hO
  try clear hB
  go_wp2_with fail
  refine (of_any 1 (by omega) (by omega)).mono ?_
  rintro e w2 ⟨ob, om, od, rfl, hO, hB⟩
  have hB_2 : Below w1.heap.size w1 w2 := (by first | exact hB | exact below_drew hB | exact bel_alloc hB | exact below_drew (bel_alloc hB) | exact bel_alloc (below_drew hB) | exact bel_alloc (bel_alloc hB) | exact bel_alloc (bel_alloc (below_drew hB)))
  have X_2 := X_1.next hB_2
  have cX_2_0 : _ = some (Value.bool s) := X_2.cell 0
  have cX_2_1 : _ = some (Value.slice a1 n1 c1) := X_2.cell 1
  have cX_2_2 : _ = some (Value.slice b1 m1 d1) := X_2.cell 2
  have Y_2 := Y_1.next hB_2
  have cY_2_0 : _ = some (Value.bool t) := Y_2.cell 0
  have cY_2_1 : _ = some (Value.slice a2 n2 c2) := Y_2.cell 1
  have cY_2_2 : _ = some (Value.slice b2 m2 d2) := Y_2.cell 2
  have R0_2 := R0_1.next hB_2
  have cR0_2_0 : _ = some (Value.bool false) := R0_2.cell 0
  have fR0_2_0 := R0_2.free 0
  have cR0_2_1 : _ = some (Value.slice none 0 0) := R0_2.cell 1
  have fR0_2_1 := R0_2.free 1
  have cR0_2_2 : _ = some (Value.slice none 0 0) := R0_2.cell 2
  have fR0_2_2 := R0_2.free 2
  have hx_2 := hx_1.below hB_2
  have hy_2 := hy_1.below hB_2
  have Oo_2 := Oo_1.below hB_2
  have hbel_2 := hbel_1.next hB_2
  have hsz_2 := hB_2.size
  clear X_1 cX_1_0 cX_1_1 cX_1_2 Y_1 cY_1_0 cY_1_1 cY_1_2 R0_1 cR0_1_0 fR0_1_0 cR0_1_1 fR0_1_1 cR0_1_2 fR0_1_2 hx_1 hy_1 Oo_1 hbel_1 hB_2
  have Po_2 := hO
  have ltPo := hO.ltB
  clear hO
  try clear hB
  have hbx := blk_new w2 #[Value.bool false, Value.slice oa on oc, Value.slice ob om od] 32
  have hbB := (Below.refl w2.heap.size w2).alloc (Nat.le_refl _) (.cells #[Value.bool false, Value.slice oa on oc, Value.slice ob om od] 32)
  have hltO := hbx.lt
  have hB_3 : Below w2.heap.size w2 (w2.alloc (.cells #[Value.bool false, Value.slice oa on oc, Value.slice ob om od] 32)) := hbB
  have X_3 := X_2.next hB_3
  have cX_3_0 : _ = some (Value.bool s) := X_3.cell 0
  have cX_3_1 : _ = some (Value.slice a1 n1 c1) := X_3.cell 1
  have cX_3_2 : _ = some (Value.slice b1 m1 d1) := X_3.cell 2
  have Y_3 := Y_2.next hB_3
  have cY_3_0 : _ = some (Value.bool t) := Y_3.cell 0
  have cY_3_1 : _ = some (Value.slice a2 n2 c2) := Y_3.cell 1
  have cY_3_2 : _ = some (Value.slice b2 m2 d2) := Y_3.cell 2
  have R0_3 := R0_2.next hB_3
  have cR0_3_0 : _ = some (Value.bool false) := R0_3.cell 0
  have fR0_3_0 := R0_3.free 0
  have cR0_3_1 : _ = some (Value.slice none 0 0) := R0_3.cell 1
  have fR0_3_1 := R0_3.free 1
  have cR0_3_2 : _ = some (Value.slice none 0 0) := R0_3.cell 2
  have fR0_3_2 := R0_3.free 2
  have hx_3 := hx_2.below hB_3
  have hy_3 := hy_2.below hB_3
  have Oo_3 := Oo_2.below hB_3
  have Po_3 := Po_2.below hB_3
  have hbel_3 := hbel_2.next hB_3
  have hsz_3 := hB_3.size
  clear hB_3
  have O_3 := hbx
  clear hbx hbB
  have cO_3_0 : _ = some (Value.bool false) := O_3.cell 0
  have cO_3_1 : _ = some (Value.slice oa on oc) := O_3.cell 1
  have cO_3_2 : _ = some (Value.slice ob om od) := O_3.cell 2
  go_wp2_with fail
  clear X_2 cX_2_0 cX_2_1 cX_2_2 Y_2 cY_2_0 cY_2_1 cY_2_2 R0_2 cR0_2_0 fR0_2_0 cR0_2_1 fR0_2_1 cR0_2_2 fR0_2_2 hx_2 hy_2 Oo_2 Po_2 hbel_2
  generalize (w2.alloc (.cells #[Value.bool false, Value.slice oa on oc, Value.slice ob om od] 32)) = v3 at *
  have QO_3 := rdq_one Oo_3 Po_3
  clear Oo_3
  clear Po_3
  go_wp2_with fail
  refine (qfloor hx_3 (by omega)).mono ?_
  rw [hf.out]
  rintro e w4 ⟨fa, fn, fc, rfl, hO, hB⟩
  have hB_4 : Below v3.heap.size v3 w4 := (by first | exact hB | exact below_drew hB | exact bel_alloc hB | exact below_drew (bel_alloc hB) | exact bel_alloc (below_drew hB) | exact bel_alloc (bel_alloc hB) | exact bel_alloc (bel_alloc (below_drew hB)))
  have X_4 := X_3.next hB_4
  have cX_4_0 : _ = some (Value.bool s) := X_4.cell 0
  have cX_4_1 : _ = some (Value.slice a1 n1 c1) := X_4.cell 1
  have cX_4_2 : _ = some (Value.slice b1 m1 d1) := X_4.cell 2
  have Y_4 := Y_3.next hB_4
  have cY_4_0 : _ = some (Value.bool t) := Y_4.cell 0
  have cY_4_1 : _ = some (Value.slice a2 n2 c2) := Y_4.cell 1
  have cY_4_2 : _ = some (Value.slice b2 m2 d2) := Y_4.cell 2
  have R0_4 := R0_3.next hB_4
  have cR0_4_0 : _ = some (Value.bool false) := R0_4.cell 0
  have fR0_4_0 := R0_4.free 0
  have cR0_4_1 : _ = some (Value.slice none 0 0) := R0_4.cell 1
  have fR0_4_1 := R0_4.free 1
  have cR0_4_2 : _ = some (Value.slice none 0 0) := R0_4.cell 2
  have fR0_4_2 := R0_4.free 2
  have O_4 := O_3.next hB_4
  have cO_4_0 : _ = some (Value.bool false) := O_4.cell 0
  have cO_4_1 : _ = some (Value.slice oa on oc) := O_4.cell 1
  have cO_4_2 : _ = some (Value.slice ob om od) := O_4.cell 2
  have hx_4 := hx_3.below hB_4
  have hy_4 := hy_3.below hB_4
  have QO_4 := QO_3.below hB_4
  have hbel_4 := hbel_3.next hB_4
  have hsz_4 := hB_4.size
  clear X_3 cX_3_0 cX_3_1 cX_3_2 Y_3 cY_3_0 cY_3_1 cY_3_2 R0_3 cR0_3_0 fR0_3_0 cR0_3_1 fR0_3_1 cR0_3_2 fR0_3_2 O_3 cO_3_0 cO_3_1 cO_3_2 hx_3 hy_3 QO_3 hbel_3 hB_4
  have Of_4 := hO
  have ltOf := hO.ltB
  clear hO
  try clear hB
  go_wp2_with fail
  refine (of_any 1 (by omega) (by omega)).mono ?_
  rintro e w5 ⟨fb, fm, fd, rfl, hO, hB⟩
  have hB_5 : Below w4.heap.size w4 w5 := (by first | exact hB | exact below_drew hB | exact bel_alloc hB | exact below_drew (bel_alloc hB) | exact bel_alloc (below_drew hB) | exact bel_alloc (bel_alloc hB) | exact bel_alloc (bel_alloc (below_drew hB)))
  have X_5 := X_4.next hB_5
  have cX_5_0 : _ = some (Value.bool s) := X_5.cell 0
  have cX_5_1 : _ = some (Value.slice a1 n1 c1) := X_5.cell 1
  have cX_5_2 : _ = some (Value.slice b1 m1 d1) := X_5.cell 2
  have Y_5 := Y_4.next hB_5
  have cY_5_0 : _ = some (Value.bool t) := Y_5.cell 0
  have cY_5_1 : _ = some (Value.slice a2 n2 c2) := Y_5.cell 1
  have cY_5_2 : _ = some (Value.slice b2 m2 d2) := Y_5.cell 2
  have R0_5 := R0_4.next hB_5
  have cR0_5_0 : _ = some (Value.bool false) := R0_5.cell 0
  have fR0_5_0 := R0_5.free 0
  have cR0_5_1 : _ = some (Value.slice none 0 0) := R0_5.cell 1
  have fR0_5_1 := R0_5.free 1
  have cR0_5_2 : _ = some (Value.slice none 0 0) := R0_5.cell 2
  have fR0_5_2 := R0_5.free 2
  have O_5 := O_4.next hB_5
  have cO_5_0 : _ = some (Value.bool false) := O_5.cell 0
  have cO_5_1 : _ = some (Value.slice oa on oc) := O_5.cell 1
  have cO_5_2 : _ = some (Value.slice ob om od) := O_5.cell 2
  have hx_5 := hx_4.below hB_5
  have hy_5 := hy_4.below hB_5
  have QO_5 := QO_4.below hB_5
  have Of_5 := Of_4.below hB_5
  have hbel_5 := hbel_4.next hB_5
  have hsz_5 := hB_5.size
  clear X_4 cX_4_0 cX_4_1 cX_4_2 Y_4 cY_4_0 cY_4_1 cY_4_2 R0_4 cR0_4_0 fR0_4_0 cR0_4_1 fR0_4_1 cR0_4_2 fR0_4_2 O_4 cO_4_0 cO_4_1 cO_4_2 hx_4 hy_4 QO_4 Of_4 hbel_4 hB_5
  have Pf_5 := hO
  have ltPf := hO.ltB
  have hDf := ltOf.diff hO (by omega)
  clear hO
  try clear hB
  have hbx := blk_new w5 #[Value.bool (decide (f < 0)), Value.slice fa fn fc, Value.slice fb fm fd] 32
  have hbB := (Below.refl w5.heap.size w5).alloc (Nat.le_refl _) (.cells #[Value.bool (decide (f < 0)), Value.slice fa fn fc, Value.slice fb fm fd] 32)
  have hltN := hbx.lt
  have hB_6 : Below w5.heap.size w5 (w5.alloc (.cells #[Value.bool (decide (f < 0)), Value.slice fa fn fc, Value.slice fb fm fd] 32)) := hbB
  have X_6 := X_5.next hB_6
  have cX_6_0 : _ = some (Value.bool s) := X_6.cell 0
  have cX_6_1 : _ = some (Value.slice a1 n1 c1) := X_6.cell 1
  have cX_6_2 : _ = some (Value.slice b1 m1 d1) := X_6.cell 2
  have Y_6 := Y_5.next hB_6
  have cY_6_0 : _ = some (Value.bool t) := Y_6.cell 0
  have cY_6_1 : _ = some (Value.slice a2 n2 c2) := Y_6.cell 1
  have cY_6_2 : _ = some (Value.slice b2 m2 d2) := Y_6.cell 2
  have R0_6 := R0_5.next hB_6
  have cR0_6_0 : _ = some (Value.bool false) := R0_6.cell 0
  have fR0_6_0 := R0_6.free 0
  have cR0_6_1 : _ = some (Value.slice none 0 0) := R0_6.cell 1
  have fR0_6_1 := R0_6.free 1
  have cR0_6_2 : _ = some (Value.slice none 0 0) := R0_6.cell 2
  have fR0_6_2 := R0_6.free 2
  have O_6 := O_5.next hB_6
  have cO_6_0 : _ = some (Value.bool false) := O_6.cell 0
  have cO_6_1 : _ = some (Value.slice oa on oc) := O_6.cell 1
  have cO_6_2 : _ = some (Value.slice ob om od) := O_6.cell 2
  have hx_6 := hx_5.below hB_6
  have hy_6 := hy_5.below hB_6
  have QO_6 := QO_5.below hB_6
  have Of_6 := Of_5.below hB_6
  have Pf_6 := Pf_5.below hB_6
  have hbel_6 := hbel_5.next hB_6
  have hsz_6 := hB_6.size
  clear hB_6
  have N_6 := hbx
  clear hbx hbB
  have cN_6_0 : _ = some (Value.bool (decide (f < 0))) := N_6.cell 0
  have cN_6_1 : _ = some (Value.slice fa fn fc) := N_6.cell 1
  have cN_6_2 : _ = some (Value.slice fb fm fd) := N_6.cell 2
  go_wp2_with fail
  clear X_5 cX_5_0 cX_5_1 cX_5_2 Y_5 cY_5_0 cY_5_1 cY_5_2 R0_5 cR0_5_0 fR0_5_0 cR0_5_1 fR0_5_1 cR0_5_2 fR0_5_2 O_5 cO_5_0 cO_5_1 cO_5_2 hx_5 hy_5 QO_5 Of_5 Pf_5 hbel_5
  generalize (w5.alloc (.cells #[Value.bool (decide (f < 0)), Value.slice fa fn fc, Value.slice fb fm fd] 32)) = v6 at *
  have QN_6 := rdq_int Of_6 Pf_6 hsf.out hJ1
  go_wp2_with fail
  refine (qcmp QN_6 (by omega) hx_6 (by omega)).mono ?_
  rw [hc.out]
  rintro e w7 ⟨rfl, hB⟩
  have hB_7 : Below v6.heap.size v6 w7 := (by first | exact hB | exact below_drew hB | exact bel_alloc hB | exact below_drew (bel_alloc hB) | exact bel_alloc (below_drew hB) | exact bel_alloc (bel_alloc hB) | exact bel_alloc (bel_alloc (below_drew hB)))
  have X_7 := X_6.next hB_7
  have cX_7_0 : _ = some (Value.bool s) := X_7.cell 0
  have cX_7_1 : _ = some (Value.slice a1 n1 c1) := X_7.cell 1
  have cX_7_2 : _ = some (Value.slice b1 m1 d1) := X_7.cell 2
  have Y_7 := Y_6.next hB_7
  have cY_7_0 : _ = some (Value.bool t) := Y_7.cell 0
  have cY_7_1 : _ = some (Value.slice a2 n2 c2) := Y_7.cell 1
  have cY_7_2 : _ = some (Value.slice b2 m2 d2) := Y_7.cell 2
  have R0_7 := R0_6.next hB_7
  have cR0_7_0 : _ = some (Value.bool false) := R0_7.cell 0
  have fR0_7_0 := R0_7.free 0
  have cR0_7_1 : _ = some (Value.slice none 0 0) := R0_7.cell 1
  have fR0_7_1 := R0_7.free 1
  have cR0_7_2 : _ = some (Value.slice none 0 0) := R0_7.cell 2
  have fR0_7_2 := R0_7.free 2
  have O_7 := O_6.next hB_7
  have cO_7_0 : _ = some (Value.bool false) := O_7.cell 0
  have cO_7_1 : _ = some (Value.slice oa on oc) := O_7.cell 1
  have cO_7_2 : _ = some (Value.slice ob om od) := O_7.cell 2
  have N_7 := N_6.next hB_7
  have cN_7_0 : _ = some (Value.bool (decide (f < 0))) := N_7.cell 0
  have cN_7_1 : _ = some (Value.slice fa fn fc) := N_7.cell 1
  have cN_7_2 : _ = some (Value.slice fb fm fd) := N_7.cell 2
  have hx_7 := hx_6.below hB_7
  have hy_7 := hy_6.below hB_7
  have QO_7 := QO_6.below hB_7
  have Of_7 := Of_6.below hB_7
  have Pf_7 := Pf_6.below hB_7
  have QN_7 := QN_6.below hB_7
  have hbel_7 := hbel_6.next hB_7
  have hsz_7 := hB_7.size
  clear X_6 cX_6_0 cX_6_1 cX_6_2 Y_6 cY_6_0 cY_6_1 cY_6_2 R0_6 cR0_6_0 fR0_6_0 cR0_6_1 fR0_6_1 cR0_6_2 fR0_6_2 O_6 cO_6_0 cO_6_1 cO_6_2 N_6 cN_6_0 cN_6_1 cN_6_2 hx_6 hy_6 QO_6 Of_6 Pf_6 QN_6 hbel_6 hB_7
  try clear hB
  go_wp2
  refine bodyPost_ret (v := .agg #[.bool (decide (f < 0)), .slice fa fn fc, .slice fb fm fd]) (by simp [results, Try.results97, go_sem, cR0_7_0, cR0_7_1, cR0_7_2]) rfl ?_
  exact retq_set' rfl rfl Of_7 Pf_7 hDf.symm hbel_7 (by omega) (by omega) (by omega)

set_option maxRecDepth 100000 in
set_option maxHeartbeats 40000000 in
theorem qbtw2 {w : World} {a1 b1 : Option Addr} {n1 c1 m1 d1 : Nat} {s : Bool} {x : Rat} {a2 b2 : Option Addr} {n2 c2 m2 d2 : Nat} {t : Bool} {y : Rat} {J k : Nat} (hJ1 : 1 ≤ J) (hJ : J ≤ 200000) (hin : SmpIn x y) (hx : RdQ J w s a1 n1 c1 b1 m1 d1 x) (hy : RdQ J w t a2 n2 c2 b2 m2 d2 y) (h1 : (x.floor : Rat) ≠ x) (h2 : (x.floor : Rat) + 1 ≤ y) :
    Calls Try.prog 97 #[.agg #[.bool s, .slice a1 n1 c1, .slice b1 m1 d1], .agg #[.bool t, .slice a2 n2 c2, .slice b2 m2 d2]] w (RetQ w (smp (k + 1) x y)) := by
  have hqx := hx.qs hJ1
  have hqy := hy.qs hJ1
  have sf : Sz x.floor.natAbs J := (floor_qs hin.pos hJ1 hqx).1
  have hqf := floor_qs hin.pos hJ1 hqx
  have hc := hid (cmpQ_lt (Rat.lt_of_le_of_ne (Rat.floor_le x) h1))
  rw [smp_succ2 h1 h2]
  obtain ⟨c2', hc20⟩ : ∃ c, cmpQ ((x.floor : Rat) + 1) y = c := ⟨_, rfl⟩
  have hc3 : c2' ≤ 0 := by rw [← hc20]; rcases cmpQ_cases ((x.floor : Rat) + 1) y with ⟨h, e⟩ | ⟨h, e⟩ | ⟨h, e⟩ <;> first | (rw [e]; omega) | (exfalso; exact h2 (Rat.le_of_lt h)) | (exfalso; exact h2 (by rw [h]; exact Rat.le_refl)) | (exfalso; exact absurd h2 (Rat.not_le.2 h))
  have hc2 := hid hc20
  clear hc20 h2
  clear hin h1
  generalize hf0 : x.floor = f at *
  have hf := hid hf0
  clear hf0
  have qp : QS ((f : Rat) + 1) (J + 2) := (hqf.add (show QS 1 1 from ⟨sz_one (by decide), sz_one (by decide)⟩)).mono (by omega)
  generalize hp0 : (f : Rat) + 1 = p at *
  have hp := hid hp0
  clear hp0
  have hqp := hid qp
  clear qp
  have hsf := hid sf
  clear sf hqf hqx hqy
  have hent := ent3 w #[Value.bool s, Value.slice a1 n1 c1, Value.slice b1 m1 d1] #[Value.bool t, Value.slice a2 n2 c2, Value.slice b2 m2 d2] #[Value.bool false, Value.slice none 0 0, Value.slice none 0 0] 32 32 32
  go_enter Try.func97, Try.ntmps97
  go_wp2_with fail
  generalize (((w.alloc (.cells #[Value.bool s, Value.slice a1 n1 c1, Value.slice b1 m1 d1] 32)).alloc (.cells #[Value.bool t, Value.slice a2 n2 c2, Value.slice b2 m2 d2] 32)).alloc (.cells #[Value.bool false, Value.slice none 0 0, Value.slice none 0 0] 32)) = W0 at hent ⊢
  obtain ⟨X_0, Y_0, R0_0, hbel_0, hsz_0⟩ := hent
  have cX_0_0 : _ = some (Value.bool s) := X_0.cell 0
  have cX_0_1 : _ = some (Value.slice a1 n1 c1) := X_0.cell 1
  have cX_0_2 : _ = some (Value.slice b1 m1 d1) := X_0.cell 2
  have cY_0_0 : _ = some (Value.bool t) := Y_0.cell 0
  have cY_0_1 : _ = some (Value.slice a2 n2 c2) := Y_0.cell 1
  have cY_0_2 : _ = some (Value.slice b2 m2 d2) := Y_0.cell 2
  have cR0_0_0 : _ = some (Value.bool false) := R0_0.cell 0
  have fR0_0_0 := R0_0.free 0
  have cR0_0_1 : _ = some (Value.slice none 0 0) := R0_0.cell 1
  have fR0_0_1 := R0_0.free 1
  have cR0_0_2 : _ = some (Value.slice none 0 0) := R0_0.cell 2
  have fR0_0_2 := R0_0.free 2
  have hx_0 := hx.below hbel_0
  clear hx
  have hy_0 := hy.below hbel_0
  clear hy
  go_wp2_with fail
  refine (zone_any).mono ?_
  rintro e w1 ⟨oa, on, oc, rfl, hO, hB⟩
  have hB_1 : Below W0.heap.size W0 w1 := (by first | exact hB | exact below_drew hB | exact bel_alloc hB | exact below_drew (bel_alloc hB) | exact bel_alloc (below_drew hB) | exact bel_alloc (bel_alloc hB) | exact bel_alloc (bel_alloc (below_drew hB)))
  have X_1 := X_0.next hB_1
  have cX_1_0 : _ = some (Value.bool s) := X_1.cell 0
  have cX_1_1 : _ = some (Value.slice a1 n1 c1) := X_1.cell 1
  have cX_1_2 : _ = some (Value.slice b1 m1 d1) := X_1.cell 2
  have Y_1 := Y_0.next hB_1
  have cY_1_0 : _ = some (Value.bool t) := Y_1.cell 0
  have cY_1_1 : _ = some (Value.slice a2 n2 c2) := Y_1.cell 1
  have cY_1_2 : _ = some (Value.slice b2 m2 d2) := Y_1.cell 2
  have R0_1 := R0_0.next hB_1
  have cR0_1_0 : _ = some (Value.bool false) := R0_1.cell 0
  have fR0_1_0 := R0_1.free 0
  have cR0_1_1 : _ = some (Value.slice none 0 0) := R0_1.cell 1
  have fR0_1_1 := R0_1.free 1
  have cR0_1_2 : _ = some (Value.slice none 0 0) := R0_1.cell 2
  have fR0_1_2 := R0_1.free 2
  have hx_1 := hx_0.below hB_1
  have hy_1 := hy_0.below hB_1
  have hbel_1 := hbel_0.next hB_1
  have hsz_1 := hB_1.size
  clear X_0 cX_0_0 cX_0_1 cX_0_2 Y_0 cY_0_0 cY_0_1 cY_0_2 R0_0 cR0_0_0 fR0_0_0 cR0_0_1 fR0_0_1 cR0_0_2 fR0_0_2 hx_0 hy_0 hbel_0 hB_1
  have Oo_1 := hO
  have ltOo := hO.ltB
  clear hO
  try clear hB
  go_wp2_with fail
  refine (of_any 1 (by omega) (by omega)).mono ?_
  rintro e w2 ⟨ob, om, od, rfl, hO, hB⟩
  have hB_2 : Below w1.heap.size w1 w2 := (by first | exact hB | exact below_drew hB | exact bel_alloc hB | exact below_drew (bel_alloc hB) | exact bel_alloc (below_drew hB) | exact bel_alloc (bel_alloc hB) | exact bel_alloc (bel_alloc (below_drew hB)))
  have X_2 := X_1.next hB_2
  have cX_2_0 : _ = some (Value.bool s) := X_2.cell 0
  have cX_2_1 : _ = some (Value.slice a1 n1 c1) := X_2.cell 1
  have cX_2_2 : _ = some (Value.slice b1 m1 d1) := X_2.cell 2
  have Y_2 := Y_1.next hB_2
  have cY_2_0 : _ = some (Value.bool t) := Y_2.cell 0
  have cY_2_1 : _ = some (Value.slice a2 n2 c2) := Y_2.cell 1
  have cY_2_2 : _ = some (Value.slice b2 m2 d2) := Y_2.cell 2
  have R0_2 := R0_1.next hB_2
  have cR0_2_0 : _ = some (Value.bool false) := R0_2.cell 0
  have fR0_2_0 := R0_2.free 0
  have cR0_2_1 : _ = some (Value.slice none 0 0) := R0_2.cell 1
  have fR0_2_1 := R0_2.free 1
  have cR0_2_2 : _ = some (Value.slice none 0 0) := R0_2.cell 2
  have fR0_2_2 := R0_2.free 2
  have hx_2 := hx_1.below hB_2
  have hy_2 := hy_1.below hB_2
  have Oo_2 := Oo_1.below hB_2
  have hbel_2 := hbel_1.next hB_2
  have hsz_2 := hB_2.size
  clear X_1 cX_1_0 cX_1_1 cX_1_2 Y_1 cY_1_0 cY_1_1 cY_1_2 R0_1 cR0_1_0 fR0_1_0 cR0_1_1 fR0_1_1 cR0_1_2 fR0_1_2 hx_1 hy_1 Oo_1 hbel_1 hB_2
  have Po_2 := hO
  have ltPo := hO.ltB
  clear hO
  try clear hB
  have hbx := blk_new w2 #[Value.bool false, Value.slice oa on oc, Value.slice ob om od] 32
  have hbB := (Below.refl w2.heap.size w2).alloc (Nat.le_refl _) (.cells #[Value.bool false, Value.slice oa on oc, Value.slice ob om od] 32)
  have hltO := hbx.lt
  have hB_3 : Below w2.heap.size w2 (w2.alloc (.cells #[Value.bool false, Value.slice oa on oc, Value.slice ob om od] 32)) := hbB
  have X_3 := X_2.next hB_3
  have cX_3_0 : _ = some (Value.bool s) := X_3.cell 0
  have cX_3_1 : _ = some (Value.slice a1 n1 c1) := X_3.cell 1
  have cX_3_2 : _ = some (Value.slice b1 m1 d1) := X_3.cell 2
  have Y_3 := Y_2.next hB_3
  have cY_3_0 : _ = some (Value.bool t) := Y_3.cell 0
  have cY_3_1 : _ = some (Value.slice a2 n2 c2) := Y_3.cell 1
  have cY_3_2 : _ = some (Value.slice b2 m2 d2) := Y_3.cell 2
  have R0_3 := R0_2.next hB_3
  have cR0_3_0 : _ = some (Value.bool false) := R0_3.cell 0
  have fR0_3_0 := R0_3.free 0
  have cR0_3_1 : _ = some (Value.slice none 0 0) := R0_3.cell 1
  have fR0_3_1 := R0_3.free 1
  have cR0_3_2 : _ = some (Value.slice none 0 0) := R0_3.cell 2
  have fR0_3_2 := R0_3.free 2
  have hx_3 := hx_2.below hB_3
  have hy_3 := hy_2.below hB_3
  have Oo_3 := Oo_2.below hB_3
  have Po_3 := Po_2.below hB_3
  have hbel_3 := hbel_2.next hB_3
  have hsz_3 := hB_3.size
  clear hB_3
  have O_3 := hbx
  clear hbx hbB
  have cO_3_0 : _ = some (Value.bool false) := O_3.cell 0
  have cO_3_1 : _ = some (Value.slice oa on oc) := O_3.cell 1
  have cO_3_2 : _ = some (Value.slice ob om od) := O_3.cell 2
  go_wp2_with fail
  clear X_2 cX_2_0 cX_2_1 cX_2_2 Y_2 cY_2_0 cY_2_1 cY_2_2 R0_2 cR0_2_0 fR0_2_0 cR0_2_1 fR0_2_1 cR0_2_2 fR0_2_2 hx_2 hy_2 Oo_2 Po_2 hbel_2
  generalize (w2.alloc (.cells #[Value.bool false, Value.slice oa on oc, Value.slice ob om od] 32)) = v3 at *
  have QO_3 := rdq_one Oo_3 Po_3
  clear Oo_3
  clear Po_3
  go_wp2_with fail
  refine (qfloor hx_3 (by omega)).mono ?_
  rw [hf.out]
  rintro e w4 ⟨fa, fn, fc, rfl, hO, hB⟩
  have hB_4 : Below v3.heap.size v3 w4 := (by first | exact hB | exact below_drew hB | exact bel_alloc hB | exact below_drew (bel_alloc hB) | exact bel_alloc (below_drew hB) | exact bel_alloc (bel_alloc hB) | exact bel_alloc (bel_alloc (below_drew hB)))
  have X_4 := X_3.next hB_4
  have cX_4_0 : _ = some (Value.bool s) := X_4.cell 0
  have cX_4_1 : _ = some (Value.slice a1 n1 c1) := X_4.cell 1
  have cX_4_2 : _ = some (Value.slice b1 m1 d1) := X_4.cell 2
  have Y_4 := Y_3.next hB_4
  have cY_4_0 : _ = some (Value.bool t) := Y_4.cell 0
  have cY_4_1 : _ = some (Value.slice a2 n2 c2) := Y_4.cell 1
  have cY_4_2 : _ = some (Value.slice b2 m2 d2) := Y_4.cell 2
  have R0_4 := R0_3.next hB_4
  have cR0_4_0 : _ = some (Value.bool false) := R0_4.cell 0
  have fR0_4_0 := R0_4.free 0
  have cR0_4_1 : _ = some (Value.slice none 0 0) := R0_4.cell 1
  have fR0_4_1 := R0_4.free 1
  have cR0_4_2 : _ = some (Value.slice none 0 0) := R0_4.cell 2
  have fR0_4_2 := R0_4.free 2
  have O_4 := O_3.next hB_4
  have cO_4_0 : _ = some (Value.bool false) := O_4.cell 0
  have cO_4_1 : _ = some (Value.slice oa on oc) := O_4.cell 1
  have cO_4_2 : _ = some (Value.slice ob om od) := O_4.cell 2
  have hx_4 := hx_3.below hB_4
  have hy_4 := hy_3.below hB_4
  have QO_4 := QO_3.below hB_4
  have hbel_4 := hbel_3.next hB_4
  have hsz_4 := hB_4.size
  clear X_3 cX_3_0 cX_3_1 cX_3_2 Y_3 cY_3_0 cY_3_1 cY_3_2 R0_3 cR0_3_0 fR0_3_0 cR0_3_1 fR0_3_1 cR0_3_2 fR0_3_2 O_3 cO_3_0 cO_3_1 cO_3_2 hx_3 hy_3 QO_3 hbel_3 hB_4
  have Of_4 := hO
  have ltOf := hO.ltB
  clear hO
  try clear hB
  go_wp2_with fail
  refine (of_any 1 (by omega) (by omega)).mono ?_
  rintro e w5 ⟨fb, fm, fd, rfl, hO, hB⟩
  have hB_5 : Below w4.heap.size w4 w5 := (by first | exact hB | exact below_drew hB | exact bel_alloc hB | exact below_drew (bel_alloc hB) | exact bel_alloc (below_drew hB) | exact bel_alloc (bel_alloc hB) | exact bel_alloc (bel_alloc (below_drew hB)))
  have X_5 := X_4.next hB_5
  have cX_5_0 : _ = some (Value.bool s) := X_5.cell 0
  have cX_5_1 : _ = some (Value.slice a1 n1 c1) := X_5.cell 1
  have cX_5_2 : _ = some (Value.slice b1 m1 d1) := X_5.cell 2
  have Y_5 := Y_4.next hB_5
  have cY_5_0 : _ = some (Value.bool t) := Y_5.cell 0
  have cY_5_1 : _ = some (Value.slice a2 n2 c2) := Y_5.cell 1
  have cY_5_2 : _ = some (Value.slice b2 m2 d2) := Y_5.cell 2
  have R0_5 := R0_4.next hB_5
  have cR0_5_0 : _ = some (Value.bool false) := R0_5.cell 0
  have fR0_5_0 := R0_5.free 0
  have cR0_5_1 : _ = some (Value.slice none 0 0) := R0_5.cell 1
  have fR0_5_1 := R0_5.free 1
  have cR0_5_2 : _ = some (Value.slice none 0 0) := R0_5.cell 2
  have fR0_5_2 := R0_5.free 2
  have O_5 := O_4.next hB_5
  have cO_5_0 : _ = some (Value.bool false) := O_5.cell 0
  have cO_5_1 : _ = some (Value.slice oa on oc) := O_5.cell 1
  have cO_5_2 : _ = some (Value.slice ob om od) := O_5.cell 2
  have hx_5 := hx_4.below hB_5
  have hy_5 := hy_4.below hB_5
  have QO_5 := QO_4.below hB_5
  have Of_5 := Of_4.below hB_5
  have hbel_5 := hbel_4.next hB_5
  have hsz_5 := hB_5.size
  clear X_4 cX_4_0 cX_4_1 cX_4_2 Y_4 cY_4_0 cY_4_1 cY_4_2 R0_4 cR0_4_0 fR0_4_0 cR0_4_1 fR0_4_1 cR0_4_2 fR0_4_2 O_4 cO_4_0 cO_4_1 cO_4_2 hx_4 hy_4 QO_4 Of_4 hbel_4 hB_5
  have Pf_5 := hO
  have ltPf := hO.ltB
  have hDf := ltOf.diff hO (by omega)
  clear hO
  try clear hB
  have hbx := blk_new w5 #[Value.bool (decide (f < 0)), Value.slice fa fn fc, Value.slice fb fm fd] 32
  have hbB := (Below.refl w5.heap.size w5).alloc (Nat.le_refl _) (.cells #[Value.bool (decide (f < 0)), Value.slice fa fn fc, Value.slice fb fm fd] 32)
  have hltN := hbx.lt
  have hB_6 : Below w5.heap.size w5 (w5.alloc (.cells #[Value.bool (decide (f < 0)), Value.slice fa fn fc, Value.slice fb fm fd] 32)) := hbB
  have X_6 := X_5.next hB_6
  have cX_6_0 : _ = some (Value.bool s) := X_6.cell 0
  have cX_6_1 : _ = some (Value.slice a1 n1 c1) := X_6.cell 1
  have cX_6_2 : _ = some (Value.slice b1 m1 d1) := X_6.cell 2
  have Y_6 := Y_5.next hB_6
  have cY_6_0 : _ = some (Value.bool t) := Y_6.cell 0
  have cY_6_1 : _ = some (Value.slice a2 n2 c2) := Y_6.cell 1
  have cY_6_2 : _ = some (Value.slice b2 m2 d2) := Y_6.cell 2
  have R0_6 := R0_5.next hB_6
  have cR0_6_0 : _ = some (Value.bool false) := R0_6.cell 0
  have fR0_6_0 := R0_6.free 0
  have cR0_6_1 : _ = some (Value.slice none 0 0) := R0_6.cell 1
  have fR0_6_1 := R0_6.free 1
  have cR0_6_2 : _ = some (Value.slice none 0 0) := R0_6.cell 2
  have fR0_6_2 := R0_6.free 2
  have O_6 := O_5.next hB_6
  have cO_6_0 : _ = some (Value.bool false) := O_6.cell 0
  have cO_6_1 : _ = some (Value.slice oa on oc) := O_6.cell 1
  have cO_6_2 : _ = some (Value.slice ob om od) := O_6.cell 2
  have hx_6 := hx_5.below hB_6
  have hy_6 := hy_5.below hB_6
  have QO_6 := QO_5.below hB_6
  have Of_6 := Of_5.below hB_6
  have Pf_6 := Pf_5.below hB_6
  have hbel_6 := hbel_5.next hB_6
  have hsz_6 := hB_6.size
  clear hB_6
  have N_6 := hbx
  clear hbx hbB
  have cN_6_0 : _ = some (Value.bool (decide (f < 0))) := N_6.cell 0
  have cN_6_1 : _ = some (Value.slice fa fn fc) := N_6.cell 1
  have cN_6_2 : _ = some (Value.slice fb fm fd) := N_6.cell 2
  go_wp2_with fail
  clear X_5 cX_5_0 cX_5_1 cX_5_2 Y_5 cY_5_0 cY_5_1 cY_5_2 R0_5 cR0_5_0 fR0_5_0 cR0_5_1 fR0_5_1 cR0_5_2 fR0_5_2 O_5 cO_5_0 cO_5_1 cO_5_2 hx_5 hy_5 QO_5 Of_5 Pf_5 hbel_5
  generalize (w5.alloc (.cells #[Value.bool (decide (f < 0)), Value.slice fa fn fc, Value.slice fb fm fd] 32)) = v6 at *
  have QN_6 := rdq_int Of_6 Pf_6 hsf.out hJ1
  clear Of_6
  clear Pf_6
  go_wp2_with fail
  refine (qcmp QN_6 (by omega) hx_6 (by omega)).mono ?_
  rw [hc.out]
  rintro e w7 ⟨rfl, hB⟩
  have hB_7 : Below v6.heap.size v6 w7 := (by first | exact hB | exact below_drew hB | exact bel_alloc hB | exact below_drew (bel_alloc hB) | exact bel_alloc (below_drew hB) | exact bel_alloc (bel_alloc hB) | exact bel_alloc (bel_alloc (below_drew hB)))
  have X_7 := X_6.next hB_7
  have cX_7_0 : _ = some (Value.bool s) := X_7.cell 0
  have cX_7_1 : _ = some (Value.slice a1 n1 c1) := X_7.cell 1
  have cX_7_2 : _ = some (Value.slice b1 m1 d1) := X_7.cell 2
  have Y_7 := Y_6.next hB_7
  have cY_7_0 : _ = some (Value.bool t) := Y_7.cell 0
  have cY_7_1 : _ = some (Value.slice a2 n2 c2) := Y_7.cell 1
  have cY_7_2 : _ = some (Value.slice b2 m2 d2) := Y_7.cell 2
  have R0_7 := R0_6.next hB_7
  have cR0_7_0 : _ = some (Value.bool false) := R0_7.cell 0
  have fR0_7_0 := R0_7.free 0
  have cR0_7_1 : _ = some (Value.slice none 0 0) := R0_7.cell 1
  have fR0_7_1 := R0_7.free 1
  have cR0_7_2 : _ = some (Value.slice none 0 0) := R0_7.cell 2
  have fR0_7_2 := R0_7.free 2
  have O_7 := O_6.next hB_7
  have cO_7_0 : _ = some (Value.bool false) := O_7.cell 0
  have cO_7_1 : _ = some (Value.slice oa on oc) := O_7.cell 1
  have cO_7_2 : _ = some (Value.slice ob om od) := O_7.cell 2
  have N_7 := N_6.next hB_7
  have cN_7_0 : _ = some (Value.bool (decide (f < 0))) := N_7.cell 0
  have cN_7_1 : _ = some (Value.slice fa fn fc) := N_7.cell 1
  have cN_7_2 : _ = some (Value.slice fb fm fd) := N_7.cell 2
  have hx_7 := hx_6.below hB_7
  have hy_7 := hy_6.below hB_7
  have QO_7 := QO_6.below hB_7
  have QN_7 := QN_6.below hB_7
  have hbel_7 := hbel_6.next hB_7
  have hsz_7 := hB_7.size
  clear X_6 cX_6_0 cX_6_1 cX_6_2 Y_6 cY_6_0 cY_6_1 cY_6_2 R0_6 cR0_6_0 fR0_6_0 cR0_6_1 fR0_6_1 cR0_6_2 fR0_6_2 O_6 cO_6_0 cO_6_1 cO_6_2 N_6 cN_6_0 cN_6_1 cN_6_2 hx_6 hy_6 QO_6 QN_6 hbel_6 hB_7
  try clear hB
  go_wp2_with fail
  refine (qadd QN_7 (by omega) QO_7 (by omega)).mono ?_
  rw [hp.out]
  rintro e w8 ⟨pa, pn, pc, pb, pm, pd, rfl, hO, hO', hDp, hB⟩
  have hB_8 : Below w7.heap.size w7 w8 := (by first | exact hB | exact below_drew hB | exact bel_alloc hB | exact below_drew (bel_alloc hB) | exact bel_alloc (below_drew hB) | exact bel_alloc (bel_alloc hB) | exact bel_alloc (bel_alloc (below_drew hB)))
  have X_8 := X_7.next hB_8
  have cX_8_0 : _ = some (Value.bool s) := X_8.cell 0
  have cX_8_1 : _ = some (Value.slice a1 n1 c1) := X_8.cell 1
  have cX_8_2 : _ = some (Value.slice b1 m1 d1) := X_8.cell 2
  have Y_8 := Y_7.next hB_8
  have cY_8_0 : _ = some (Value.bool t) := Y_8.cell 0
  have cY_8_1 : _ = some (Value.slice a2 n2 c2) := Y_8.cell 1
  have cY_8_2 : _ = some (Value.slice b2 m2 d2) := Y_8.cell 2
  have R0_8 := R0_7.next hB_8
  have cR0_8_0 : _ = some (Value.bool false) := R0_8.cell 0
  have fR0_8_0 := R0_8.free 0
  have cR0_8_1 : _ = some (Value.slice none 0 0) := R0_8.cell 1
  have fR0_8_1 := R0_8.free 1
  have cR0_8_2 : _ = some (Value.slice none 0 0) := R0_8.cell 2
  have fR0_8_2 := R0_8.free 2
  have O_8 := O_7.next hB_8
  have cO_8_0 : _ = some (Value.bool false) := O_8.cell 0
  have cO_8_1 : _ = some (Value.slice oa on oc) := O_8.cell 1
  have cO_8_2 : _ = some (Value.slice ob om od) := O_8.cell 2
  have N_8 := N_7.next hB_8
  have cN_8_0 : _ = some (Value.bool (decide (f < 0))) := N_8.cell 0
  have cN_8_1 : _ = some (Value.slice fa fn fc) := N_8.cell 1
  have cN_8_2 : _ = some (Value.slice fb fm fd) := N_8.cell 2
  have hx_8 := hx_7.below hB_8
  have hy_8 := hy_7.below hB_8
  have QO_8 := QO_7.below hB_8
  have QN_8 := QN_7.below hB_8
  have hbel_8 := hbel_7.next hB_8
  have hsz_8 := hB_8.size
  clear X_7 cX_7_0 cX_7_1 cX_7_2 Y_7 cY_7_0 cY_7_1 cY_7_2 R0_7 cR0_7_0 fR0_7_0 cR0_7_1 fR0_7_1 cR0_7_2 fR0_7_2 O_7 cO_7_0 cO_7_1 cO_7_2 N_7 cN_7_0 cN_7_1 cN_7_2 hx_7 hy_7 QO_7 QN_7 hbel_7 hB_8
  have Op_8 := hO
  have ltOp := hO.ltB
  have Pp_8 := hO'
  have ltPp := hO'.ltB
  clear hO hO'
  try clear hB
  have hbx := blk_new w8 #[Value.bool (decide ((p).num < 0)), Value.slice pa pn pc, Value.slice pb pm pd] 32
  have hbB := (Below.refl w8.heap.size w8).alloc (Nat.le_refl _) (.cells #[Value.bool (decide ((p).num < 0)), Value.slice pa pn pc, Value.slice pb pm pd] 32)
  have hltP := hbx.lt
  have hB_9 : Below w8.heap.size w8 (w8.alloc (.cells #[Value.bool (decide ((p).num < 0)), Value.slice pa pn pc, Value.slice pb pm pd] 32)) := hbB
  have X_9 := X_8.next hB_9
  have cX_9_0 : _ = some (Value.bool s) := X_9.cell 0
  have cX_9_1 : _ = some (Value.slice a1 n1 c1) := X_9.cell 1
  have cX_9_2 : _ = some (Value.slice b1 m1 d1) := X_9.cell 2
  have Y_9 := Y_8.next hB_9
  have cY_9_0 : _ = some (Value.bool t) := Y_9.cell 0
  have cY_9_1 : _ = some (Value.slice a2 n2 c2) := Y_9.cell 1
  have cY_9_2 : _ = some (Value.slice b2 m2 d2) := Y_9.cell 2
  have R0_9 := R0_8.next hB_9
  have cR0_9_0 : _ = some (Value.bool false) := R0_9.cell 0
  have fR0_9_0 := R0_9.free 0
  have cR0_9_1 : _ = some (Value.slice none 0 0) := R0_9.cell 1
  have fR0_9_1 := R0_9.free 1
  have cR0_9_2 : _ = some (Value.slice none 0 0) := R0_9.cell 2
  have fR0_9_2 := R0_9.free 2
  have O_9 := O_8.next hB_9
  have cO_9_0 : _ = some (Value.bool false) := O_9.cell 0
  have cO_9_1 : _ = some (Value.slice oa on oc) := O_9.cell 1
  have cO_9_2 : _ = some (Value.slice ob om od) := O_9.cell 2
  have N_9 := N_8.next hB_9
  have cN_9_0 : _ = some (Value.bool (decide (f < 0))) := N_9.cell 0
  have cN_9_1 : _ = some (Value.slice fa fn fc) := N_9.cell 1
  have cN_9_2 : _ = some (Value.slice fb fm fd) := N_9.cell 2
  have hx_9 := hx_8.below hB_9
  have hy_9 := hy_8.below hB_9
  have QO_9 := QO_8.below hB_9
  have QN_9 := QN_8.below hB_9
  have Op_9 := Op_8.below hB_9
  have Pp_9 := Pp_8.below hB_9
  have hbel_9 := hbel_8.next hB_9
  have hsz_9 := hB_9.size
  clear hB_9
  have P_9 := hbx
  clear hbx hbB
  have cP_9_0 : _ = some (Value.bool (decide ((p).num < 0))) := P_9.cell 0
  have cP_9_1 : _ = some (Value.slice pa pn pc) := P_9.cell 1
  have cP_9_2 : _ = some (Value.slice pb pm pd) := P_9.cell 2
  go_wp2_with fail
  clear X_8 cX_8_0 cX_8_1 cX_8_2 Y_8 cY_8_0 cY_8_1 cY_8_2 R0_8 cR0_8_0 fR0_8_0 cR0_8_1 fR0_8_1 cR0_8_2 fR0_8_2 O_8 cO_8_0 cO_8_1 cO_8_2 N_8 cN_8_0 cN_8_1 cN_8_2 hx_8 hy_8 QO_8 QN_8 Op_8 Pp_8 hbel_8
  generalize (w8.alloc (.cells #[Value.bool (decide ((p).num < 0)), Value.slice pa pn pc, Value.slice pb pm pd] 32)) = v9 at *
  have QP_9 := Op_9.rdQ Pp_9 hqp.out
  go_wp2_with fail
  refine (qcmp QP_9 (by omega) hy_9 (by omega)).mono ?_
  rw [hc2.out]
  rintro e w10 ⟨rfl, hB⟩
  have hB_10 : Below v9.heap.size v9 w10 := (by first | exact hB | exact below_drew hB | exact bel_alloc hB | exact below_drew (bel_alloc hB) | exact bel_alloc (below_drew hB) | exact bel_alloc (bel_alloc hB) | exact bel_alloc (bel_alloc (below_drew hB)))
  have X_10 := X_9.next hB_10
  have cX_10_0 : _ = some (Value.bool s) := X_10.cell 0
  have cX_10_1 : _ = some (Value.slice a1 n1 c1) := X_10.cell 1
  have cX_10_2 : _ = some (Value.slice b1 m1 d1) := X_10.cell 2
  have Y_10 := Y_9.next hB_10
  have cY_10_0 : _ = some (Value.bool t) := Y_10.cell 0
  have cY_10_1 : _ = some (Value.slice a2 n2 c2) := Y_10.cell 1
  have cY_10_2 : _ = some (Value.slice b2 m2 d2) := Y_10.cell 2
  have R0_10 := R0_9.next hB_10
  have cR0_10_0 : _ = some (Value.bool false) := R0_10.cell 0
  have fR0_10_0 := R0_10.free 0
  have cR0_10_1 : _ = some (Value.slice none 0 0) := R0_10.cell 1
  have fR0_10_1 := R0_10.free 1
  have cR0_10_2 : _ = some (Value.slice none 0 0) := R0_10.cell 2
  have fR0_10_2 := R0_10.free 2
  have O_10 := O_9.next hB_10
  have cO_10_0 : _ = some (Value.bool false) := O_10.cell 0
  have cO_10_1 : _ = some (Value.slice oa on oc) := O_10.cell 1
  have cO_10_2 : _ = some (Value.slice ob om od) := O_10.cell 2
  have N_10 := N_9.next hB_10
  have cN_10_0 : _ = some (Value.bool (decide (f < 0))) := N_10.cell 0
  have cN_10_1 : _ = some (Value.slice fa fn fc) := N_10.cell 1
  have cN_10_2 : _ = some (Value.slice fb fm fd) := N_10.cell 2
  have P_10 := P_9.next hB_10
  have cP_10_0 : _ = some (Value.bool (decide ((p).num < 0))) := P_10.cell 0
  have cP_10_1 : _ = some (Value.slice pa pn pc) := P_10.cell 1
  have cP_10_2 : _ = some (Value.slice pb pm pd) := P_10.cell 2
  have hx_10 := hx_9.below hB_10
  have hy_10 := hy_9.below hB_10
  have QO_10 := QO_9.below hB_10
  have QN_10 := QN_9.below hB_10
  have Op_10 := Op_9.below hB_10
  have Pp_10 := Pp_9.below hB_10
  have QP_10 := QP_9.below hB_10
  have hbel_10 := hbel_9.next hB_10
  have hsz_10 := hB_10.size
  clear X_9 cX_9_0 cX_9_1 cX_9_2 Y_9 cY_9_0 cY_9_1 cY_9_2 R0_9 cR0_9_0 fR0_9_0 cR0_9_1 fR0_9_1 cR0_9_2 fR0_9_2 O_9 cO_9_0 cO_9_1 cO_9_2 N_9 cN_9_0 cN_9_1 cN_9_2 P_9 cP_9_0 cP_9_1 cP_9_2 hx_9 hy_9 QO_9 QN_9 Op_9 Pp_9 QP_9 hbel_9 hB_10
  try clear hB
  go_wp2
  refine bodyPost_ret (v := .agg #[.bool (decide (p.num < 0)), .slice pa pn pc, .slice pb pm pd]) (by simp [results, Try.results97, go_sem, cR0_10_0, cR0_10_1, cR0_10_2]) rfl ?_
  exact retq_set Op_10 Pp_10 hDp hbel_10 (by omega) (by omega)

end Go.Proofs.Ytenmjgnhneofjaa
