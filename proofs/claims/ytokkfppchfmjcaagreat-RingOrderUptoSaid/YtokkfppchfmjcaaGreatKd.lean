/- WALKS OF RINGS, 4: slopes. -/
import Derived.Test.YtokkfppchfmjcaaGreatKa
namespace Go.Proofs.YtokkfppchfmjcaaGreat
set_option linter.unusedVariables false
set_option linter.unusedSimpArgs false
open Go.ChangeShapes Go.WideShapes Go.ChangeAt Go.RowKit Go.NatP

/-- four lists of limbs that lie apart -/
structure Diff4 (a b c d : Option Addr) : Prop where
  d12 : Diff a b
  d13 : Diff a c
  d14 : Diff a d
  d23 : Diff b c
  d24 : Diff b d
  d34 : Diff c d
/-- A SLOPE: two fractions, normal, their limbs the call's own. -/
def RetSl (w : World) (p q : Rat) (e : Ending) (w' : World) : Prop :=
  ∃ a n c b m d a' n' c' b' m' d', e = .returned (.agg #[.bool (decide (p.num < 0)), .slice a n c, .slice b m d, .bool (decide (q.num < 0)), .slice a' n' c', .slice b' m' d']) ∧ Own w.heap.size w' a n c (lm p.num.natAbs) ∧ Own w.heap.size w' b m d (lm p.den) ∧ Own w.heap.size w' a' n' c' (lm q.num.natAbs) ∧ Own w.heap.size w' b' m' d' (lm q.den) ∧ Diff4 a b a' b' ∧ Below w.heap.size w w'
theorem Own.set6 {B : Nat} {w : World} {a : Option Addr} {n c : Nat} {l : List Nat} (h : Own B w a n c l) {g : Nat} (hg : g < B) (v0 v1 v2 v3 v4 v5 : Value) :
    Own B ((((((w.setCell ⟨g, 0, none⟩ v0).setCell ⟨g, 1, none⟩ v1).setCell ⟨g, 2, none⟩ v2).setCell ⟨g, 3, none⟩ v3).setCell ⟨g, 4, none⟩ v4).setCell ⟨g, 5, none⟩ v5) a n c l :=
  (((h.set3 hg v0 v1 v2).set_other v3 (fun g' e => by have := h.lt' g' e; omega)).set_other v4 (fun g' e => by have := h.lt' g' e; omega)).set_other v5 (fun g' e => by have := h.lt' g' e; omega)
theorem Below.set6 {B g : Nat} {a w : World} (h : Below B a w) (hg : B ≤ g) (v0 v1 v2 v3 v4 v5 : Value) :
    Below B a ((((((w.setCell ⟨g, 0, none⟩ v0).setCell ⟨g, 1, none⟩ v1).setCell ⟨g, 2, none⟩ v2).setCell ⟨g, 3, none⟩ v3).setCell ⟨g, 4, none⟩ v4).setCell ⟨g, 5, none⟩ v5) :=
  (((Below.set3 h hg v0 v1 v2).setCell (p := ⟨g, 3, none⟩) hg v3).setCell (p := ⟨g, 4, none⟩) hg v4).setCell (p := ⟨g, 5, none⟩) hg v5
theorem cell_set6 {w : World} {g g' k : Nat} (h : g' ≠ g) (v0 v1 v2 v3 v4 v5 : Value) :
    ((((((w.setCell ⟨g, 0, none⟩ v0).setCell ⟨g, 1, none⟩ v1).setCell ⟨g, 2, none⟩ v2).setCell ⟨g, 3, none⟩ v3).setCell ⟨g, 4, none⟩ v4).setCell ⟨g, 5, none⟩ v5).cell? ⟨g', k, none⟩ = w.cell? ⟨g', k, none⟩ :=
  (World.cell?_of_block ((heap_setCell_other _ _ g' v5 h).trans ((heap_setCell_other _ _ g' v4 h).trans (heap_setCell_other _ _ g' v3 h)))).trans (cell_set3 h v0 v1 v2)
theorem retsl_set {w w2 : World} {p q : Rat} {B B2 g : Nat} {a b a' b' : Option Addr} {n c m d n' c' m' d' : Nat} {v0 v1 v2 v3 v4 v5 : Value} (h1 : Own B w2 a n c (lm p.num.natAbs)) (h2 : Own B w2 b m d (lm p.den)) (h3 : Own B2 w2 a' n' c' (lm q.num.natAbs)) (h4 : Own B2 w2 b' m' d' (lm q.den)) (hD : Diff4 a b a' b') (hB : Below w.heap.size w w2) (hg : w.heap.size ≤ g) (hgB : g < B) (hgB2 : g < B2) :
    RetSl w p q (.returned (.agg #[.bool (decide (p.num < 0)), .slice a n c, .slice b m d, .bool (decide (q.num < 0)), .slice a' n' c', .slice b' m' d'])) ((((((w2.setCell ⟨g, 0, none⟩ v0).setCell ⟨g, 1, none⟩ v1).setCell ⟨g, 2, none⟩ v2).setCell ⟨g, 3, none⟩ v3).setCell ⟨g, 4, none⟩ v4).setCell ⟨g, 5, none⟩ v5) :=
  ⟨a, n, c, b, m, d, a', n', c', b', m', d', rfl, (h1.set6 hgB _ _ _ _ _ _).mono (by omega), (h2.set6 hgB _ _ _ _ _ _).mono (by omega), (h3.set6 hgB2 _ _ _ _ _ _).mono (by omega), (h4.set6 hgB2 _ _ _ _ _ _).mono (by omega), hD, Below.set6 hB hg _ _ _ _ _ _⟩

set_option maxRecDepth 100000 in
set_option maxHeartbeats 8000000 in
theorem kszero {w : World}  :
    Calls Tryz.prog 204 #[.agg #[]] w (RetSl w 0 0) := by
  have H := hid (fun w => knum (w := w) 0 (by omega) (by omega))
  rw [show ((0 : Int) : Rat) = 0 from rfl] at H
  have H0 := hid (fun w => knum (w := w) 0 (by omega) (by omega))
  rw [show ((0 : Int) : Rat) = 0 from rfl] at H0
  have hent := ent2 w #[] #[Value.bool false, Value.slice none 0 0, Value.slice none 0 0, Value.bool false, Value.slice none 0 0, Value.slice none 0 0] 74 73
  go_enter Tryz.func204, Tryz.ntmps204
  go_wp2_with fail
  generalize ((w.alloc (.cells #[] 74)).alloc (.cells #[Value.bool false, Value.slice none 0 0, Value.slice none 0 0, Value.bool false, Value.slice none 0 0, Value.slice none 0 0] 73)) = W0 at hent ⊢
  obtain ⟨V_0, R0_0, hbel_0, hsz_0⟩ := hent
  have cR0_0_0 : _ = some (Value.bool false) := R0_0.cell 0
  have fR0_0_0 := R0_0.free 0
  have cR0_0_1 : _ = some (Value.slice none 0 0) := R0_0.cell 1
  have fR0_0_1 := R0_0.free 1
  have cR0_0_2 : _ = some (Value.slice none 0 0) := R0_0.cell 2
  have fR0_0_2 := R0_0.free 2
  have cR0_0_3 : _ = some (Value.bool false) := R0_0.cell 3
  have fR0_0_3 := R0_0.free 3
  have cR0_0_4 : _ = some (Value.slice none 0 0) := R0_0.cell 4
  have fR0_0_4 := R0_0.free 4
  have cR0_0_5 : _ = some (Value.slice none 0 0) := R0_0.cell 5
  have fR0_0_5 := R0_0.free 5
  go_wp2_with fail
  refine (H.out _).mono ?_
  rintro e w1 ⟨pa, pn, pc, pb, pm, pd, rfl, hO, hO', hDp, hB⟩
  have hB_1 : Below W0.heap.size W0 w1 := (bl.next hB)
  have V_1 := V_0.next hB_1
  have R0_1 := R0_0.next hB_1
  have cR0_1_0 : _ = some (Value.bool false) := R0_1.cell 0
  have fR0_1_0 := R0_1.free 0
  have cR0_1_1 : _ = some (Value.slice none 0 0) := R0_1.cell 1
  have fR0_1_1 := R0_1.free 1
  have cR0_1_2 : _ = some (Value.slice none 0 0) := R0_1.cell 2
  have fR0_1_2 := R0_1.free 2
  have cR0_1_3 : _ = some (Value.bool false) := R0_1.cell 3
  have fR0_1_3 := R0_1.free 3
  have cR0_1_4 : _ = some (Value.slice none 0 0) := R0_1.cell 4
  have fR0_1_4 := R0_1.free 4
  have cR0_1_5 : _ = some (Value.slice none 0 0) := R0_1.cell 5
  have fR0_1_5 := R0_1.free 5
  have hbel_1 := hbel_0.next hB_1
  have hsz_1 := hB_1.size
  clear V_0 R0_0 cR0_0_0 fR0_0_0 cR0_0_1 fR0_0_1 cR0_0_2 fR0_0_2 cR0_0_3 fR0_0_3 cR0_0_4 fR0_0_4 cR0_0_5 fR0_0_5 hbel_0 hB_1
  have Op_1 := hO
  have ltOp := hO.ltB
  have Pp_1 := hO'
  have ltPp := hO'.ltB
  clear hO hO'
  try clear hB
  go_wp2_with fail
  refine (H0.out _).mono ?_
  rintro e w2 ⟨qa, qn, qc, qb, qm, qd, rfl, hO, hO', hDq, hB⟩
  have hB_2 : Below w1.heap.size w1 w2 := (bl.next hB)
  have V_2 := V_1.next hB_2
  have R0_2 := R0_1.next hB_2
  have cR0_2_0 : _ = some (Value.bool false) := R0_2.cell 0
  have fR0_2_0 := R0_2.free 0
  have cR0_2_1 : _ = some (Value.slice none 0 0) := R0_2.cell 1
  have fR0_2_1 := R0_2.free 1
  have cR0_2_2 : _ = some (Value.slice none 0 0) := R0_2.cell 2
  have fR0_2_2 := R0_2.free 2
  have cR0_2_3 : _ = some (Value.bool false) := R0_2.cell 3
  have fR0_2_3 := R0_2.free 3
  have cR0_2_4 : _ = some (Value.slice none 0 0) := R0_2.cell 4
  have fR0_2_4 := R0_2.free 4
  have cR0_2_5 : _ = some (Value.slice none 0 0) := R0_2.cell 5
  have fR0_2_5 := R0_2.free 5
  have Op_2 := Op_1.below hB_2
  have Pp_2 := Pp_1.below hB_2
  have hbel_2 := hbel_1.next hB_2
  have hsz_2 := hB_2.size
  clear V_1 R0_1 cR0_1_0 fR0_1_0 cR0_1_1 fR0_1_1 cR0_1_2 fR0_1_2 cR0_1_3 fR0_1_3 cR0_1_4 fR0_1_4 cR0_1_5 fR0_1_5 Op_1 Pp_1 hbel_1 hB_2
  have Oq_2 := hO
  have ltOq := hO.ltB
  have Pq_2 := hO'
  have ltPq := hO'.ltB
  clear hO hO'
  try clear hB
  go_wp2
  refine bodyPost_ret (v := .agg #[.bool (decide (((0 : Rat)).num < 0)), .slice pa pn pc, .slice pb pm pd, .bool (decide (((0 : Rat)).num < 0)), .slice qa qn qc, .slice qb qm qd]) (by simp [results, Tryz.results204, go_sem, cR0_2_0, cR0_2_1, cR0_2_2, cR0_2_3, cR0_2_4, cR0_2_5]) rfl ?_
  exact retsl_set Op_2 Pp_2 Oq_2 Pq_2 ⟨hDp, (ltOp.diff Oq_2 (by omega)).symm, (ltOp.diff Pq_2 (by omega)).symm, (ltPp.diff Oq_2 (by omega)).symm, (ltPp.diff Pq_2 (by omega)).symm, hDq⟩ hbel_2 (by omega) (by omega) (by omega)

set_option maxRecDepth 100000 in
set_option maxHeartbeats 8000000 in
theorem ksone {w : World}  :
    Calls Tryz.prog 203 #[.agg #[]] w (RetSl w 1 0) := by
  have H := hid (fun w => knum (w := w) 1 (by omega) (by omega))
  rw [show ((1 : Int) : Rat) = 1 from rfl] at H
  have H0 := hid (fun w => knum (w := w) 0 (by omega) (by omega))
  rw [show ((0 : Int) : Rat) = 0 from rfl] at H0
  have hent := ent2 w #[] #[Value.bool false, Value.slice none 0 0, Value.slice none 0 0, Value.bool false, Value.slice none 0 0, Value.slice none 0 0] 74 73
  go_enter Tryz.func203, Tryz.ntmps203
  go_wp2_with fail
  generalize ((w.alloc (.cells #[] 74)).alloc (.cells #[Value.bool false, Value.slice none 0 0, Value.slice none 0 0, Value.bool false, Value.slice none 0 0, Value.slice none 0 0] 73)) = W0 at hent ⊢
  obtain ⟨V_0, R0_0, hbel_0, hsz_0⟩ := hent
  have cR0_0_0 : _ = some (Value.bool false) := R0_0.cell 0
  have fR0_0_0 := R0_0.free 0
  have cR0_0_1 : _ = some (Value.slice none 0 0) := R0_0.cell 1
  have fR0_0_1 := R0_0.free 1
  have cR0_0_2 : _ = some (Value.slice none 0 0) := R0_0.cell 2
  have fR0_0_2 := R0_0.free 2
  have cR0_0_3 : _ = some (Value.bool false) := R0_0.cell 3
  have fR0_0_3 := R0_0.free 3
  have cR0_0_4 : _ = some (Value.slice none 0 0) := R0_0.cell 4
  have fR0_0_4 := R0_0.free 4
  have cR0_0_5 : _ = some (Value.slice none 0 0) := R0_0.cell 5
  have fR0_0_5 := R0_0.free 5
  go_wp2_with fail
  refine (H.out _).mono ?_
  rintro e w1 ⟨pa, pn, pc, pb, pm, pd, rfl, hO, hO', hDp, hB⟩
  have hB_1 : Below W0.heap.size W0 w1 := (bl.next hB)
  have V_1 := V_0.next hB_1
  have R0_1 := R0_0.next hB_1
  have cR0_1_0 : _ = some (Value.bool false) := R0_1.cell 0
  have fR0_1_0 := R0_1.free 0
  have cR0_1_1 : _ = some (Value.slice none 0 0) := R0_1.cell 1
  have fR0_1_1 := R0_1.free 1
  have cR0_1_2 : _ = some (Value.slice none 0 0) := R0_1.cell 2
  have fR0_1_2 := R0_1.free 2
  have cR0_1_3 : _ = some (Value.bool false) := R0_1.cell 3
  have fR0_1_3 := R0_1.free 3
  have cR0_1_4 : _ = some (Value.slice none 0 0) := R0_1.cell 4
  have fR0_1_4 := R0_1.free 4
  have cR0_1_5 : _ = some (Value.slice none 0 0) := R0_1.cell 5
  have fR0_1_5 := R0_1.free 5
  have hbel_1 := hbel_0.next hB_1
  have hsz_1 := hB_1.size
  clear V_0 R0_0 cR0_0_0 fR0_0_0 cR0_0_1 fR0_0_1 cR0_0_2 fR0_0_2 cR0_0_3 fR0_0_3 cR0_0_4 fR0_0_4 cR0_0_5 fR0_0_5 hbel_0 hB_1
  have Op_1 := hO
  have ltOp := hO.ltB
  have Pp_1 := hO'
  have ltPp := hO'.ltB
  clear hO hO'
  try clear hB
  go_wp2_with fail
  refine (H0.out _).mono ?_
  rintro e w2 ⟨qa, qn, qc, qb, qm, qd, rfl, hO, hO', hDq, hB⟩
  have hB_2 : Below w1.heap.size w1 w2 := (bl.next hB)
  have V_2 := V_1.next hB_2
  have R0_2 := R0_1.next hB_2
  have cR0_2_0 : _ = some (Value.bool false) := R0_2.cell 0
  have fR0_2_0 := R0_2.free 0
  have cR0_2_1 : _ = some (Value.slice none 0 0) := R0_2.cell 1
  have fR0_2_1 := R0_2.free 1
  have cR0_2_2 : _ = some (Value.slice none 0 0) := R0_2.cell 2
  have fR0_2_2 := R0_2.free 2
  have cR0_2_3 : _ = some (Value.bool false) := R0_2.cell 3
  have fR0_2_3 := R0_2.free 3
  have cR0_2_4 : _ = some (Value.slice none 0 0) := R0_2.cell 4
  have fR0_2_4 := R0_2.free 4
  have cR0_2_5 : _ = some (Value.slice none 0 0) := R0_2.cell 5
  have fR0_2_5 := R0_2.free 5
  have Op_2 := Op_1.below hB_2
  have Pp_2 := Pp_1.below hB_2
  have hbel_2 := hbel_1.next hB_2
  have hsz_2 := hB_2.size
  clear V_1 R0_1 cR0_1_0 fR0_1_0 cR0_1_1 fR0_1_1 cR0_1_2 fR0_1_2 cR0_1_3 fR0_1_3 cR0_1_4 fR0_1_4 cR0_1_5 fR0_1_5 Op_1 Pp_1 hbel_1 hB_2
  have Oq_2 := hO
  have ltOq := hO.ltB
  have Pq_2 := hO'
  have ltPq := hO'.ltB
  clear hO hO'
  try clear hB
  go_wp2
  refine bodyPost_ret (v := .agg #[.bool (decide (((1 : Rat)).num < 0)), .slice pa pn pc, .slice pb pm pd, .bool (decide (((0 : Rat)).num < 0)), .slice qa qn qc, .slice qb qm qd]) (by simp [results, Tryz.results203, go_sem, cR0_2_0, cR0_2_1, cR0_2_2, cR0_2_3, cR0_2_4, cR0_2_5]) rfl ?_
  exact retsl_set Op_2 Pp_2 Oq_2 Pq_2 ⟨hDp, (ltOp.diff Oq_2 (by omega)).symm, (ltOp.diff Pq_2 (by omega)).symm, (ltPp.diff Oq_2 (by omega)).symm, (ltPp.diff Pq_2 (by omega)).symm, hDq⟩ hbel_2 (by omega) (by omega) (by omega)

set_option maxRecDepth 100000 in
set_option maxHeartbeats 16000000 in
theorem ksadd {w : World} {J : Nat} {a1 b1 : Option Addr} {n1 c1 m1 d1 : Nat} {s1 : Bool} {x1 : Rat} (h1 : RdQ J w s1 a1 n1 c1 b1 m1 d1 x1) {a2 b2 : Option Addr} {n2 c2 m2 d2 : Nat} {s2 : Bool} {x2 : Rat} (h2 : RdQ J w s2 a2 n2 c2 b2 m2 d2 x2) {a3 b3 : Option Addr} {n3 c3 m3 d3 : Nat} {s3 : Bool} {y1 : Rat} (h3 : RdQ J w s3 a3 n3 c3 b3 m3 d3 y1) {a4 b4 : Option Addr} {n4 c4 m4 d4 : Nat} {s4 : Bool} {y2 : Rat} (h4 : RdQ J w s4 a4 n4 c4 b4 m4 d4 y2) (hJ1 : 1 ≤ J) (hJ : J ≤ 100000) :
    Calls Tryz.prog 202 #[.agg #[], .agg #[.bool s1, .slice a1 n1 c1, .slice b1 m1 d1, .bool s2, .slice a2 n2 c2, .slice b2 m2 d2], .agg #[.bool s3, .slice a3 n3 c3, .slice b3 m3 d3, .bool s4, .slice a4 n4 c4, .slice b4 m4 d4]] w (RetSl w (x1 + y1) (x2 + y2)) := by
  have hent := ent4 w #[] #[Value.bool s1, Value.slice a1 n1 c1, Value.slice b1 m1 d1, Value.bool s2, Value.slice a2 n2 c2, Value.slice b2 m2 d2] #[Value.bool s3, Value.slice a3 n3 c3, Value.slice b3 m3 d3, Value.bool s4, Value.slice a4 n4 c4, Value.slice b4 m4 d4] #[Value.bool false, Value.slice none 0 0, Value.slice none 0 0, Value.bool false, Value.slice none 0 0, Value.slice none 0 0] 74 73 73 73
  go_enter Tryz.func202, Tryz.ntmps202
  go_wp2_with fail
  generalize ((((w.alloc (.cells #[] 74)).alloc (.cells #[Value.bool s1, Value.slice a1 n1 c1, Value.slice b1 m1 d1, Value.bool s2, Value.slice a2 n2 c2, Value.slice b2 m2 d2] 73)).alloc (.cells #[Value.bool s3, Value.slice a3 n3 c3, Value.slice b3 m3 d3, Value.bool s4, Value.slice a4 n4 c4, Value.slice b4 m4 d4] 73)).alloc (.cells #[Value.bool false, Value.slice none 0 0, Value.slice none 0 0, Value.bool false, Value.slice none 0 0, Value.slice none 0 0] 73)) = W0 at hent ⊢
  obtain ⟨V_0, X_0, Y_0, R0_0, hbel_0, hsz_0⟩ := hent
  have cX_0_0 : _ = some (Value.bool s1) := X_0.cell 0
  have cX_0_1 : _ = some (Value.slice a1 n1 c1) := X_0.cell 1
  have cX_0_2 : _ = some (Value.slice b1 m1 d1) := X_0.cell 2
  have cX_0_3 : _ = some (Value.bool s2) := X_0.cell 3
  have cX_0_4 : _ = some (Value.slice a2 n2 c2) := X_0.cell 4
  have cX_0_5 : _ = some (Value.slice b2 m2 d2) := X_0.cell 5
  have cY_0_0 : _ = some (Value.bool s3) := Y_0.cell 0
  have cY_0_1 : _ = some (Value.slice a3 n3 c3) := Y_0.cell 1
  have cY_0_2 : _ = some (Value.slice b3 m3 d3) := Y_0.cell 2
  have cY_0_3 : _ = some (Value.bool s4) := Y_0.cell 3
  have cY_0_4 : _ = some (Value.slice a4 n4 c4) := Y_0.cell 4
  have cY_0_5 : _ = some (Value.slice b4 m4 d4) := Y_0.cell 5
  have cR0_0_0 : _ = some (Value.bool false) := R0_0.cell 0
  have fR0_0_0 := R0_0.free 0
  have cR0_0_1 : _ = some (Value.slice none 0 0) := R0_0.cell 1
  have fR0_0_1 := R0_0.free 1
  have cR0_0_2 : _ = some (Value.slice none 0 0) := R0_0.cell 2
  have fR0_0_2 := R0_0.free 2
  have cR0_0_3 : _ = some (Value.bool false) := R0_0.cell 3
  have fR0_0_3 := R0_0.free 3
  have cR0_0_4 : _ = some (Value.slice none 0 0) := R0_0.cell 4
  have fR0_0_4 := R0_0.free 4
  have cR0_0_5 : _ = some (Value.slice none 0 0) := R0_0.cell 5
  have fR0_0_5 := R0_0.free 5
  have h1_0 := h1.below hbel_0
  clear h1
  have h2_0 := h2.below hbel_0
  clear h2
  have h3_0 := h3.below hbel_0
  clear h3
  have h4_0 := h4.below hbel_0
  clear h4
  go_wp2_with fail
  go_region_held3 (fun w' => w'.cell? ⟨w.heap.size + 1, 0, none⟩ = some (Value.bool s1) ∧ w'.cell? ⟨w.heap.size + 1, 1, none⟩ = some (Value.slice a1 n1 c1) ∧ w'.cell? ⟨w.heap.size + 1, 2, none⟩ = some (Value.slice b1 m1 d1) ∧ w'.cell? ⟨w.heap.size + 1, 3, none⟩ = some (Value.bool s2) ∧ w'.cell? ⟨w.heap.size + 1, 4, none⟩ = some (Value.slice a2 n2 c2) ∧ w'.cell? ⟨w.heap.size + 1, 5, none⟩ = some (Value.slice b2 m2 d2) ∧ w'.cell? ⟨w.heap.size + 1 + 1, 0, none⟩ = some (Value.bool s3) ∧ w'.cell? ⟨w.heap.size + 1 + 1, 1, none⟩ = some (Value.slice a3 n3 c3) ∧ w'.cell? ⟨w.heap.size + 1 + 1, 2, none⟩ = some (Value.slice b3 m3 d3) ∧ w'.cell? ⟨w.heap.size + 1 + 1, 3, none⟩ = some (Value.bool s4) ∧ w'.cell? ⟨w.heap.size + 1 + 1, 4, none⟩ = some (Value.slice a4 n4 c4) ∧ w'.cell? ⟨w.heap.size + 1 + 1, 5, none⟩ = some (Value.slice b4 m4 d4))
    (first | with_reducible exact ⟨cX_0_0, cX_0_1, cX_0_2, cX_0_3, cX_0_4, cX_0_5, cY_0_0, cY_0_1, cY_0_2, cY_0_3, cY_0_4, cY_0_5⟩ | with_reducible exact ⟨cX_1_0, cX_1_1, cX_1_2, cX_1_3, cX_1_4, cX_1_5, cY_1_0, cY_1_1, cY_1_2, cY_1_3, cY_1_4, cY_1_5⟩ | with_reducible exact ⟨cX_2_0, cX_2_1, cX_2_2, cX_2_3, cX_2_4, cX_2_5, cY_2_0, cY_2_1, cY_2_2, cY_2_3, cY_2_4, cY_2_5⟩ | with_reducible exact ⟨(cell_set6 (by omega) _ _ _ _ _ _).trans (cX_2_0), (cell_set6 (by omega) _ _ _ _ _ _).trans (cX_2_1), (cell_set6 (by omega) _ _ _ _ _ _).trans (cX_2_2), (cell_set6 (by omega) _ _ _ _ _ _).trans (cX_2_3), (cell_set6 (by omega) _ _ _ _ _ _).trans (cX_2_4), (cell_set6 (by omega) _ _ _ _ _ _).trans (cX_2_5), (cell_set6 (by omega) _ _ _ _ _ _).trans (cY_2_0), (cell_set6 (by omega) _ _ _ _ _ _).trans (cY_2_1), (cell_set6 (by omega) _ _ _ _ _ _).trans (cY_2_2), (cell_set6 (by omega) _ _ _ _ _ _).trans (cY_2_3), (cell_set6 (by omega) _ _ _ _ _ _).trans (cY_2_4), (cell_set6 (by omega) _ _ _ _ _ _).trans (cY_2_5)⟩ | go_keep)
    (first
      | (go_at_call 55; ((with_reducible refine (qadd (h1_0.below bl) (by omega) (h3_0.below bl) (by omega)).mono ?_); (rintro e w1 ⟨pa, pn, pc, pb, pm, pd, rfl, hO, hO', hDp, hB⟩; have hB_1 : Below W0.heap.size W0 w1 := (bl.next hB); have V_1 := V_0.next hB_1; have X_1 := X_0.next hB_1; have cX_1_0 : _ = some (Value.bool s1) := X_1.cell 0; have cX_1_1 : _ = some (Value.slice a1 n1 c1) := X_1.cell 1; have cX_1_2 : _ = some (Value.slice b1 m1 d1) := X_1.cell 2; have cX_1_3 : _ = some (Value.bool s2) := X_1.cell 3; have cX_1_4 : _ = some (Value.slice a2 n2 c2) := X_1.cell 4; have cX_1_5 : _ = some (Value.slice b2 m2 d2) := X_1.cell 5; have Y_1 := Y_0.next hB_1; have cY_1_0 : _ = some (Value.bool s3) := Y_1.cell 0; have cY_1_1 : _ = some (Value.slice a3 n3 c3) := Y_1.cell 1; have cY_1_2 : _ = some (Value.slice b3 m3 d3) := Y_1.cell 2; have cY_1_3 : _ = some (Value.bool s4) := Y_1.cell 3; have cY_1_4 : _ = some (Value.slice a4 n4 c4) := Y_1.cell 4; have cY_1_5 : _ = some (Value.slice b4 m4 d4) := Y_1.cell 5; have R0_1 := R0_0.next hB_1; have cR0_1_0 : _ = some (Value.bool false) := R0_1.cell 0; have fR0_1_0 := R0_1.free 0; have cR0_1_1 : _ = some (Value.slice none 0 0) := R0_1.cell 1; have fR0_1_1 := R0_1.free 1; have cR0_1_2 : _ = some (Value.slice none 0 0) := R0_1.cell 2; have fR0_1_2 := R0_1.free 2; have cR0_1_3 : _ = some (Value.bool false) := R0_1.cell 3; have fR0_1_3 := R0_1.free 3; have cR0_1_4 : _ = some (Value.slice none 0 0) := R0_1.cell 4; have fR0_1_4 := R0_1.free 4; have cR0_1_5 : _ = some (Value.slice none 0 0) := R0_1.cell 5; have fR0_1_5 := R0_1.free 5; have h1_1 := h1_0.below hB_1; have h2_1 := h2_0.below hB_1; have h3_1 := h3_0.below hB_1; have h4_1 := h4_0.below hB_1; have hbel_1 := hbel_0.next hB_1; have hsz_1 := hB_1.size; clear V_0 X_0 cX_0_0 cX_0_1 cX_0_2 cX_0_3 cX_0_4 cX_0_5 Y_0 cY_0_0 cY_0_1 cY_0_2 cY_0_3 cY_0_4 cY_0_5 R0_0 cR0_0_0 fR0_0_0 cR0_0_1 fR0_0_1 cR0_0_2 fR0_0_2 cR0_0_3 fR0_0_3 cR0_0_4 fR0_0_4 cR0_0_5 fR0_0_5 h1_0 h2_0 h3_0 h4_0 hbel_0 hB_1; have Op_1 := (show Own W0.heap.size _ _ _ _ _ from hO); have ltOp := (show Own W0.heap.size _ _ _ _ _ from hO).ltB; have Pp_1 := (show Own W0.heap.size _ _ _ _ _ from hO'); have ltPp := (show Own W0.heap.size _ _ _ _ _ from hO').ltB; clear hO hO'; try clear hB)))
      | (go_at_call 55; ((with_reducible refine (qadd (h2_1.below bl) (by omega) (h4_1.below bl) (by omega)).mono ?_); (rintro e w2 ⟨qa, qn, qc, qb, qm, qd, rfl, hO, hO', hDq, hB⟩; have hB_2 : Below w1.heap.size w1 w2 := (bl.next hB); have V_2 := V_1.next hB_2; have X_2 := X_1.next hB_2; have cX_2_0 : _ = some (Value.bool s1) := X_2.cell 0; have cX_2_1 : _ = some (Value.slice a1 n1 c1) := X_2.cell 1; have cX_2_2 : _ = some (Value.slice b1 m1 d1) := X_2.cell 2; have cX_2_3 : _ = some (Value.bool s2) := X_2.cell 3; have cX_2_4 : _ = some (Value.slice a2 n2 c2) := X_2.cell 4; have cX_2_5 : _ = some (Value.slice b2 m2 d2) := X_2.cell 5; have Y_2 := Y_1.next hB_2; have cY_2_0 : _ = some (Value.bool s3) := Y_2.cell 0; have cY_2_1 : _ = some (Value.slice a3 n3 c3) := Y_2.cell 1; have cY_2_2 : _ = some (Value.slice b3 m3 d3) := Y_2.cell 2; have cY_2_3 : _ = some (Value.bool s4) := Y_2.cell 3; have cY_2_4 : _ = some (Value.slice a4 n4 c4) := Y_2.cell 4; have cY_2_5 : _ = some (Value.slice b4 m4 d4) := Y_2.cell 5; have R0_2 := R0_1.next hB_2; have cR0_2_0 : _ = some (Value.bool false) := R0_2.cell 0; have fR0_2_0 := R0_2.free 0; have cR0_2_1 : _ = some (Value.slice none 0 0) := R0_2.cell 1; have fR0_2_1 := R0_2.free 1; have cR0_2_2 : _ = some (Value.slice none 0 0) := R0_2.cell 2; have fR0_2_2 := R0_2.free 2; have cR0_2_3 : _ = some (Value.bool false) := R0_2.cell 3; have fR0_2_3 := R0_2.free 3; have cR0_2_4 : _ = some (Value.slice none 0 0) := R0_2.cell 4; have fR0_2_4 := R0_2.free 4; have cR0_2_5 : _ = some (Value.slice none 0 0) := R0_2.cell 5; have fR0_2_5 := R0_2.free 5; have h1_2 := h1_1.below hB_2; have h2_2 := h2_1.below hB_2; have h3_2 := h3_1.below hB_2; have h4_2 := h4_1.below hB_2; have Op_2 := Op_1.below hB_2; have Pp_2 := Pp_1.below hB_2; have hbel_2 := hbel_1.next hB_2; have hsz_2 := hB_2.size; clear V_1 X_1 cX_1_0 cX_1_1 cX_1_2 cX_1_3 cX_1_4 cX_1_5 Y_1 cY_1_0 cY_1_1 cY_1_2 cY_1_3 cY_1_4 cY_1_5 R0_1 cR0_1_0 fR0_1_0 cR0_1_1 fR0_1_1 cR0_1_2 fR0_1_2 cR0_1_3 fR0_1_3 cR0_1_4 fR0_1_4 cR0_1_5 fR0_1_5 h1_1 h2_1 h3_1 h4_1 Op_1 Pp_1 hbel_1 hB_2; have Oq_2 := (show Own w1.heap.size _ _ _ _ _ from hO); have ltOq := (show Own w1.heap.size _ _ _ _ _ from hO).ltB; have Pq_2 := (show Own w1.heap.size _ _ _ _ _ from hO'); have ltPq := (show Own w1.heap.size _ _ _ _ _ from hO').ltB; clear hO hO'; try clear hB))))
  go_wp2
  refine bodyPost_ret (v := .agg #[.bool (decide ((x1 + y1).num < 0)), .slice pa pn pc, .slice pb pm pd, .bool (decide ((x2 + y2).num < 0)), .slice qa qn qc, .slice qb qm qd]) (by simp [results, Tryz.results202, go_sem, cR0_2_0, cR0_2_1, cR0_2_2, cR0_2_3, cR0_2_4, cR0_2_5]) rfl ?_
  exact retsl_set Op_2 Pp_2 Oq_2 Pq_2 ⟨hDp, (ltOp.diff Oq_2 (by omega)).symm, (ltOp.diff Pq_2 (by omega)).symm, (ltPp.diff Oq_2 (by omega)).symm, (ltPp.diff Pq_2 (by omega)).symm, hDq⟩ hbel_2 (by omega) (by omega) (by omega)

set_option maxRecDepth 100000 in
set_option maxHeartbeats 16000000 in
theorem ksmul {w : World} {J : Nat} {a1 b1 : Option Addr} {n1 c1 m1 d1 : Nat} {s1 : Bool} {x1 : Rat} (h1 : RdQ J w s1 a1 n1 c1 b1 m1 d1 x1) {a2 b2 : Option Addr} {n2 c2 m2 d2 : Nat} {s2 : Bool} {x2 : Rat} (h2 : RdQ J w s2 a2 n2 c2 b2 m2 d2 x2) {a3 b3 : Option Addr} {n3 c3 m3 d3 : Nat} {s3 : Bool} {y1 : Rat} (h3 : RdQ J w s3 a3 n3 c3 b3 m3 d3 y1) {a4 b4 : Option Addr} {n4 c4 m4 d4 : Nat} {s4 : Bool} {y2 : Rat} (h4 : RdQ J w s4 a4 n4 c4 b4 m4 d4 y2) (hJ1 : 1 ≤ J) (hJ : J ≤ 100000) :
    Calls Tryz.prog 36 #[.agg #[], .agg #[.bool s1, .slice a1 n1 c1, .slice b1 m1 d1, .bool s2, .slice a2 n2 c2, .slice b2 m2 d2], .agg #[.bool s3, .slice a3 n3 c3, .slice b3 m3 d3, .bool s4, .slice a4 n4 c4, .slice b4 m4 d4]] w (RetSl w (x1 * y1) (x1 * y2 + x2 * y1)) := by
  have q1 := hid ((h1.qs hJ1).mul (h4.qs hJ1))
  have q2 := hid ((h2.qs hJ1).mul (h3.qs hJ1))
  obtain ⟨z1, hz10⟩ : ∃ z, x1 * y2 = z := ⟨_, rfl⟩
  obtain ⟨z2, hz20⟩ : ∃ z, x2 * y1 = z := ⟨_, rfl⟩
  rw [hz10] at q1 ⊢
  rw [hz20] at q2 ⊢
  have hz1 := hid hz10
  have hz2 := hid hz20
  clear hz10 hz20
  have hent := ent4 w #[] #[Value.bool s1, Value.slice a1 n1 c1, Value.slice b1 m1 d1, Value.bool s2, Value.slice a2 n2 c2, Value.slice b2 m2 d2] #[Value.bool s3, Value.slice a3 n3 c3, Value.slice b3 m3 d3, Value.bool s4, Value.slice a4 n4 c4, Value.slice b4 m4 d4] #[Value.bool false, Value.slice none 0 0, Value.slice none 0 0, Value.bool false, Value.slice none 0 0, Value.slice none 0 0] 74 73 73 73
  go_enter Tryz.func36, Tryz.ntmps36
  go_wp2_with fail
  generalize ((((w.alloc (.cells #[] 74)).alloc (.cells #[Value.bool s1, Value.slice a1 n1 c1, Value.slice b1 m1 d1, Value.bool s2, Value.slice a2 n2 c2, Value.slice b2 m2 d2] 73)).alloc (.cells #[Value.bool s3, Value.slice a3 n3 c3, Value.slice b3 m3 d3, Value.bool s4, Value.slice a4 n4 c4, Value.slice b4 m4 d4] 73)).alloc (.cells #[Value.bool false, Value.slice none 0 0, Value.slice none 0 0, Value.bool false, Value.slice none 0 0, Value.slice none 0 0] 73)) = W0 at hent ⊢
  obtain ⟨V_0, X_0, Y_0, R0_0, hbel_0, hsz_0⟩ := hent
  have cX_0_0 : _ = some (Value.bool s1) := X_0.cell 0
  have cX_0_1 : _ = some (Value.slice a1 n1 c1) := X_0.cell 1
  have cX_0_2 : _ = some (Value.slice b1 m1 d1) := X_0.cell 2
  have cX_0_3 : _ = some (Value.bool s2) := X_0.cell 3
  have cX_0_4 : _ = some (Value.slice a2 n2 c2) := X_0.cell 4
  have cX_0_5 : _ = some (Value.slice b2 m2 d2) := X_0.cell 5
  have cY_0_0 : _ = some (Value.bool s3) := Y_0.cell 0
  have cY_0_1 : _ = some (Value.slice a3 n3 c3) := Y_0.cell 1
  have cY_0_2 : _ = some (Value.slice b3 m3 d3) := Y_0.cell 2
  have cY_0_3 : _ = some (Value.bool s4) := Y_0.cell 3
  have cY_0_4 : _ = some (Value.slice a4 n4 c4) := Y_0.cell 4
  have cY_0_5 : _ = some (Value.slice b4 m4 d4) := Y_0.cell 5
  have cR0_0_0 : _ = some (Value.bool false) := R0_0.cell 0
  have fR0_0_0 := R0_0.free 0
  have cR0_0_1 : _ = some (Value.slice none 0 0) := R0_0.cell 1
  have fR0_0_1 := R0_0.free 1
  have cR0_0_2 : _ = some (Value.slice none 0 0) := R0_0.cell 2
  have fR0_0_2 := R0_0.free 2
  have cR0_0_3 : _ = some (Value.bool false) := R0_0.cell 3
  have fR0_0_3 := R0_0.free 3
  have cR0_0_4 : _ = some (Value.slice none 0 0) := R0_0.cell 4
  have fR0_0_4 := R0_0.free 4
  have cR0_0_5 : _ = some (Value.slice none 0 0) := R0_0.cell 5
  have fR0_0_5 := R0_0.free 5
  have h1_0 := h1.below hbel_0
  clear h1
  have h2_0 := h2.below hbel_0
  clear h2
  have h3_0 := h3.below hbel_0
  clear h3
  have h4_0 := h4.below hbel_0
  clear h4
  go_wp2_with fail
  go_region_held3 (fun w' => w'.cell? ⟨w.heap.size + 1, 0, none⟩ = some (Value.bool s1) ∧ w'.cell? ⟨w.heap.size + 1, 1, none⟩ = some (Value.slice a1 n1 c1) ∧ w'.cell? ⟨w.heap.size + 1, 2, none⟩ = some (Value.slice b1 m1 d1) ∧ w'.cell? ⟨w.heap.size + 1, 3, none⟩ = some (Value.bool s2) ∧ w'.cell? ⟨w.heap.size + 1, 4, none⟩ = some (Value.slice a2 n2 c2) ∧ w'.cell? ⟨w.heap.size + 1, 5, none⟩ = some (Value.slice b2 m2 d2) ∧ w'.cell? ⟨w.heap.size + 1 + 1, 0, none⟩ = some (Value.bool s3) ∧ w'.cell? ⟨w.heap.size + 1 + 1, 1, none⟩ = some (Value.slice a3 n3 c3) ∧ w'.cell? ⟨w.heap.size + 1 + 1, 2, none⟩ = some (Value.slice b3 m3 d3) ∧ w'.cell? ⟨w.heap.size + 1 + 1, 3, none⟩ = some (Value.bool s4) ∧ w'.cell? ⟨w.heap.size + 1 + 1, 4, none⟩ = some (Value.slice a4 n4 c4) ∧ w'.cell? ⟨w.heap.size + 1 + 1, 5, none⟩ = some (Value.slice b4 m4 d4))
    (first | with_reducible exact ⟨cX_0_0, cX_0_1, cX_0_2, cX_0_3, cX_0_4, cX_0_5, cY_0_0, cY_0_1, cY_0_2, cY_0_3, cY_0_4, cY_0_5⟩ | with_reducible exact ⟨cX_1_0, cX_1_1, cX_1_2, cX_1_3, cX_1_4, cX_1_5, cY_1_0, cY_1_1, cY_1_2, cY_1_3, cY_1_4, cY_1_5⟩ | with_reducible exact ⟨cX_2_0, cX_2_1, cX_2_2, cX_2_3, cX_2_4, cX_2_5, cY_2_0, cY_2_1, cY_2_2, cY_2_3, cY_2_4, cY_2_5⟩ | with_reducible exact ⟨cX_3_0, cX_3_1, cX_3_2, cX_3_3, cX_3_4, cX_3_5, cY_3_0, cY_3_1, cY_3_2, cY_3_3, cY_3_4, cY_3_5⟩ | with_reducible exact ⟨cX_4_0, cX_4_1, cX_4_2, cX_4_3, cX_4_4, cX_4_5, cY_4_0, cY_4_1, cY_4_2, cY_4_3, cY_4_4, cY_4_5⟩ | with_reducible exact ⟨(cell_set6 (by omega) _ _ _ _ _ _).trans (cX_4_0), (cell_set6 (by omega) _ _ _ _ _ _).trans (cX_4_1), (cell_set6 (by omega) _ _ _ _ _ _).trans (cX_4_2), (cell_set6 (by omega) _ _ _ _ _ _).trans (cX_4_3), (cell_set6 (by omega) _ _ _ _ _ _).trans (cX_4_4), (cell_set6 (by omega) _ _ _ _ _ _).trans (cX_4_5), (cell_set6 (by omega) _ _ _ _ _ _).trans (cY_4_0), (cell_set6 (by omega) _ _ _ _ _ _).trans (cY_4_1), (cell_set6 (by omega) _ _ _ _ _ _).trans (cY_4_2), (cell_set6 (by omega) _ _ _ _ _ _).trans (cY_4_3), (cell_set6 (by omega) _ _ _ _ _ _).trans (cY_4_4), (cell_set6 (by omega) _ _ _ _ _ _).trans (cY_4_5)⟩ | go_keep)
    (first
      | (go_at_call 73; ((with_reducible refine (qmul (h1_0.below bl) (by omega) (h3_0.below bl) (by omega)).mono ?_); (rintro e w1 ⟨pa, pn, pc, pb, pm, pd, rfl, hO, hO', hDp, hB⟩; have hB_1 : Below W0.heap.size W0 w1 := (bl.next hB); have V_1 := V_0.next hB_1; have X_1 := X_0.next hB_1; have cX_1_0 : _ = some (Value.bool s1) := X_1.cell 0; have cX_1_1 : _ = some (Value.slice a1 n1 c1) := X_1.cell 1; have cX_1_2 : _ = some (Value.slice b1 m1 d1) := X_1.cell 2; have cX_1_3 : _ = some (Value.bool s2) := X_1.cell 3; have cX_1_4 : _ = some (Value.slice a2 n2 c2) := X_1.cell 4; have cX_1_5 : _ = some (Value.slice b2 m2 d2) := X_1.cell 5; have Y_1 := Y_0.next hB_1; have cY_1_0 : _ = some (Value.bool s3) := Y_1.cell 0; have cY_1_1 : _ = some (Value.slice a3 n3 c3) := Y_1.cell 1; have cY_1_2 : _ = some (Value.slice b3 m3 d3) := Y_1.cell 2; have cY_1_3 : _ = some (Value.bool s4) := Y_1.cell 3; have cY_1_4 : _ = some (Value.slice a4 n4 c4) := Y_1.cell 4; have cY_1_5 : _ = some (Value.slice b4 m4 d4) := Y_1.cell 5; have R0_1 := R0_0.next hB_1; have cR0_1_0 : _ = some (Value.bool false) := R0_1.cell 0; have fR0_1_0 := R0_1.free 0; have cR0_1_1 : _ = some (Value.slice none 0 0) := R0_1.cell 1; have fR0_1_1 := R0_1.free 1; have cR0_1_2 : _ = some (Value.slice none 0 0) := R0_1.cell 2; have fR0_1_2 := R0_1.free 2; have cR0_1_3 : _ = some (Value.bool false) := R0_1.cell 3; have fR0_1_3 := R0_1.free 3; have cR0_1_4 : _ = some (Value.slice none 0 0) := R0_1.cell 4; have fR0_1_4 := R0_1.free 4; have cR0_1_5 : _ = some (Value.slice none 0 0) := R0_1.cell 5; have fR0_1_5 := R0_1.free 5; have h1_1 := h1_0.below hB_1; have h2_1 := h2_0.below hB_1; have h3_1 := h3_0.below hB_1; have h4_1 := h4_0.below hB_1; have hbel_1 := hbel_0.next hB_1; have hsz_1 := hB_1.size; clear V_0 X_0 cX_0_0 cX_0_1 cX_0_2 cX_0_3 cX_0_4 cX_0_5 Y_0 cY_0_0 cY_0_1 cY_0_2 cY_0_3 cY_0_4 cY_0_5 R0_0 cR0_0_0 fR0_0_0 cR0_0_1 fR0_0_1 cR0_0_2 fR0_0_2 cR0_0_3 fR0_0_3 cR0_0_4 fR0_0_4 cR0_0_5 fR0_0_5 h1_0 h2_0 h3_0 h4_0 hbel_0 hB_1; have Op_1 := (show Own W0.heap.size _ _ _ _ _ from hO); have ltOp := (show Own W0.heap.size _ _ _ _ _ from hO).ltB; have Pp_1 := (show Own W0.heap.size _ _ _ _ _ from hO'); have ltPp := (show Own W0.heap.size _ _ _ _ _ from hO').ltB; clear hO hO'; try clear hB)))
      | (go_at_call 73; ((with_reducible refine (qmul (h1_1.below bl) (by omega) (h4_1.below bl) (by omega)).mono ?_); (rw [hz1.out]; rintro e w2 ⟨ua, un, uc, ub, um, ud, rfl, hO, hO', hDu, hB⟩; have hB_2 : Below w1.heap.size w1 w2 := (bl.next hB); have V_2 := V_1.next hB_2; have X_2 := X_1.next hB_2; have cX_2_0 : _ = some (Value.bool s1) := X_2.cell 0; have cX_2_1 : _ = some (Value.slice a1 n1 c1) := X_2.cell 1; have cX_2_2 : _ = some (Value.slice b1 m1 d1) := X_2.cell 2; have cX_2_3 : _ = some (Value.bool s2) := X_2.cell 3; have cX_2_4 : _ = some (Value.slice a2 n2 c2) := X_2.cell 4; have cX_2_5 : _ = some (Value.slice b2 m2 d2) := X_2.cell 5; have Y_2 := Y_1.next hB_2; have cY_2_0 : _ = some (Value.bool s3) := Y_2.cell 0; have cY_2_1 : _ = some (Value.slice a3 n3 c3) := Y_2.cell 1; have cY_2_2 : _ = some (Value.slice b3 m3 d3) := Y_2.cell 2; have cY_2_3 : _ = some (Value.bool s4) := Y_2.cell 3; have cY_2_4 : _ = some (Value.slice a4 n4 c4) := Y_2.cell 4; have cY_2_5 : _ = some (Value.slice b4 m4 d4) := Y_2.cell 5; have R0_2 := R0_1.next hB_2; have cR0_2_0 : _ = some (Value.bool false) := R0_2.cell 0; have fR0_2_0 := R0_2.free 0; have cR0_2_1 : _ = some (Value.slice none 0 0) := R0_2.cell 1; have fR0_2_1 := R0_2.free 1; have cR0_2_2 : _ = some (Value.slice none 0 0) := R0_2.cell 2; have fR0_2_2 := R0_2.free 2; have cR0_2_3 : _ = some (Value.bool false) := R0_2.cell 3; have fR0_2_3 := R0_2.free 3; have cR0_2_4 : _ = some (Value.slice none 0 0) := R0_2.cell 4; have fR0_2_4 := R0_2.free 4; have cR0_2_5 : _ = some (Value.slice none 0 0) := R0_2.cell 5; have fR0_2_5 := R0_2.free 5; have h1_2 := h1_1.below hB_2; have h2_2 := h2_1.below hB_2; have h3_2 := h3_1.below hB_2; have h4_2 := h4_1.below hB_2; have Op_2 := Op_1.below hB_2; have Pp_2 := Pp_1.below hB_2; have hbel_2 := hbel_1.next hB_2; have hsz_2 := hB_2.size; clear V_1 X_1 cX_1_0 cX_1_1 cX_1_2 cX_1_3 cX_1_4 cX_1_5 Y_1 cY_1_0 cY_1_1 cY_1_2 cY_1_3 cY_1_4 cY_1_5 R0_1 cR0_1_0 fR0_1_0 cR0_1_1 fR0_1_1 cR0_1_2 fR0_1_2 cR0_1_3 fR0_1_3 cR0_1_4 fR0_1_4 cR0_1_5 fR0_1_5 h1_1 h2_1 h3_1 h4_1 Op_1 Pp_1 hbel_1 hB_2; have Z1_2 := hO.rdQ hO' q1.out; clear hO hO'; try clear hB)))
      | (go_at_call 73; ((with_reducible refine (qmul (h2_2.below bl) (by omega) (h3_2.below bl) (by omega)).mono ?_); (rw [hz2.out]; rintro e w3 ⟨va, vn, vc, vb, vm, vd, rfl, hO, hO', hDv, hB⟩; have hB_3 : Below w2.heap.size w2 w3 := (bl.next hB); have V_3 := V_2.next hB_3; have X_3 := X_2.next hB_3; have cX_3_0 : _ = some (Value.bool s1) := X_3.cell 0; have cX_3_1 : _ = some (Value.slice a1 n1 c1) := X_3.cell 1; have cX_3_2 : _ = some (Value.slice b1 m1 d1) := X_3.cell 2; have cX_3_3 : _ = some (Value.bool s2) := X_3.cell 3; have cX_3_4 : _ = some (Value.slice a2 n2 c2) := X_3.cell 4; have cX_3_5 : _ = some (Value.slice b2 m2 d2) := X_3.cell 5; have Y_3 := Y_2.next hB_3; have cY_3_0 : _ = some (Value.bool s3) := Y_3.cell 0; have cY_3_1 : _ = some (Value.slice a3 n3 c3) := Y_3.cell 1; have cY_3_2 : _ = some (Value.slice b3 m3 d3) := Y_3.cell 2; have cY_3_3 : _ = some (Value.bool s4) := Y_3.cell 3; have cY_3_4 : _ = some (Value.slice a4 n4 c4) := Y_3.cell 4; have cY_3_5 : _ = some (Value.slice b4 m4 d4) := Y_3.cell 5; have R0_3 := R0_2.next hB_3; have cR0_3_0 : _ = some (Value.bool false) := R0_3.cell 0; have fR0_3_0 := R0_3.free 0; have cR0_3_1 : _ = some (Value.slice none 0 0) := R0_3.cell 1; have fR0_3_1 := R0_3.free 1; have cR0_3_2 : _ = some (Value.slice none 0 0) := R0_3.cell 2; have fR0_3_2 := R0_3.free 2; have cR0_3_3 : _ = some (Value.bool false) := R0_3.cell 3; have fR0_3_3 := R0_3.free 3; have cR0_3_4 : _ = some (Value.slice none 0 0) := R0_3.cell 4; have fR0_3_4 := R0_3.free 4; have cR0_3_5 : _ = some (Value.slice none 0 0) := R0_3.cell 5; have fR0_3_5 := R0_3.free 5; have h1_3 := h1_2.below hB_3; have h2_3 := h2_2.below hB_3; have h3_3 := h3_2.below hB_3; have h4_3 := h4_2.below hB_3; have Op_3 := Op_2.below hB_3; have Pp_3 := Pp_2.below hB_3; have Z1_3 := Z1_2.below hB_3; have hbel_3 := hbel_2.next hB_3; have hsz_3 := hB_3.size; clear V_2 X_2 cX_2_0 cX_2_1 cX_2_2 cX_2_3 cX_2_4 cX_2_5 Y_2 cY_2_0 cY_2_1 cY_2_2 cY_2_3 cY_2_4 cY_2_5 R0_2 cR0_2_0 fR0_2_0 cR0_2_1 fR0_2_1 cR0_2_2 fR0_2_2 cR0_2_3 fR0_2_3 cR0_2_4 fR0_2_4 cR0_2_5 fR0_2_5 h1_2 h2_2 h3_2 h4_2 Op_2 Pp_2 Z1_2 hbel_2 hB_3; have Z2_3 := hO.rdQ hO' q2.out; clear hO hO'; try clear hB)))
      | (go_at_call 55; ((with_reducible refine (qadd (Z1_3.below bl) (by omega) (Z2_3.below bl) (by omega)).mono ?_); (rintro e w4 ⟨qa, qn, qc, qb, qm, qd, rfl, hO, hO', hDq, hB⟩; have hB_4 : Below w3.heap.size w3 w4 := (bl.next hB); have V_4 := V_3.next hB_4; have X_4 := X_3.next hB_4; have cX_4_0 : _ = some (Value.bool s1) := X_4.cell 0; have cX_4_1 : _ = some (Value.slice a1 n1 c1) := X_4.cell 1; have cX_4_2 : _ = some (Value.slice b1 m1 d1) := X_4.cell 2; have cX_4_3 : _ = some (Value.bool s2) := X_4.cell 3; have cX_4_4 : _ = some (Value.slice a2 n2 c2) := X_4.cell 4; have cX_4_5 : _ = some (Value.slice b2 m2 d2) := X_4.cell 5; have Y_4 := Y_3.next hB_4; have cY_4_0 : _ = some (Value.bool s3) := Y_4.cell 0; have cY_4_1 : _ = some (Value.slice a3 n3 c3) := Y_4.cell 1; have cY_4_2 : _ = some (Value.slice b3 m3 d3) := Y_4.cell 2; have cY_4_3 : _ = some (Value.bool s4) := Y_4.cell 3; have cY_4_4 : _ = some (Value.slice a4 n4 c4) := Y_4.cell 4; have cY_4_5 : _ = some (Value.slice b4 m4 d4) := Y_4.cell 5; have R0_4 := R0_3.next hB_4; have cR0_4_0 : _ = some (Value.bool false) := R0_4.cell 0; have fR0_4_0 := R0_4.free 0; have cR0_4_1 : _ = some (Value.slice none 0 0) := R0_4.cell 1; have fR0_4_1 := R0_4.free 1; have cR0_4_2 : _ = some (Value.slice none 0 0) := R0_4.cell 2; have fR0_4_2 := R0_4.free 2; have cR0_4_3 : _ = some (Value.bool false) := R0_4.cell 3; have fR0_4_3 := R0_4.free 3; have cR0_4_4 : _ = some (Value.slice none 0 0) := R0_4.cell 4; have fR0_4_4 := R0_4.free 4; have cR0_4_5 : _ = some (Value.slice none 0 0) := R0_4.cell 5; have fR0_4_5 := R0_4.free 5; have h1_4 := h1_3.below hB_4; have h2_4 := h2_3.below hB_4; have h3_4 := h3_3.below hB_4; have h4_4 := h4_3.below hB_4; have Op_4 := Op_3.below hB_4; have Pp_4 := Pp_3.below hB_4; have Z1_4 := Z1_3.below hB_4; have Z2_4 := Z2_3.below hB_4; have hbel_4 := hbel_3.next hB_4; have hsz_4 := hB_4.size; clear V_3 X_3 cX_3_0 cX_3_1 cX_3_2 cX_3_3 cX_3_4 cX_3_5 Y_3 cY_3_0 cY_3_1 cY_3_2 cY_3_3 cY_3_4 cY_3_5 R0_3 cR0_3_0 fR0_3_0 cR0_3_1 fR0_3_1 cR0_3_2 fR0_3_2 cR0_3_3 fR0_3_3 cR0_3_4 fR0_3_4 cR0_3_5 fR0_3_5 h1_3 h2_3 h3_3 h4_3 Op_3 Pp_3 Z1_3 Z2_3 hbel_3 hB_4; have Oq_4 := (show Own w3.heap.size _ _ _ _ _ from hO); have ltOq := (show Own w3.heap.size _ _ _ _ _ from hO).ltB; have Pq_4 := (show Own w3.heap.size _ _ _ _ _ from hO'); have ltPq := (show Own w3.heap.size _ _ _ _ _ from hO').ltB; clear hO hO'; try clear hB))))
  go_wp2
  refine bodyPost_ret (v := .agg #[.bool (decide ((x1 * y1).num < 0)), .slice pa pn pc, .slice pb pm pd, .bool (decide ((z1 + z2).num < 0)), .slice qa qn qc, .slice qb qm qd]) (by simp [results, Tryz.results36, go_sem, cR0_4_0, cR0_4_1, cR0_4_2, cR0_4_3, cR0_4_4, cR0_4_5]) rfl ?_
  exact retsl_set Op_4 Pp_4 Oq_4 Pq_4 ⟨hDp, (ltOp.diff Oq_4 (by omega)).symm, (ltOp.diff Pq_4 (by omega)).symm, (ltPp.diff Oq_4 (by omega)).symm, (ltPp.diff Pq_4 (by omega)).symm, hDq⟩ hbel_4 (by omega) (by omega) (by omega)

end Go.Proofs.YtokkfppchfmjcaaGreat
