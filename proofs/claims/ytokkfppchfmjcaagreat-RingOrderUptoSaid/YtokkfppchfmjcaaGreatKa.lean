/- WALKS OF RINGS, 1: numbers; fractions as a ring, and the greater of two. -/
import Derived.Test.YtokkfppchfmjcaaGreatQt
import Derived.Test.YtokkfppchfmjcaaGreatQn
namespace Go.Proofs.YtokkfppchfmjcaaGreat
set_option linter.unusedVariables false
set_option linter.unusedSimpArgs false
open Go.ChangeShapes Go.WideShapes Go.ChangeAt Go.RowKit Go.NatP

def RetBo (w : World) (b : Bool) (e : Ending) (w' : World) : Prop := e = .returned (.bool b) ∧ Below w.heap.size w w'
theorem divInt_1 (k : Int) : Rat.divInt k 1 = (k : Rat) := by
  have : Rat.divInt k ((1 : Nat) : Int) = mkRat k 1 := Rat.divInt_ofNat k 1
  rw [← Rat.mkRat_one k]; exact this
theorem sz_small {v J : Nat} (h : v < 4294967296) (hJ : 1 ≤ J) : Sz v J := (show Sz v 1 by show v < 4294967296 ^ 1; omega).mono (Nat.le_refl _) hJ
theorem qs_lit {q : Rat} {J : Nat} (h : q.num.natAbs < 4294967296) (h' : q.den < 4294967296) (hJ : 1 ≤ J) : QS q J := ⟨sz_small h hJ, sz_small h' hJ⟩

set_option maxRecDepth 100000 in
set_option maxHeartbeats 4000000 in
theorem knum {w : World} (k : Int) (h1 : -9223372036854775808 ≤ k) (h2 : k ≤ 9223372036854775807) :
    Calls Tryz.prog 200 #[.int .i64 k] w (RetQ w (k : Rat)) := by
  have H := hid (fun w => (qof (w := w) k 1 h1 h2 (by omega) (by omega)).mono fun e w' h => retqe_ok h (zE_pos (by decide)))
  rw [divInt_1 k] at H
  generalize hq0 : (k : Rat) = q at *
  clear hq0
  have hent := ent1 w #[Value.bool false, Value.slice none 0 0, Value.slice none 0 0] 39
  go_enter Tryz.func200, Tryz.ntmps200
  go_wp2_with fail
  generalize (w.alloc (.cells #[Value.bool false, Value.slice none 0 0, Value.slice none 0 0] 39)) = W0 at hent ⊢
  obtain ⟨R0_0, hbel_0, hsz_0⟩ := hent
  have cR0_0_0 : _ = some (Value.bool false) := R0_0.cell 0
  have fR0_0_0 := R0_0.free 0
  have cR0_0_1 : _ = some (Value.slice none 0 0) := R0_0.cell 1
  have fR0_0_1 := R0_0.free 1
  have cR0_0_2 : _ = some (Value.slice none 0 0) := R0_0.cell 2
  have fR0_0_2 := R0_0.free 2
  go_wp2_with fail
  refine (H.out _).mono ?_
  rintro e w1 ⟨qa, qn, qc, qb, qm, qd, rfl, hO, hO', hDq, hB⟩
  have hB_1 : Below W0.heap.size W0 w1 := (bl.next hB)
  have R0_1 := R0_0.next hB_1
  have cR0_1_0 : _ = some (Value.bool false) := R0_1.cell 0
  have fR0_1_0 := R0_1.free 0
  have cR0_1_1 : _ = some (Value.slice none 0 0) := R0_1.cell 1
  have fR0_1_1 := R0_1.free 1
  have cR0_1_2 : _ = some (Value.slice none 0 0) := R0_1.cell 2
  have fR0_1_2 := R0_1.free 2
  have hbel_1 := hbel_0.next hB_1
  have hsz_1 := hB_1.size
  clear R0_0 cR0_0_0 fR0_0_0 cR0_0_1 fR0_0_1 cR0_0_2 fR0_0_2 hbel_0 hB_1
  have Oq_1 := hO
  have ltOq := hO.ltB
  have Pq_1 := hO'
  have ltPq := hO'.ltB
  clear hO hO'
  try clear hB
  have hbx := blk_new w1 #[Value.bool (decide ((q).num < 0)), Value.slice qa qn qc, Value.slice qb qm qd] 39
  have hbB := (Below.refl w1.heap.size w1).alloc (Nat.le_refl _) (.cells #[Value.bool (decide ((q).num < 0)), Value.slice qa qn qc, Value.slice qb qm qd] 39)
  have hltN := hbx.lt
  have hB_2 : Below w1.heap.size w1 (w1.alloc (.cells #[Value.bool (decide ((q).num < 0)), Value.slice qa qn qc, Value.slice qb qm qd] 39)) := hbB
  have R0_2 := R0_1.next hB_2
  have cR0_2_0 : _ = some (Value.bool false) := R0_2.cell 0
  have fR0_2_0 := R0_2.free 0
  have cR0_2_1 : _ = some (Value.slice none 0 0) := R0_2.cell 1
  have fR0_2_1 := R0_2.free 1
  have cR0_2_2 : _ = some (Value.slice none 0 0) := R0_2.cell 2
  have fR0_2_2 := R0_2.free 2
  have Oq_2 := Oq_1.below hB_2
  have Pq_2 := Pq_1.below hB_2
  have hbel_2 := hbel_1.next hB_2
  have hsz_2 := hB_2.size
  clear hB_2
  have N_2 := hbx
  clear hbx hbB
  have cN_2_0 : _ = some (Value.bool (decide ((q).num < 0))) := N_2.cell 0
  have cN_2_1 : _ = some (Value.slice qa qn qc) := N_2.cell 1
  have cN_2_2 : _ = some (Value.slice qb qm qd) := N_2.cell 2
  go_wp2_with fail
  clear R0_1 cR0_1_0 fR0_1_0 cR0_1_1 fR0_1_1 cR0_1_2 fR0_1_2 Oq_1 Pq_1 hbel_1
  generalize (w1.alloc (.cells #[Value.bool (decide ((q).num < 0)), Value.slice qa qn qc, Value.slice qb qm qd] 39)) = v2 at *
  go_wp2
  refine bodyPost_ret (v := .agg #[.bool (decide ((q).num < 0)), .slice qa qn qc, .slice qb qm qd]) (by simp [results, Tryz.results200, go_sem, cR0_2_0, cR0_2_1, cR0_2_2]) rfl ?_
  exact retq_set Oq_2 Pq_2 hDq hbel_2 (by omega) (by omega)

set_option maxRecDepth 100000 in
set_option maxHeartbeats 4000000 in
theorem fhalf {w : World} (k l : Int) (h1 : -9223372036854775808 ≤ k) (h2 : k ≤ 9223372036854775807) (h3 : -9223372036854775808 ≤ l) (h4 : l ≤ 9223372036854775807) (hl : l ≠ 0) :
    Calls Tryz.prog 34 #[.int .i64 k, .int .i64 l] w (RetQ w (Rat.divInt k l)) := by
  have H := hid (fun w => rqsmall (w := w) k l h1 h2 h3 h4 hl)
  generalize Rat.divInt k l = q at *
  clear hl
  have hent := ent1 w #[Value.bool false, Value.slice none 0 0, Value.slice none 0 0] 39
  go_enter Tryz.func34, Tryz.ntmps34
  go_wp2_with fail
  generalize (w.alloc (.cells #[Value.bool false, Value.slice none 0 0, Value.slice none 0 0] 39)) = W0 at hent ⊢
  obtain ⟨R0_0, hbel_0, hsz_0⟩ := hent
  have cR0_0_0 : _ = some (Value.bool false) := R0_0.cell 0
  have fR0_0_0 := R0_0.free 0
  have cR0_0_1 : _ = some (Value.slice none 0 0) := R0_0.cell 1
  have fR0_0_1 := R0_0.free 1
  have cR0_0_2 : _ = some (Value.slice none 0 0) := R0_0.cell 2
  have fR0_0_2 := R0_0.free 2
  go_wp2_with fail
  refine (H.out _).mono ?_
  rintro e w1 ⟨qa, qn, qc, qb, qm, qd, rfl, hO, hO', hDq, hB⟩
  have hB_1 : Below W0.heap.size W0 w1 := (bl.next hB)
  have R0_1 := R0_0.next hB_1
  have cR0_1_0 : _ = some (Value.bool false) := R0_1.cell 0
  have fR0_1_0 := R0_1.free 0
  have cR0_1_1 : _ = some (Value.slice none 0 0) := R0_1.cell 1
  have fR0_1_1 := R0_1.free 1
  have cR0_1_2 : _ = some (Value.slice none 0 0) := R0_1.cell 2
  have fR0_1_2 := R0_1.free 2
  have hbel_1 := hbel_0.next hB_1
  have hsz_1 := hB_1.size
  clear R0_0 cR0_0_0 fR0_0_0 cR0_0_1 fR0_0_1 cR0_0_2 fR0_0_2 hbel_0 hB_1
  have Oq_1 := hO
  have ltOq := hO.ltB
  have Pq_1 := hO'
  have ltPq := hO'.ltB
  clear hO hO'
  try clear hB
  go_wp2
  refine bodyPost_ret (v := .agg #[.bool (decide ((q).num < 0)), .slice qa qn qc, .slice qb qm qd]) (by simp [results, Tryz.results34, go_sem, cR0_1_0, cR0_1_1, cR0_1_2]) rfl ?_
  exact retq_set Oq_1 Pq_1 hDq hbel_1 (by omega) (by omega)

set_option maxRecDepth 100000 in
set_option maxHeartbeats 4000000 in
theorem kzero {w : World}  :
    Calls Tryz.prog 199 #[.agg #[]] w (RetQ w 0) := by
  have H := hid (fun w => knum (w := w) 0 (by omega) (by omega))
  rw [show ((0 : Int) : Rat) = 0 from rfl] at H
  have hent := ent2 w #[] #[Value.bool false, Value.slice none 0 0, Value.slice none 0 0] 67 39
  go_enter Tryz.func199, Tryz.ntmps199
  go_wp2_with fail
  generalize ((w.alloc (.cells #[] 67)).alloc (.cells #[Value.bool false, Value.slice none 0 0, Value.slice none 0 0] 39)) = W0 at hent ⊢
  obtain ⟨V_0, R0_0, hbel_0, hsz_0⟩ := hent
  have cR0_0_0 : _ = some (Value.bool false) := R0_0.cell 0
  have fR0_0_0 := R0_0.free 0
  have cR0_0_1 : _ = some (Value.slice none 0 0) := R0_0.cell 1
  have fR0_0_1 := R0_0.free 1
  have cR0_0_2 : _ = some (Value.slice none 0 0) := R0_0.cell 2
  have fR0_0_2 := R0_0.free 2
  go_wp2_with fail
  refine (H.out _).mono ?_
  rintro e w1 ⟨qa, qn, qc, qb, qm, qd, rfl, hO, hO', hDq, hB⟩
  have hB_1 : Below W0.heap.size W0 w1 := (bl.next hB)
  have V_1 := V_0.next hB_1
  have R0_1 := R0_0.next hB_1
  have cR0_1_0 : _ = some (Value.bool false) := R0_1.cell 0
  have fR0_1_0 := R0_1.free 0
  have cR0_1_1 : _ = some (Value.slice none 0 0) := R0_1.cell 1
  have fR0_1_1 := R0_1.free 1
  have cR0_1_2 : _ = some (Value.slice none 0 0) := R0_1.cell 2
  have fR0_1_2 := R0_1.free 2
  have hbel_1 := hbel_0.next hB_1
  have hsz_1 := hB_1.size
  clear V_0 R0_0 cR0_0_0 fR0_0_0 cR0_0_1 fR0_0_1 cR0_0_2 fR0_0_2 hbel_0 hB_1
  have Oq_1 := hO
  have ltOq := hO.ltB
  have Pq_1 := hO'
  have ltPq := hO'.ltB
  clear hO hO'
  try clear hB
  go_wp2
  refine bodyPost_ret (v := .agg #[.bool (decide (((0 : Rat)).num < 0)), .slice qa qn qc, .slice qb qm qd]) (by simp [results, Tryz.results199, go_sem, cR0_1_0, cR0_1_1, cR0_1_2]) rfl ?_
  exact retq_set Oq_1 Pq_1 hDq hbel_1 (by omega) (by omega)

set_option maxRecDepth 100000 in
set_option maxHeartbeats 4000000 in
theorem kone {w : World}  :
    Calls Tryz.prog 198 #[.agg #[]] w (RetQ w 1) := by
  have H := hid (fun w => knum (w := w) 1 (by omega) (by omega))
  rw [show ((1 : Int) : Rat) = 1 from rfl] at H
  have hent := ent2 w #[] #[Value.bool false, Value.slice none 0 0, Value.slice none 0 0] 67 39
  go_enter Tryz.func198, Tryz.ntmps198
  go_wp2_with fail
  generalize ((w.alloc (.cells #[] 67)).alloc (.cells #[Value.bool false, Value.slice none 0 0, Value.slice none 0 0] 39)) = W0 at hent ⊢
  obtain ⟨V_0, R0_0, hbel_0, hsz_0⟩ := hent
  have cR0_0_0 : _ = some (Value.bool false) := R0_0.cell 0
  have fR0_0_0 := R0_0.free 0
  have cR0_0_1 : _ = some (Value.slice none 0 0) := R0_0.cell 1
  have fR0_0_1 := R0_0.free 1
  have cR0_0_2 : _ = some (Value.slice none 0 0) := R0_0.cell 2
  have fR0_0_2 := R0_0.free 2
  go_wp2_with fail
  refine (H.out _).mono ?_
  rintro e w1 ⟨qa, qn, qc, qb, qm, qd, rfl, hO, hO', hDq, hB⟩
  have hB_1 : Below W0.heap.size W0 w1 := (bl.next hB)
  have V_1 := V_0.next hB_1
  have R0_1 := R0_0.next hB_1
  have cR0_1_0 : _ = some (Value.bool false) := R0_1.cell 0
  have fR0_1_0 := R0_1.free 0
  have cR0_1_1 : _ = some (Value.slice none 0 0) := R0_1.cell 1
  have fR0_1_1 := R0_1.free 1
  have cR0_1_2 : _ = some (Value.slice none 0 0) := R0_1.cell 2
  have fR0_1_2 := R0_1.free 2
  have hbel_1 := hbel_0.next hB_1
  have hsz_1 := hB_1.size
  clear V_0 R0_0 cR0_0_0 fR0_0_0 cR0_0_1 fR0_0_1 cR0_0_2 fR0_0_2 hbel_0 hB_1
  have Oq_1 := hO
  have ltOq := hO.ltB
  have Pq_1 := hO'
  have ltPq := hO'.ltB
  clear hO hO'
  try clear hB
  go_wp2
  refine bodyPost_ret (v := .agg #[.bool (decide (((1 : Rat)).num < 0)), .slice qa qn qc, .slice qb qm qd]) (by simp [results, Tryz.results198, go_sem, cR0_1_0, cR0_1_1, cR0_1_2]) rfl ?_
  exact retq_set Oq_1 Pq_1 hDq hbel_1 (by omega) (by omega)

set_option maxRecDepth 100000 in
set_option maxHeartbeats 4000000 in
theorem kadd {w : World} {a1 b1 : Option Addr} {n1 c1 m1 d1 : Nat} {s : Bool} {x : Rat} {a2 b2 : Option Addr} {n2 c2 m2 d2 : Nat} {t : Bool} {y : Rat} {J K : Nat} (hx : RdQ J w s a1 n1 c1 b1 m1 d1 x) (hJ : J ≤ 1000000) (hy : RdQ K w t a2 n2 c2 b2 m2 d2 y) (hK : K ≤ 1000000) :
    Calls Tryz.prog 196 #[.agg #[], .agg #[.bool s, .slice a1 n1 c1, .slice b1 m1 d1], .agg #[.bool t, .slice a2 n2 c2, .slice b2 m2 d2]] w (RetQ w (x + y)) := by
  have hent := ent4 w #[] #[Value.bool s, Value.slice a1 n1 c1, Value.slice b1 m1 d1] #[Value.bool t, Value.slice a2 n2 c2, Value.slice b2 m2 d2] #[Value.bool false, Value.slice none 0 0, Value.slice none 0 0] 67 39 39 39
  go_enter Tryz.func196, Tryz.ntmps196
  go_wp2_with fail
  generalize ((((w.alloc (.cells #[] 67)).alloc (.cells #[Value.bool s, Value.slice a1 n1 c1, Value.slice b1 m1 d1] 39)).alloc (.cells #[Value.bool t, Value.slice a2 n2 c2, Value.slice b2 m2 d2] 39)).alloc (.cells #[Value.bool false, Value.slice none 0 0, Value.slice none 0 0] 39)) = W0 at hent ⊢
  obtain ⟨V_0, X_0, Y_0, R0_0, hbel_0, hsz_0⟩ := hent
  have cX_0_0 : _ = some (Value.bool s) := X_0.cell 0
  have cX_0_1 : _ = some (Value.slice a1 n1 c1) := X_0.cell 1
  have cX_0_2 : _ = some (Value.slice b1 m1 d1) := X_0.cell 2
  have cY_0_0 : _ = some (Value.bool t) := Y_0.cell 0
  have cY_0_1 : _ = some (Value.slice a2 n2 c2) := Y_0.cell 1
  have cY_0_2 : _ = some (Value.slice b2 m2 d2) := Y_0.cell 2
  have cR0_0_0 : _ = some (Value.bool false) := R0_0.cell 0
  have fR0_0_0 := R0_0.free 0
  have cR0_0_1 : _ = some (Value.slice none 0 0) := R0_0.cell 1
  have fR0_0_1 := R0_0.free 1
  have cR0_0_2 : _ = some (Value.slice none 0 0) := R0_0.cell 2
  have fR0_0_2 := R0_0.free 2
  have hx_0 := hx.below hbel_0
  clear hx
  have hy_0 := hy.below hbel_0
  clear hy
  go_wp2_with fail
  refine (qadd hx_0 hJ hy_0 hK).mono ?_
  rintro e w1 ⟨qa, qn, qc, qb, qm, qd, rfl, hO, hO', hDq, hB⟩
  have hB_1 : Below W0.heap.size W0 w1 := (bl.next hB)
  have V_1 := V_0.next hB_1
  have X_1 := X_0.next hB_1
  have cX_1_0 : _ = some (Value.bool s) := X_1.cell 0
  have cX_1_1 : _ = some (Value.slice a1 n1 c1) := X_1.cell 1
  have cX_1_2 : _ = some (Value.slice b1 m1 d1) := X_1.cell 2
  have Y_1 := Y_0.next hB_1
  have cY_1_0 : _ = some (Value.bool t) := Y_1.cell 0
  have cY_1_1 : _ = some (Value.slice a2 n2 c2) := Y_1.cell 1
  have cY_1_2 : _ = some (Value.slice b2 m2 d2) := Y_1.cell 2
  have R0_1 := R0_0.next hB_1
  have cR0_1_0 : _ = some (Value.bool false) := R0_1.cell 0
  have fR0_1_0 := R0_1.free 0
  have cR0_1_1 : _ = some (Value.slice none 0 0) := R0_1.cell 1
  have fR0_1_1 := R0_1.free 1
  have cR0_1_2 : _ = some (Value.slice none 0 0) := R0_1.cell 2
  have fR0_1_2 := R0_1.free 2
  have hx_1 := hx_0.below hB_1
  have hy_1 := hy_0.below hB_1
  have hbel_1 := hbel_0.next hB_1
  have hsz_1 := hB_1.size
  clear V_0 X_0 cX_0_0 cX_0_1 cX_0_2 Y_0 cY_0_0 cY_0_1 cY_0_2 R0_0 cR0_0_0 fR0_0_0 cR0_0_1 fR0_0_1 cR0_0_2 fR0_0_2 hx_0 hy_0 hbel_0 hB_1
  have Oq_1 := hO
  have ltOq := hO.ltB
  have Pq_1 := hO'
  have ltPq := hO'.ltB
  clear hO hO'
  try clear hB
  go_wp2
  refine bodyPost_ret (v := .agg #[.bool (decide ((x + y).num < 0)), .slice qa qn qc, .slice qb qm qd]) (by simp [results, Tryz.results196, go_sem, cR0_1_0, cR0_1_1, cR0_1_2]) rfl ?_
  exact retq_set Oq_1 Pq_1 hDq hbel_1 (by omega) (by omega)

set_option maxRecDepth 100000 in
set_option maxHeartbeats 4000000 in
theorem kmul {w : World} {a1 b1 : Option Addr} {n1 c1 m1 d1 : Nat} {s : Bool} {x : Rat} {a2 b2 : Option Addr} {n2 c2 m2 d2 : Nat} {t : Bool} {y : Rat} {J K : Nat} (hx : RdQ J w s a1 n1 c1 b1 m1 d1 x) (hJ : J ≤ 1000000) (hy : RdQ K w t a2 n2 c2 b2 m2 d2 y) (hK : K ≤ 1000000) :
    Calls Tryz.prog 197 #[.agg #[], .agg #[.bool s, .slice a1 n1 c1, .slice b1 m1 d1], .agg #[.bool t, .slice a2 n2 c2, .slice b2 m2 d2]] w (RetQ w (x * y)) := by
  have hent := ent4 w #[] #[Value.bool s, Value.slice a1 n1 c1, Value.slice b1 m1 d1] #[Value.bool t, Value.slice a2 n2 c2, Value.slice b2 m2 d2] #[Value.bool false, Value.slice none 0 0, Value.slice none 0 0] 67 39 39 39
  go_enter Tryz.func197, Tryz.ntmps197
  go_wp2_with fail
  generalize ((((w.alloc (.cells #[] 67)).alloc (.cells #[Value.bool s, Value.slice a1 n1 c1, Value.slice b1 m1 d1] 39)).alloc (.cells #[Value.bool t, Value.slice a2 n2 c2, Value.slice b2 m2 d2] 39)).alloc (.cells #[Value.bool false, Value.slice none 0 0, Value.slice none 0 0] 39)) = W0 at hent ⊢
  obtain ⟨V_0, X_0, Y_0, R0_0, hbel_0, hsz_0⟩ := hent
  have cX_0_0 : _ = some (Value.bool s) := X_0.cell 0
  have cX_0_1 : _ = some (Value.slice a1 n1 c1) := X_0.cell 1
  have cX_0_2 : _ = some (Value.slice b1 m1 d1) := X_0.cell 2
  have cY_0_0 : _ = some (Value.bool t) := Y_0.cell 0
  have cY_0_1 : _ = some (Value.slice a2 n2 c2) := Y_0.cell 1
  have cY_0_2 : _ = some (Value.slice b2 m2 d2) := Y_0.cell 2
  have cR0_0_0 : _ = some (Value.bool false) := R0_0.cell 0
  have fR0_0_0 := R0_0.free 0
  have cR0_0_1 : _ = some (Value.slice none 0 0) := R0_0.cell 1
  have fR0_0_1 := R0_0.free 1
  have cR0_0_2 : _ = some (Value.slice none 0 0) := R0_0.cell 2
  have fR0_0_2 := R0_0.free 2
  have hx_0 := hx.below hbel_0
  clear hx
  have hy_0 := hy.below hbel_0
  clear hy
  go_wp2_with fail
  refine (qmul hx_0 hJ hy_0 hK).mono ?_
  rintro e w1 ⟨qa, qn, qc, qb, qm, qd, rfl, hO, hO', hDq, hB⟩
  have hB_1 : Below W0.heap.size W0 w1 := (bl.next hB)
  have V_1 := V_0.next hB_1
  have X_1 := X_0.next hB_1
  have cX_1_0 : _ = some (Value.bool s) := X_1.cell 0
  have cX_1_1 : _ = some (Value.slice a1 n1 c1) := X_1.cell 1
  have cX_1_2 : _ = some (Value.slice b1 m1 d1) := X_1.cell 2
  have Y_1 := Y_0.next hB_1
  have cY_1_0 : _ = some (Value.bool t) := Y_1.cell 0
  have cY_1_1 : _ = some (Value.slice a2 n2 c2) := Y_1.cell 1
  have cY_1_2 : _ = some (Value.slice b2 m2 d2) := Y_1.cell 2
  have R0_1 := R0_0.next hB_1
  have cR0_1_0 : _ = some (Value.bool false) := R0_1.cell 0
  have fR0_1_0 := R0_1.free 0
  have cR0_1_1 : _ = some (Value.slice none 0 0) := R0_1.cell 1
  have fR0_1_1 := R0_1.free 1
  have cR0_1_2 : _ = some (Value.slice none 0 0) := R0_1.cell 2
  have fR0_1_2 := R0_1.free 2
  have hx_1 := hx_0.below hB_1
  have hy_1 := hy_0.below hB_1
  have hbel_1 := hbel_0.next hB_1
  have hsz_1 := hB_1.size
  clear V_0 X_0 cX_0_0 cX_0_1 cX_0_2 Y_0 cY_0_0 cY_0_1 cY_0_2 R0_0 cR0_0_0 fR0_0_0 cR0_0_1 fR0_0_1 cR0_0_2 fR0_0_2 hx_0 hy_0 hbel_0 hB_1
  have Oq_1 := hO
  have ltOq := hO.ltB
  have Pq_1 := hO'
  have ltPq := hO'.ltB
  clear hO hO'
  try clear hB
  go_wp2
  refine bodyPost_ret (v := .agg #[.bool (decide ((x * y).num < 0)), .slice qa qn qc, .slice qb qm qd]) (by simp [results, Tryz.results197, go_sem, cR0_1_0, cR0_1_1, cR0_1_2]) rfl ?_
  exact retq_set Oq_1 Pq_1 hDq hbel_1 (by omega) (by omega)

set_option maxRecDepth 100000 in
set_option maxHeartbeats 4000000 in
theorem fequal {w : World} {a1 b1 : Option Addr} {n1 c1 m1 d1 : Nat} {s : Bool} {x : Rat} {a2 b2 : Option Addr} {n2 c2 m2 d2 : Nat} {t : Bool} {y : Rat} {J K : Nat} (hx : RdQ J w s a1 n1 c1 b1 m1 d1 x) (hJ : J ≤ 1000000) (hy : RdQ K w t a2 n2 c2 b2 m2 d2 y) (hK : K ≤ 1000000) :
    Calls Tryz.prog 37 #[.agg #[.bool s, .slice a1 n1 c1, .slice b1 m1 d1], .agg #[.bool t, .slice a2 n2 c2, .slice b2 m2 d2]] w (RetBo w (cmpQ x y == 0)) := by
  have hent := ent2 w #[Value.bool s, Value.slice a1 n1 c1, Value.slice b1 m1 d1] #[Value.bool t, Value.slice a2 n2 c2, Value.slice b2 m2 d2] 39 39
  go_enter Tryz.func37, Tryz.ntmps37
  go_wp2_with fail
  generalize ((w.alloc (.cells #[Value.bool s, Value.slice a1 n1 c1, Value.slice b1 m1 d1] 39)).alloc (.cells #[Value.bool t, Value.slice a2 n2 c2, Value.slice b2 m2 d2] 39)) = W0 at hent ⊢
  obtain ⟨X_0, Y_0, hbel_0, hsz_0⟩ := hent
  have cX_0_0 : _ = some (Value.bool s) := X_0.cell 0
  have cX_0_1 : _ = some (Value.slice a1 n1 c1) := X_0.cell 1
  have cX_0_2 : _ = some (Value.slice b1 m1 d1) := X_0.cell 2
  have cY_0_0 : _ = some (Value.bool t) := Y_0.cell 0
  have cY_0_1 : _ = some (Value.slice a2 n2 c2) := Y_0.cell 1
  have cY_0_2 : _ = some (Value.slice b2 m2 d2) := Y_0.cell 2
  have hx_0 := hx.below hbel_0
  clear hx
  have hy_0 := hy.below hbel_0
  clear hy
  go_wp2_with fail
  refine (rqcmp hx_0 hJ hy_0 hK).mono ?_
  rintro e w1 ⟨rfl, hB⟩
  have hB_1 : Below W0.heap.size W0 w1 := (bl.next hB)
  have X_1 := X_0.next hB_1
  have cX_1_0 : _ = some (Value.bool s) := X_1.cell 0
  have cX_1_1 : _ = some (Value.slice a1 n1 c1) := X_1.cell 1
  have cX_1_2 : _ = some (Value.slice b1 m1 d1) := X_1.cell 2
  have Y_1 := Y_0.next hB_1
  have cY_1_0 : _ = some (Value.bool t) := Y_1.cell 0
  have cY_1_1 : _ = some (Value.slice a2 n2 c2) := Y_1.cell 1
  have cY_1_2 : _ = some (Value.slice b2 m2 d2) := Y_1.cell 2
  have hx_1 := hx_0.below hB_1
  have hy_1 := hy_0.below hB_1
  have hbel_1 := hbel_0.next hB_1
  have hsz_1 := hB_1.size
  clear X_0 cX_0_0 cX_0_1 cX_0_2 Y_0 cY_0_0 cY_0_1 cY_0_2 hx_0 hy_0 hbel_0 hB_1
  try clear hB
  go_wp2
  go_ret
  exact ⟨rfl, hbel_1⟩

/-- the greater of two -/
def mxQ (x y : Rat) : Rat := if x < y then y else x
theorem mxQ_lt {x y : Rat} (h : x < y) : mxQ x y = y := if_pos h
theorem mxQ_ge {x y : Rat} (h : ¬ x < y) : mxQ x y = x := if_neg h
theorem cmpQ_nlt {x y : Rat} (h : ¬ x < y) : 0 ≤ cmpQ x y := by
  rcases cmpQ_cases x y with ⟨h', e⟩ | ⟨h', e⟩ | ⟨h', e⟩ <;> first | omega | exact absurd h' h
theorem rdqs_one {K : Nat} {W : World} {g : Nat} {s : Bool} {a : Option Addr} {n c : Nat} {b : Option Addr} {m d : Nat} {q : Rat} (h : RdQ K W s a n c b m d q) (hb : Blk W g #[.bool s, .slice a n c, .slice b m d]) :
    RdQs K W (some ⟨g, 0, none⟩) 1 1 [⟨s, a, n, c, b, m, d, q⟩] :=
  ⟨rfl, Nat.le_refl _, by decide, fun i hi => by
    obtain rfl : i = 0 := by omega
    exact ⟨h, g, 0, rfl, hb.cell 0, hb.cell 1, hb.cell 2⟩⟩
theorem qsm_one (y : QI) : qsm [y] 1 = y.q := by show 0 + y.q = y.q; exact Rat.zero_add _

set_option maxRecDepth 100000 in
set_option maxHeartbeats 4000000 in
theorem kmost1 {w : World} {a1 b1 : Option Addr} {n1 c1 m1 d1 : Nat} {s : Bool} {x : Rat} {a2 b2 : Option Addr} {n2 c2 m2 d2 : Nat} {t : Bool} {y : Rat} {J K : Nat} (hx : RdQ J w s a1 n1 c1 b1 m1 d1 x) (hJ : J ≤ 900000) (hy : RdQ K w t a2 n2 c2 b2 m2 d2 y) (hK : K ≤ 900000) (h : x < y) (hK1 : 1 ≤ K) :
    Calls Tryz.prog 201 #[.agg #[], .agg #[.bool s, .slice a1 n1 c1, .slice b1 m1 d1], .agg #[.bool t, .slice a2 n2 c2, .slice b2 m2 d2]] w (RetQ w (mxQ x y)) := by
  rw [mxQ_lt h]
  have hc0 : cmpQ x y < 0 := by rw [cmpQ_lt h]; omega
  obtain ⟨c, hc1⟩ : ∃ c, cmpQ x y = c := ⟨_, rfl⟩
  rw [hc1] at hc0
  have hc := hid hc1
  clear hc1 h
  have HX := hid (fun W (h : Below w.heap.size w W) => hx.below h)
  have HY := hid (fun W (h : Below w.heap.size w W) => hy.below h)
  have hent := ent4 w #[] #[Value.bool s, Value.slice a1 n1 c1, Value.slice b1 m1 d1] #[Value.bool t, Value.slice a2 n2 c2, Value.slice b2 m2 d2] #[Value.bool false, Value.slice none 0 0, Value.slice none 0 0] 70 39 39 39
  go_enter Tryz.func201, Tryz.ntmps201
  go_wp2_with fail
  generalize ((((w.alloc (.cells #[] 70)).alloc (.cells #[Value.bool s, Value.slice a1 n1 c1, Value.slice b1 m1 d1] 39)).alloc (.cells #[Value.bool t, Value.slice a2 n2 c2, Value.slice b2 m2 d2] 39)).alloc (.cells #[Value.bool false, Value.slice none 0 0, Value.slice none 0 0] 39)) = W0 at hent ⊢
  obtain ⟨V_0, X_0, Y_0, R0_0, hbel_0, hsz_0⟩ := hent
  have cX_0_0 : _ = some (Value.bool s) := X_0.cell 0
  have fX_0_0 := X_0.free 0
  have cX_0_1 : _ = some (Value.slice a1 n1 c1) := X_0.cell 1
  have fX_0_1 := X_0.free 1
  have cX_0_2 : _ = some (Value.slice b1 m1 d1) := X_0.cell 2
  have fX_0_2 := X_0.free 2
  have cY_0_0 : _ = some (Value.bool t) := Y_0.cell 0
  have cY_0_1 : _ = some (Value.slice a2 n2 c2) := Y_0.cell 1
  have cY_0_2 : _ = some (Value.slice b2 m2 d2) := Y_0.cell 2
  have cR0_0_0 : _ = some (Value.bool false) := R0_0.cell 0
  have fR0_0_0 := R0_0.free 0
  have cR0_0_1 : _ = some (Value.slice none 0 0) := R0_0.cell 1
  have fR0_0_1 := R0_0.free 1
  have cR0_0_2 : _ = some (Value.slice none 0 0) := R0_0.cell 2
  have fR0_0_2 := R0_0.free 2
  have hx_0 := hx.below hbel_0
  clear hx
  have hy_0 := hy.below hbel_0
  clear hy
  go_wp2_with fail
  refine (qcmp hx_0 (by omega) hy_0 (by omega)).mono ?_
  rw [hc.out]
  rintro e w1 ⟨rfl, hB⟩
  have hB_1 : Below W0.heap.size W0 w1 := (bl.next hB)
  have V_1 := V_0.next hB_1
  have X_1 := X_0.next hB_1
  have cX_1_0 : _ = some (Value.bool s) := X_1.cell 0
  have fX_1_0 := X_1.free 0
  have cX_1_1 : _ = some (Value.slice a1 n1 c1) := X_1.cell 1
  have fX_1_1 := X_1.free 1
  have cX_1_2 : _ = some (Value.slice b1 m1 d1) := X_1.cell 2
  have fX_1_2 := X_1.free 2
  have Y_1 := Y_0.next hB_1
  have cY_1_0 : _ = some (Value.bool t) := Y_1.cell 0
  have cY_1_1 : _ = some (Value.slice a2 n2 c2) := Y_1.cell 1
  have cY_1_2 : _ = some (Value.slice b2 m2 d2) := Y_1.cell 2
  have R0_1 := R0_0.next hB_1
  have cR0_1_0 : _ = some (Value.bool false) := R0_1.cell 0
  have fR0_1_0 := R0_1.free 0
  have cR0_1_1 : _ = some (Value.slice none 0 0) := R0_1.cell 1
  have fR0_1_1 := R0_1.free 1
  have cR0_1_2 : _ = some (Value.slice none 0 0) := R0_1.cell 2
  have fR0_1_2 := R0_1.free 2
  have hx_1 := hx_0.below hB_1
  have hy_1 := hy_0.below hB_1
  have hbel_1 := hbel_0.next hB_1
  have hsz_1 := hB_1.size
  clear V_0 X_0 cX_0_0 fX_0_0 cX_0_1 fX_0_1 cX_0_2 fX_0_2 Y_0 cY_0_0 cY_0_1 cY_0_2 R0_0 cR0_0_0 fR0_0_0 cR0_0_1 fR0_0_1 cR0_0_2 fR0_0_2 hx_0 hy_0 hbel_0 hB_1
  try clear hB
  have hkp := kp_set3 w1 (w.heap.size + 1) (Value.bool t) (Value.slice a2 n2 c2) (Value.slice b2 m2 d2)
  have X_2 := (show Blk _ _ #[Value.bool t, Value.slice a2 n2 c2, Value.slice b2 m2 d2] from (((X_1).setCell (i := 0) (v := Value.bool t) (by simp)).setCell (i := 1) (v := Value.slice a2 n2 c2) (by simp)).setCell (i := 2) (v := Value.slice b2 m2 d2) (by simp))
  have V_2 := V_1.set3 (show w.heap.size ≠ w.heap.size + 1 by omega) (Value.bool t) (Value.slice a2 n2 c2) (Value.slice b2 m2 d2)
  have Y_2 := Y_1.set3 (show w.heap.size + 1 + 1 ≠ w.heap.size + 1 by omega) (Value.bool t) (Value.slice a2 n2 c2) (Value.slice b2 m2 d2)
  have R0_2 := R0_1.set3 (show w.heap.size + 1 + 1 + 1 ≠ w.heap.size + 1 by omega) (Value.bool t) (Value.slice a2 n2 c2) (Value.slice b2 m2 d2)
  have hbel_2 := Below.set3 hbel_1 (show w.heap.size ≤ w.heap.size + 1 by omega) (Value.bool t) (Value.slice a2 n2 c2) (Value.slice b2 m2 d2)
  have hsz_2 := hkp.size
  have hse_2 : ((((w1.setCell ⟨w.heap.size + 1, 0, none⟩ (Value.bool t)).setCell ⟨w.heap.size + 1, 1, none⟩ (Value.slice a2 n2 c2)).setCell ⟨w.heap.size + 1, 2, none⟩ (Value.slice b2 m2 d2))).heap.size = w1.heap.size := by simp [World.setCell]
  have cX_2_0 : _ = some (Value.bool t) := X_2.cell 0
  have fX_2_0 := X_2.free 0
  have cX_2_1 : _ = some (Value.slice a2 n2 c2) := X_2.cell 1
  have fX_2_1 := X_2.free 1
  have cX_2_2 : _ = some (Value.slice b2 m2 d2) := X_2.cell 2
  have fX_2_2 := X_2.free 2
  have cY_2_0 : _ = some (Value.bool t) := Y_2.cell 0
  have cY_2_1 : _ = some (Value.slice a2 n2 c2) := Y_2.cell 1
  have cY_2_2 : _ = some (Value.slice b2 m2 d2) := Y_2.cell 2
  have cR0_2_0 : _ = some (Value.bool false) := R0_2.cell 0
  have fR0_2_0 := R0_2.free 0
  have cR0_2_1 : _ = some (Value.slice none 0 0) := R0_2.cell 1
  have fR0_2_1 := R0_2.free 1
  have cR0_2_2 : _ = some (Value.slice none 0 0) := R0_2.cell 2
  have fR0_2_2 := R0_2.free 2
  go_wp2_with fail
  clear V_1 X_1 Y_1 R0_1 cX_1_0 fX_1_0 cX_1_1 fX_1_1 cX_1_2 fX_1_2 cY_1_0 cY_1_1 cY_1_2 cR0_1_0 fR0_1_0 cR0_1_1 fR0_1_1 cR0_1_2 fR0_1_2 hx_1 hy_1 hbel_1 hkp
  generalize (((w1.setCell ⟨w.heap.size + 1, 0, none⟩ (Value.bool t)).setCell ⟨w.heap.size + 1, 1, none⟩ (Value.slice a2 n2 c2)).setCell ⟨w.heap.size + 1, 2, none⟩ (Value.slice b2 m2 d2)) = v2 at *
  have hbx := blk_new v2 #[Value.bool t, Value.slice a2 n2 c2, Value.slice b2 m2 d2] 39
  have hbB := (Below.refl v2.heap.size v2).alloc (Nat.le_refl _) (.cells #[Value.bool t, Value.slice a2 n2 c2, Value.slice b2 m2 d2] 39)
  have hltL := hbx.lt
  have hB_3 : Below v2.heap.size v2 (v2.alloc (.cells #[Value.bool t, Value.slice a2 n2 c2, Value.slice b2 m2 d2] 39)) := hbB
  have V_3 := V_2.next hB_3
  have X_3 := X_2.next hB_3
  have cX_3_0 : _ = some (Value.bool t) := X_3.cell 0
  have fX_3_0 := X_3.free 0
  have cX_3_1 : _ = some (Value.slice a2 n2 c2) := X_3.cell 1
  have fX_3_1 := X_3.free 1
  have cX_3_2 : _ = some (Value.slice b2 m2 d2) := X_3.cell 2
  have fX_3_2 := X_3.free 2
  have Y_3 := Y_2.next hB_3
  have cY_3_0 : _ = some (Value.bool t) := Y_3.cell 0
  have cY_3_1 : _ = some (Value.slice a2 n2 c2) := Y_3.cell 1
  have cY_3_2 : _ = some (Value.slice b2 m2 d2) := Y_3.cell 2
  have R0_3 := R0_2.next hB_3
  have cR0_3_0 : _ = some (Value.bool false) := R0_3.cell 0
  have fR0_3_0 := R0_3.free 0
  have cR0_3_1 : _ = some (Value.slice none 0 0) := R0_3.cell 1
  have fR0_3_1 := R0_3.free 1
  have cR0_3_2 : _ = some (Value.slice none 0 0) := R0_3.cell 2
  have fR0_3_2 := R0_3.free 2
  have hbel_3 := hbel_2.next hB_3
  have hsz_3 := hB_3.size
  clear hB_3
  have L_3 := hbx
  clear hbx hbB
  have cL_3_0 : _ = some (Value.bool t) := L_3.cell 0
  have cL_3_1 : _ = some (Value.slice a2 n2 c2) := L_3.cell 1
  have cL_3_2 : _ = some (Value.slice b2 m2 d2) := L_3.cell 2
  go_wp2_with fail
  clear V_2 X_2 cX_2_0 fX_2_0 cX_2_1 fX_2_1 cX_2_2 fX_2_2 Y_2 cY_2_0 cY_2_1 cY_2_2 R0_2 cR0_2_0 fR0_2_0 cR0_2_1 fR0_2_1 cR0_2_2 fR0_2_2 hbel_2
  generalize (v2.alloc (.cells #[Value.bool t, Value.slice a2 n2 c2, Value.slice b2 m2 d2] 39)) = v3 at *
  have Q_3 := HY.out _ hbel_3
  rw [hse_2] at L_3
  have HL := rdqs_one Q_3 L_3
  have e1 : qsm [(⟨t, a2, n2, c2, b2, m2, d2, y⟩ : QI)] 1 = y := qsm_one _
  go_wp2_with fail
  refine (qsum HL hK1 (by omega)).mono ?_
  rw [e1]
  rintro e w4 ⟨qa, qn, qc, qb, qm, qd, rfl, hO, hO', hDq, hB⟩
  have hB_4 : Below v3.heap.size v3 w4 := (bl.next hB)
  have V_4 := V_3.next hB_4
  have X_4 := X_3.next hB_4
  have cX_4_0 : _ = some (Value.bool t) := X_4.cell 0
  have fX_4_0 := X_4.free 0
  have cX_4_1 : _ = some (Value.slice a2 n2 c2) := X_4.cell 1
  have fX_4_1 := X_4.free 1
  have cX_4_2 : _ = some (Value.slice b2 m2 d2) := X_4.cell 2
  have fX_4_2 := X_4.free 2
  have Y_4 := Y_3.next hB_4
  have cY_4_0 : _ = some (Value.bool t) := Y_4.cell 0
  have cY_4_1 : _ = some (Value.slice a2 n2 c2) := Y_4.cell 1
  have cY_4_2 : _ = some (Value.slice b2 m2 d2) := Y_4.cell 2
  have R0_4 := R0_3.next hB_4
  have cR0_4_0 : _ = some (Value.bool false) := R0_4.cell 0
  have fR0_4_0 := R0_4.free 0
  have cR0_4_1 : _ = some (Value.slice none 0 0) := R0_4.cell 1
  have fR0_4_1 := R0_4.free 1
  have cR0_4_2 : _ = some (Value.slice none 0 0) := R0_4.cell 2
  have fR0_4_2 := R0_4.free 2
  have L_4 := L_3.next hB_4
  have cL_4_0 : _ = some (Value.bool t) := L_4.cell 0
  have cL_4_1 : _ = some (Value.slice a2 n2 c2) := L_4.cell 1
  have cL_4_2 : _ = some (Value.slice b2 m2 d2) := L_4.cell 2
  have Q_4 := Q_3.below hB_4
  have hbel_4 := hbel_3.next hB_4
  have hsz_4 := hB_4.size
  clear V_3 X_3 cX_3_0 fX_3_0 cX_3_1 fX_3_1 cX_3_2 fX_3_2 Y_3 cY_3_0 cY_3_1 cY_3_2 R0_3 cR0_3_0 fR0_3_0 cR0_3_1 fR0_3_1 cR0_3_2 fR0_3_2 L_3 cL_3_0 cL_3_1 cL_3_2 Q_3 hbel_3 hB_4
  have Oq_4 := hO
  have ltOq := hO.ltB
  have Pq_4 := hO'
  have ltPq := hO'.ltB
  clear hO hO'
  try clear hB
  go_wp2
  refine bodyPost_ret (v := .agg #[.bool (decide ((y).num < 0)), .slice qa qn qc, .slice qb qm qd]) (by simp [results, Tryz.results201, go_sem, cX_4_0, cX_4_1, cX_4_2, cR0_4_0, cR0_4_1, cR0_4_2]) rfl ?_
  exact retq_set Oq_4 Pq_4 hDq hbel_4 (by omega) (by omega)

set_option maxRecDepth 100000 in
set_option maxHeartbeats 4000000 in
theorem kmost0 {w : World} {a1 b1 : Option Addr} {n1 c1 m1 d1 : Nat} {s : Bool} {x : Rat} {a2 b2 : Option Addr} {n2 c2 m2 d2 : Nat} {t : Bool} {y : Rat} {J K : Nat} (hx : RdQ J w s a1 n1 c1 b1 m1 d1 x) (hJ : J ≤ 900000) (hy : RdQ K w t a2 n2 c2 b2 m2 d2 y) (hK : K ≤ 900000) (h : ¬ x < y) (hK1 : 1 ≤ J) :
    Calls Tryz.prog 201 #[.agg #[], .agg #[.bool s, .slice a1 n1 c1, .slice b1 m1 d1], .agg #[.bool t, .slice a2 n2 c2, .slice b2 m2 d2]] w (RetQ w (mxQ x y)) := by
  rw [mxQ_ge h]
  have hc0 : 0 ≤ cmpQ x y := cmpQ_nlt h
  obtain ⟨c, hc1⟩ : ∃ c, cmpQ x y = c := ⟨_, rfl⟩
  rw [hc1] at hc0
  have hc := hid hc1
  clear hc1 h
  have HX := hid (fun W (h : Below w.heap.size w W) => hx.below h)
  have HY := hid (fun W (h : Below w.heap.size w W) => hy.below h)
  have hent := ent4 w #[] #[Value.bool s, Value.slice a1 n1 c1, Value.slice b1 m1 d1] #[Value.bool t, Value.slice a2 n2 c2, Value.slice b2 m2 d2] #[Value.bool false, Value.slice none 0 0, Value.slice none 0 0] 70 39 39 39
  go_enter Tryz.func201, Tryz.ntmps201
  go_wp2_with fail
  generalize ((((w.alloc (.cells #[] 70)).alloc (.cells #[Value.bool s, Value.slice a1 n1 c1, Value.slice b1 m1 d1] 39)).alloc (.cells #[Value.bool t, Value.slice a2 n2 c2, Value.slice b2 m2 d2] 39)).alloc (.cells #[Value.bool false, Value.slice none 0 0, Value.slice none 0 0] 39)) = W0 at hent ⊢
  obtain ⟨V_0, X_0, Y_0, R0_0, hbel_0, hsz_0⟩ := hent
  have cX_0_0 : _ = some (Value.bool s) := X_0.cell 0
  have fX_0_0 := X_0.free 0
  have cX_0_1 : _ = some (Value.slice a1 n1 c1) := X_0.cell 1
  have fX_0_1 := X_0.free 1
  have cX_0_2 : _ = some (Value.slice b1 m1 d1) := X_0.cell 2
  have fX_0_2 := X_0.free 2
  have cY_0_0 : _ = some (Value.bool t) := Y_0.cell 0
  have cY_0_1 : _ = some (Value.slice a2 n2 c2) := Y_0.cell 1
  have cY_0_2 : _ = some (Value.slice b2 m2 d2) := Y_0.cell 2
  have cR0_0_0 : _ = some (Value.bool false) := R0_0.cell 0
  have fR0_0_0 := R0_0.free 0
  have cR0_0_1 : _ = some (Value.slice none 0 0) := R0_0.cell 1
  have fR0_0_1 := R0_0.free 1
  have cR0_0_2 : _ = some (Value.slice none 0 0) := R0_0.cell 2
  have fR0_0_2 := R0_0.free 2
  have hx_0 := hx.below hbel_0
  clear hx
  have hy_0 := hy.below hbel_0
  clear hy
  go_wp2_with fail
  refine (qcmp hx_0 (by omega) hy_0 (by omega)).mono ?_
  rw [hc.out]
  rintro e w1 ⟨rfl, hB⟩
  have hB_1 : Below W0.heap.size W0 w1 := (bl.next hB)
  have V_1 := V_0.next hB_1
  have X_1 := X_0.next hB_1
  have cX_1_0 : _ = some (Value.bool s) := X_1.cell 0
  have fX_1_0 := X_1.free 0
  have cX_1_1 : _ = some (Value.slice a1 n1 c1) := X_1.cell 1
  have fX_1_1 := X_1.free 1
  have cX_1_2 : _ = some (Value.slice b1 m1 d1) := X_1.cell 2
  have fX_1_2 := X_1.free 2
  have Y_1 := Y_0.next hB_1
  have cY_1_0 : _ = some (Value.bool t) := Y_1.cell 0
  have cY_1_1 : _ = some (Value.slice a2 n2 c2) := Y_1.cell 1
  have cY_1_2 : _ = some (Value.slice b2 m2 d2) := Y_1.cell 2
  have R0_1 := R0_0.next hB_1
  have cR0_1_0 : _ = some (Value.bool false) := R0_1.cell 0
  have fR0_1_0 := R0_1.free 0
  have cR0_1_1 : _ = some (Value.slice none 0 0) := R0_1.cell 1
  have fR0_1_1 := R0_1.free 1
  have cR0_1_2 : _ = some (Value.slice none 0 0) := R0_1.cell 2
  have fR0_1_2 := R0_1.free 2
  have hx_1 := hx_0.below hB_1
  have hy_1 := hy_0.below hB_1
  have hbel_1 := hbel_0.next hB_1
  have hsz_1 := hB_1.size
  clear V_0 X_0 cX_0_0 fX_0_0 cX_0_1 fX_0_1 cX_0_2 fX_0_2 Y_0 cY_0_0 cY_0_1 cY_0_2 R0_0 cR0_0_0 fR0_0_0 cR0_0_1 fR0_0_1 cR0_0_2 fR0_0_2 hx_0 hy_0 hbel_0 hB_1
  try clear hB
  have hbx := blk_new w1 #[Value.bool s, Value.slice a1 n1 c1, Value.slice b1 m1 d1] 39
  have hbB := (Below.refl w1.heap.size w1).alloc (Nat.le_refl _) (.cells #[Value.bool s, Value.slice a1 n1 c1, Value.slice b1 m1 d1] 39)
  have hltL := hbx.lt
  have hB_2 : Below w1.heap.size w1 (w1.alloc (.cells #[Value.bool s, Value.slice a1 n1 c1, Value.slice b1 m1 d1] 39)) := hbB
  have V_2 := V_1.next hB_2
  have X_2 := X_1.next hB_2
  have cX_2_0 : _ = some (Value.bool s) := X_2.cell 0
  have fX_2_0 := X_2.free 0
  have cX_2_1 : _ = some (Value.slice a1 n1 c1) := X_2.cell 1
  have fX_2_1 := X_2.free 1
  have cX_2_2 : _ = some (Value.slice b1 m1 d1) := X_2.cell 2
  have fX_2_2 := X_2.free 2
  have Y_2 := Y_1.next hB_2
  have cY_2_0 : _ = some (Value.bool t) := Y_2.cell 0
  have cY_2_1 : _ = some (Value.slice a2 n2 c2) := Y_2.cell 1
  have cY_2_2 : _ = some (Value.slice b2 m2 d2) := Y_2.cell 2
  have R0_2 := R0_1.next hB_2
  have cR0_2_0 : _ = some (Value.bool false) := R0_2.cell 0
  have fR0_2_0 := R0_2.free 0
  have cR0_2_1 : _ = some (Value.slice none 0 0) := R0_2.cell 1
  have fR0_2_1 := R0_2.free 1
  have cR0_2_2 : _ = some (Value.slice none 0 0) := R0_2.cell 2
  have fR0_2_2 := R0_2.free 2
  have hx_2 := hx_1.below hB_2
  have hy_2 := hy_1.below hB_2
  have hbel_2 := hbel_1.next hB_2
  have hsz_2 := hB_2.size
  clear hB_2
  have L_2 := hbx
  clear hbx hbB
  have cL_2_0 : _ = some (Value.bool s) := L_2.cell 0
  have cL_2_1 : _ = some (Value.slice a1 n1 c1) := L_2.cell 1
  have cL_2_2 : _ = some (Value.slice b1 m1 d1) := L_2.cell 2
  go_wp2_with fail
  clear V_1 X_1 cX_1_0 fX_1_0 cX_1_1 fX_1_1 cX_1_2 fX_1_2 Y_1 cY_1_0 cY_1_1 cY_1_2 R0_1 cR0_1_0 fR0_1_0 cR0_1_1 fR0_1_1 cR0_1_2 fR0_1_2 hx_1 hy_1 hbel_1
  generalize (w1.alloc (.cells #[Value.bool s, Value.slice a1 n1 c1, Value.slice b1 m1 d1] 39)) = v2 at *
  have Q_2 := HX.out _ hbel_2
  have HL := rdqs_one Q_2 L_2
  have e1 : qsm [(⟨s, a1, n1, c1, b1, m1, d1, x⟩ : QI)] 1 = x := qsm_one _
  go_wp2_with fail
  refine (qsum HL hK1 (by omega)).mono ?_
  rw [e1]
  rintro e w3 ⟨qa, qn, qc, qb, qm, qd, rfl, hO, hO', hDq, hB⟩
  have hB_3 : Below v2.heap.size v2 w3 := (bl.next hB)
  have V_3 := V_2.next hB_3
  have X_3 := X_2.next hB_3
  have cX_3_0 : _ = some (Value.bool s) := X_3.cell 0
  have fX_3_0 := X_3.free 0
  have cX_3_1 : _ = some (Value.slice a1 n1 c1) := X_3.cell 1
  have fX_3_1 := X_3.free 1
  have cX_3_2 : _ = some (Value.slice b1 m1 d1) := X_3.cell 2
  have fX_3_2 := X_3.free 2
  have Y_3 := Y_2.next hB_3
  have cY_3_0 : _ = some (Value.bool t) := Y_3.cell 0
  have cY_3_1 : _ = some (Value.slice a2 n2 c2) := Y_3.cell 1
  have cY_3_2 : _ = some (Value.slice b2 m2 d2) := Y_3.cell 2
  have R0_3 := R0_2.next hB_3
  have cR0_3_0 : _ = some (Value.bool false) := R0_3.cell 0
  have fR0_3_0 := R0_3.free 0
  have cR0_3_1 : _ = some (Value.slice none 0 0) := R0_3.cell 1
  have fR0_3_1 := R0_3.free 1
  have cR0_3_2 : _ = some (Value.slice none 0 0) := R0_3.cell 2
  have fR0_3_2 := R0_3.free 2
  have L_3 := L_2.next hB_3
  have cL_3_0 : _ = some (Value.bool s) := L_3.cell 0
  have cL_3_1 : _ = some (Value.slice a1 n1 c1) := L_3.cell 1
  have cL_3_2 : _ = some (Value.slice b1 m1 d1) := L_3.cell 2
  have hx_3 := hx_2.below hB_3
  have hy_3 := hy_2.below hB_3
  have Q_3 := Q_2.below hB_3
  have hbel_3 := hbel_2.next hB_3
  have hsz_3 := hB_3.size
  clear V_2 X_2 cX_2_0 fX_2_0 cX_2_1 fX_2_1 cX_2_2 fX_2_2 Y_2 cY_2_0 cY_2_1 cY_2_2 R0_2 cR0_2_0 fR0_2_0 cR0_2_1 fR0_2_1 cR0_2_2 fR0_2_2 L_2 cL_2_0 cL_2_1 cL_2_2 hx_2 hy_2 Q_2 hbel_2 hB_3
  have Oq_3 := hO
  have ltOq := hO.ltB
  have Pq_3 := hO'
  have ltPq := hO'.ltB
  clear hO hO'
  try clear hB
  go_wp2
  refine bodyPost_ret (v := .agg #[.bool (decide ((x).num < 0)), .slice qa qn qc, .slice qb qm qd]) (by simp [results, Tryz.results201, go_sem, cX_3_0, cX_3_1, cX_3_2, cR0_3_0, cR0_3_1, cR0_3_2]) rfl ?_
  exact retq_set Oq_3 Pq_3 hDq hbel_3 (by omega) (by omega)

theorem kmost {w : World} {a1 b1 : Option Addr} {n1 c1 m1 d1 : Nat} {s : Bool} {x : Rat} {a2 b2 : Option Addr} {n2 c2 m2 d2 : Nat} {t : Bool} {y : Rat} {J K : Nat} (hx : RdQ J w s a1 n1 c1 b1 m1 d1 x) (hJ : J ≤ 900000) (hy : RdQ K w t a2 n2 c2 b2 m2 d2 y) (hK : K ≤ 900000) (hJ1 : 1 ≤ J) (hK1 : 1 ≤ K) : Calls Tryz.prog 201 #[.agg #[], .agg #[.bool s, .slice a1 n1 c1, .slice b1 m1 d1], .agg #[.bool t, .slice a2 n2 c2, .slice b2 m2 d2]] w (RetQ w (mxQ x y)) := by
  by_cases h : x < y
  · exact kmost1 hx hJ hy hK h hK1
  · exact kmost0 hx hJ hy hK h hJ1

end Go.Proofs.YtokkfppchfmjcaaGreat
