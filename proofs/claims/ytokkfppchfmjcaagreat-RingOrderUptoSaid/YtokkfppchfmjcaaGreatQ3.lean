/- WALKS OF FRACTIONS, 8: the reference's fractions of two numbers, sums. -/
import Derived.Test.YtokkfppchfmjcaaGreatQ1
import Derived.Test.YtokkfppchfmjcaaGreatQ2
namespace Go.Proofs.YtokkfppchfmjcaaGreat
set_option linter.unusedVariables false
set_option linter.unusedSimpArgs false
open Go.ChangeShapes Go.WideShapes Go.ChangeAt Go.RowKit Go.NatP

set_option maxRecDepth 100000 in
set_option maxHeartbeats 4000000 in
theorem rqnew0 {w : World} {a b : Option Addr} {n c m d : Nat} {s t : Bool} {x y : Int} (hx : RdZ 4194304 w s a n c x) (hy : RdZ 4194304 w t b m d y) (hv : y = 0) :
    Calls Tryz.prog 141 #[.agg #[.bool s, .slice a n c], .agg #[.bool t, .slice b m d]] w (RetQE w (Rat.divInt x y) (zE y)) := by
  rw [zE_zero hv]
  have hs := hid (show sgn y = 0 by rw [hv]; rfl)
  clear hv
  have hent := ent3 w #[Value.bool s, Value.slice a n c] #[Value.bool t, Value.slice b m d] #[Value.bool false, Value.slice none 0 0, Value.slice none 0 0] 37 37 39
  go_enter Tryz.func141, Tryz.ntmps141
  go_wp2_with fail
  generalize (((w.alloc (.cells #[Value.bool s, Value.slice a n c] 37)).alloc (.cells #[Value.bool t, Value.slice b m d] 37)).alloc (.cells #[Value.bool false, Value.slice none 0 0, Value.slice none 0 0] 39)) = W0 at hent ⊢
  obtain ⟨X_0, Y_0, R0_0, hbel_0, hsz_0⟩ := hent
  have cX_0_0 : _ = some (Value.bool s) := X_0.cell 0
  have cX_0_1 : _ = some (Value.slice a n c) := X_0.cell 1
  have cY_0_0 : _ = some (Value.bool t) := Y_0.cell 0
  have cY_0_1 : _ = some (Value.slice b m d) := Y_0.cell 1
  have cR0_0_0 : _ = some (Value.bool false) := R0_0.cell 0
  have fR0_0_0 := R0_0.free 0
  have cR0_0_1 : _ = some (Value.slice none 0 0) := R0_0.cell 1
  have fR0_0_1 := R0_0.free 1
  have cR0_0_2 : _ = some (Value.slice none 0 0) := R0_0.cell 2
  have fR0_0_2 := R0_0.free 2
  have hy_0 := hy.below hbel_0
  clear hy
  go_wp2_with fail
  refine (rzsignR hy_0 (by omega)).mono ?_
  rw [hs.out]
  rintro e w1 ⟨rfl, hB⟩
  have hB_1 : Below W0.heap.size W0 w1 := (bl.next hB)
  have X_1 := X_0.next hB_1
  have cX_1_0 : _ = some (Value.bool s) := X_1.cell 0
  have cX_1_1 : _ = some (Value.slice a n c) := X_1.cell 1
  have Y_1 := Y_0.next hB_1
  have cY_1_0 : _ = some (Value.bool t) := Y_1.cell 0
  have cY_1_1 : _ = some (Value.slice b m d) := Y_1.cell 1
  have R0_1 := R0_0.next hB_1
  have cR0_1_0 : _ = some (Value.bool false) := R0_1.cell 0
  have fR0_1_0 := R0_1.free 0
  have cR0_1_1 : _ = some (Value.slice none 0 0) := R0_1.cell 1
  have fR0_1_1 := R0_1.free 1
  have cR0_1_2 : _ = some (Value.slice none 0 0) := R0_1.cell 2
  have fR0_1_2 := R0_1.free 2
  have hy_1 := hy_0.below hB_1
  have hbel_1 := hbel_0.next hB_1
  have hsz_1 := hB_1.size
  clear X_0 cX_0_0 cX_0_1 Y_0 cY_0_0 cY_0_1 R0_0 cR0_0_0 fR0_0_0 cR0_0_1 fR0_0_1 cR0_0_2 fR0_0_2 hy_0 hbel_0 hB_1
  try clear hB
  go_wp2
  refine bodyPost_ret (v := .tuple #[.agg #[.bool false, .slice none 0 0, .slice none 0 0], .int .i64 11]) (by simp [results, Tryz.results141, go_sem, cR0_1_0, cR0_1_1, cR0_1_2]) rfl ?_
  exact retqe_nil (by decide) hbel_1 (by omega)

set_option maxRecDepth 100000 in
set_option maxHeartbeats 4000000 in
theorem rqnew1 {w : World} {a b : Option Addr} {n c m d : Nat} {s t : Bool} {x y : Int} (hx : RdZ 4194304 w s a n c x) (hy : RdZ 4194304 w t b m d y) (hv : y ≠ 0) :
    Calls Tryz.prog 141 #[.agg #[.bool s, .slice a n c], .agg #[.bool t, .slice b m d]] w (RetQE w (Rat.divInt x y) (zE y)) := by
  rw [zE_pos hv]
  obtain ⟨u, hu, rfl⟩ := hx
  obtain ⟨v, hw, rfl⟩ := hy
  have hv0 : v ≠ 0 := fun e => hv (zv_eq_zero.2 e)
  rw [← divInt_zv s t u hv0]
  have hs : (sgn (zv t v) == (0 : Int)) = false := by have := sgn_cases (zv t v); simp; omega
  have hvh := hid hv0
  have hy := hw.toZ (s := t)
  clear hv hv0
  have hent := ent3 w #[Value.bool s, Value.slice a n c] #[Value.bool t, Value.slice b m d] #[Value.bool false, Value.slice none 0 0, Value.slice none 0 0] 37 37 39
  go_enter Tryz.func141, Tryz.ntmps141
  go_wp2_with fail
  generalize (((w.alloc (.cells #[Value.bool s, Value.slice a n c] 37)).alloc (.cells #[Value.bool t, Value.slice b m d] 37)).alloc (.cells #[Value.bool false, Value.slice none 0 0, Value.slice none 0 0] 39)) = W0 at hent ⊢
  obtain ⟨X_0, Y_0, R0_0, hbel_0, hsz_0⟩ := hent
  have cX_0_0 : _ = some (Value.bool s) := X_0.cell 0
  have cX_0_1 : _ = some (Value.slice a n c) := X_0.cell 1
  have cY_0_0 : _ = some (Value.bool t) := Y_0.cell 0
  have cY_0_1 : _ = some (Value.slice b m d) := Y_0.cell 1
  have cR0_0_0 : _ = some (Value.bool false) := R0_0.cell 0
  have fR0_0_0 := R0_0.free 0
  have cR0_0_1 : _ = some (Value.slice none 0 0) := R0_0.cell 1
  have fR0_0_1 := R0_0.free 1
  have cR0_0_2 : _ = some (Value.slice none 0 0) := R0_0.cell 2
  have fR0_0_2 := R0_0.free 2
  have hu_0 := hu.below hbel_0
  clear hu
  have hw_0 := hw.below hbel_0
  clear hw
  have hy_0 := hy.below hbel_0
  clear hy
  go_wp2_with fail
  refine (rzsignR hy_0 (by omega)).mono ?_
  rintro e w1 ⟨rfl, hB⟩
  have hB_1 : Below W0.heap.size W0 w1 := (bl.next hB)
  have X_1 := X_0.next hB_1
  have cX_1_0 : _ = some (Value.bool s) := X_1.cell 0
  have cX_1_1 : _ = some (Value.slice a n c) := X_1.cell 1
  have Y_1 := Y_0.next hB_1
  have cY_1_0 : _ = some (Value.bool t) := Y_1.cell 0
  have cY_1_1 : _ = some (Value.slice b m d) := Y_1.cell 1
  have R0_1 := R0_0.next hB_1
  have cR0_1_0 : _ = some (Value.bool false) := R0_1.cell 0
  have fR0_1_0 := R0_1.free 0
  have cR0_1_1 : _ = some (Value.slice none 0 0) := R0_1.cell 1
  have fR0_1_1 := R0_1.free 1
  have cR0_1_2 : _ = some (Value.slice none 0 0) := R0_1.cell 2
  have fR0_1_2 := R0_1.free 2
  have hu_1 := hu_0.below hB_1
  have hw_1 := hw_0.below hB_1
  have hy_1 := hy_0.below hB_1
  have hbel_1 := hbel_0.next hB_1
  have hsz_1 := hB_1.size
  clear X_0 cX_0_0 cX_0_1 Y_0 cY_0_0 cY_0_1 R0_0 cR0_0_0 fR0_0_0 cR0_0_1 fR0_0_1 cR0_0_2 fR0_0_2 hu_0 hw_0 hy_0 hbel_0 hB_1
  try clear hB
  clear hy_1
  go_wp2_with fail
  refine (rqlow (s := (!(s == t))) hu_1.toZ hw_1 hvh.out).mono ?_
  rintro e w2 ⟨qa, qn, qc, da, dn, dc, rfl, hO, hO', hD, hB⟩
  have hB_2 : Below w1.heap.size w1 w2 := (bl.next hB)
  have X_2 := X_1.next hB_2
  have cX_2_0 : _ = some (Value.bool s) := X_2.cell 0
  have cX_2_1 : _ = some (Value.slice a n c) := X_2.cell 1
  have Y_2 := Y_1.next hB_2
  have cY_2_0 : _ = some (Value.bool t) := Y_2.cell 0
  have cY_2_1 : _ = some (Value.slice b m d) := Y_2.cell 1
  have R0_2 := R0_1.next hB_2
  have cR0_2_0 : _ = some (Value.bool false) := R0_2.cell 0
  have fR0_2_0 := R0_2.free 0
  have cR0_2_1 : _ = some (Value.slice none 0 0) := R0_2.cell 1
  have fR0_2_1 := R0_2.free 1
  have cR0_2_2 : _ = some (Value.slice none 0 0) := R0_2.cell 2
  have fR0_2_2 := R0_2.free 2
  have hu_2 := hu_1.below hB_2
  have hw_2 := hw_1.below hB_2
  have hbel_2 := hbel_1.next hB_2
  have hsz_2 := hB_2.size
  clear X_1 cX_1_0 cX_1_1 Y_1 cY_1_0 cY_1_1 R0_1 cR0_1_0 fR0_1_0 cR0_1_1 fR0_1_1 cR0_1_2 fR0_1_2 hu_1 hw_1 hbel_1 hB_2
  have OQ_2 := hO
  have ltOQ := hO.ltB
  have OD_2 := hO'
  have ltOD := hO'.ltB
  clear hO hO'
  try clear hB
  go_wp2
  refine bodyPost_ret (v := .tuple #[.agg #[.bool (decide ((mkRat (zv (!(s == t)) u) v).num < 0)), .slice qa qn qc, .slice da dn dc], .int .i64 0]) (by simp [results, Tryz.results141, go_sem, cR0_2_0, cR0_2_1, cR0_2_2]) rfl ?_
  exact retqe_set (er := 0) OQ_2 OD_2 hD hbel_2 (by omega) (by omega)

theorem rqnew {w : World} {a b : Option Addr} {n c m d : Nat} {s t : Bool} {x y : Int} (hx : RdZ 4194304 w s a n c x) (hy : RdZ 4194304 w t b m d y) : Calls Tryz.prog 141 #[.agg #[.bool s, .slice a n c], .agg #[.bool t, .slice b m d]] w (RetQE w (Rat.divInt x y) (zE y)) := by
  by_cases h : y = 0
  · exact rqnew0 hx hy h
  · exact rqnew1 hx hy h

set_option maxRecDepth 100000 in
set_option maxHeartbeats 4000000 in
theorem rqof {w : World} (k l : Int) (h1 : -9223372036854775808 ≤ k) (h2 : k ≤ 9223372036854775807) (h3 : -9223372036854775808 ≤ l) (h4 : l ≤ 9223372036854775807) :
    Calls Tryz.prog 105 #[.int .i64 k, .int .i64 l] w (RetQE w (Rat.divInt k l) (zE l)) := by
  have sk := hid (szInt h1 h2)
  have sl := hid (szInt h3 h4)
  have hent := ent1 w #[Value.bool false, Value.slice none 0 0, Value.slice none 0 0] 39
  go_enter Tryz.func105, Tryz.ntmps105
  go_wp2_with fail
  generalize (w.alloc (.cells #[Value.bool false, Value.slice none 0 0, Value.slice none 0 0] 39)) = W0 at hent ⊢
  obtain ⟨R0_0, hbel_0, hsz_0⟩ := hent
  have cR0_0_0 : _ = some (Value.bool false) := R0_0.cell 0
  have fR0_0_0 := R0_0.free 0
  have cR0_0_1 : _ = some (Value.slice none 0 0) := R0_0.cell 1
  have fR0_0_1 := R0_0.free 1
  have cR0_0_2 : _ = some (Value.slice none 0 0) := R0_0.cell 2
  have fR0_0_2 := R0_0.free 2
  go_wp2_with fail
  refine (rzofi_any k h1 h2).mono ?_
  rintro e w1 ⟨ka, kn, kc, rfl, hO, hB⟩
  have hB_1 : Below W0.heap.size W0 w1 := (bl.next hB)
  have R0_1 := R0_0.next hB_1
  have cR0_1_0 : _ = some (Value.bool false) := R0_1.cell 0
  have fR0_1_0 := R0_1.free 0
  have cR0_1_1 : _ = some (Value.slice none 0 0) := R0_1.cell 1
  have fR0_1_1 := R0_1.free 1
  have cR0_1_2 : _ = some (Value.slice none 0 0) := R0_1.cell 2
  have fR0_1_2 := R0_1.free 2
  have hbel_1 := hbel_0.next hB_1
  have hsz_1 := hB_1.size
  clear R0_0 cR0_0_0 fR0_0_0 cR0_0_1 fR0_0_1 cR0_0_2 fR0_0_2 hbel_0 hB_1
  have A_1 := hO.rdZ sk.out
  clear hO
  try clear hB
  go_wp2_with fail
  refine (rzofi_any l h3 h4).mono ?_
  rintro e w2 ⟨la, ln, lc, rfl, hO, hB⟩
  have hB_2 : Below w1.heap.size w1 w2 := (bl.next hB)
  have R0_2 := R0_1.next hB_2
  have cR0_2_0 : _ = some (Value.bool false) := R0_2.cell 0
  have fR0_2_0 := R0_2.free 0
  have cR0_2_1 : _ = some (Value.slice none 0 0) := R0_2.cell 1
  have fR0_2_1 := R0_2.free 1
  have cR0_2_2 : _ = some (Value.slice none 0 0) := R0_2.cell 2
  have fR0_2_2 := R0_2.free 2
  have A_2 := A_1.below hB_2
  have hbel_2 := hbel_1.next hB_2
  have hsz_2 := hB_2.size
  clear R0_1 cR0_1_0 fR0_1_0 cR0_1_1 fR0_1_1 cR0_1_2 fR0_1_2 A_1 hbel_1 hB_2
  have B_2 := hO.rdZ sl.out
  clear hO
  try clear hB
  go_wp2_with fail
  refine (rqnew (A_2.mono (by omega)) (B_2.mono (by omega))).mono ?_
  rintro e w3 ⟨qa, qn, qc, da, dn, dc, rfl, hO, hO', hD, hB⟩
  have hB_3 : Below w2.heap.size w2 w3 := (bl.next hB)
  have R0_3 := R0_2.next hB_3
  have cR0_3_0 : _ = some (Value.bool false) := R0_3.cell 0
  have fR0_3_0 := R0_3.free 0
  have cR0_3_1 : _ = some (Value.slice none 0 0) := R0_3.cell 1
  have fR0_3_1 := R0_3.free 1
  have cR0_3_2 : _ = some (Value.slice none 0 0) := R0_3.cell 2
  have fR0_3_2 := R0_3.free 2
  have A_3 := A_2.below hB_3
  have B_3 := B_2.below hB_3
  have hbel_3 := hbel_2.next hB_3
  have hsz_3 := hB_3.size
  clear R0_2 cR0_2_0 fR0_2_0 cR0_2_1 fR0_2_1 cR0_2_2 fR0_2_2 A_2 B_2 hbel_2 hB_3
  have OQ_3 := hO
  have ltOQ := hO.ltB
  have OD_3 := hO'
  have ltOD := hO'.ltB
  clear hO hO'
  try clear hB
  go_wp2
  refine bodyPost_ret (v := .tuple #[.agg #[.bool (qsg (Rat.divInt k l) (zE l)), .slice qa qn qc, .slice da dn dc], .int .i64 (zE l)]) (by simp [results, Tryz.results105, go_sem, cR0_3_0, cR0_3_1, cR0_3_2]) rfl ?_
  exact retqe_set OQ_3 OD_3 hD hbel_3 (by omega) (by omega)

set_option maxRecDepth 100000 in
set_option maxHeartbeats 4000000 in
theorem rqsign {w : World} {a1 b1 : Option Addr} {n1 c1 m1 d1 : Nat} {s : Bool} {x : Rat} {J : Nat} (hx : RdQ J w s a1 n1 c1 b1 m1 d1 x) (hJ : J ≤ 1000000) :
    Calls Tryz.prog 63 #[.agg #[.bool s, .slice a1 n1 c1, .slice b1 m1 d1]] w (RetIb w (sgnQ x)) := by
  obtain ⟨u1, v1, h1, hd1, rfl⟩ := hx
  have hz1 := h1.toZ (s := s)
  have sd1 := hid (sz_und (hd1.sz.mono (Nat.le_refl _) (Nat.le_succ J)) (by omega))
  have su1 := hid h1.sz
  have hu1 := hid (und_ne v1)
  unfold qv
  rw [sgnQ_mk _ hu1.out]
  have hent := ent1 w #[Value.bool s, Value.slice a1 n1 c1, Value.slice b1 m1 d1] 39
  go_enter Tryz.func63, Tryz.ntmps63
  go_wp2_with fail
  generalize (w.alloc (.cells #[Value.bool s, Value.slice a1 n1 c1, Value.slice b1 m1 d1] 39)) = W0 at hent ⊢
  obtain ⟨X_0, hbel_0, hsz_0⟩ := hent
  have cX_0_0 : _ = some (Value.bool s) := X_0.cell 0
  have cX_0_1 : _ = some (Value.slice a1 n1 c1) := X_0.cell 1
  have cX_0_2 : _ = some (Value.slice b1 m1 d1) := X_0.cell 2
  have hz1_0 := hz1.below hbel_0
  clear hz1
  go_wp2_with fail
  refine (rzsignR hz1_0 (by omega)).mono ?_
  rintro e w1 ⟨rfl, hB⟩
  have hB_1 : Below W0.heap.size W0 w1 := (bl.next hB)
  have X_1 := X_0.next hB_1
  have cX_1_0 : _ = some (Value.bool s) := X_1.cell 0
  have cX_1_1 : _ = some (Value.slice a1 n1 c1) := X_1.cell 1
  have cX_1_2 : _ = some (Value.slice b1 m1 d1) := X_1.cell 2
  have hz1_1 := hz1_0.below hB_1
  have hbel_1 := hbel_0.next hB_1
  have hsz_1 := hB_1.size
  clear X_0 cX_0_0 cX_0_1 cX_0_2 hz1_0 hbel_0 hB_1
  try clear hB
  go_wp2
  go_ret
  exact ⟨rfl, hbel_1⟩

/-- a fraction beside no error -/
def RetQK (w : World) (q : Rat) (e : Ending) (w' : World) : Prop :=
  ∃ a n c b m d, e = .returned (.tuple #[.agg #[.bool (decide (q.num < 0)), .slice a n c, .slice b m d], .int .i64 0]) ∧ Own w.heap.size w' a n c (lm q.num.natAbs) ∧ Own w.heap.size w' b m d (lm q.den) ∧ Diff a b ∧ Below w.heap.size w w'
theorem retqe_ok {w w' : World} {q : Rat} {er : Int} {e : Ending} (h : RetQE w q er e w') (he : er = 0) : RetQK w q e w' := by
  subst he; exact h

set_option maxRecDepth 100000 in
set_option maxHeartbeats 4000000 in
theorem rqsmall {w : World} (k l : Int) (h1 : -9223372036854775808 ≤ k) (h2 : k ≤ 9223372036854775807) (h3 : -9223372036854775808 ≤ l) (h4 : l ≤ 9223372036854775807) (hl : l ≠ 0) :
    Calls Tryz.prog 64 #[.int .i64 k, .int .i64 l] w (RetQ w (Rat.divInt k l)) := by
  have H := hid (fun w => (rqof (w := w) k l h1 h2 h3 h4).mono fun e w' h => retqe_ok h (zE_pos hl))
  generalize Rat.divInt k l = q at *
  clear h1 h2 h3 h4 hl
  have hent := ent1 w #[Value.bool false, Value.slice none 0 0, Value.slice none 0 0] 39
  go_enter Tryz.func64, Tryz.ntmps64
  go_wp2_with fail
  generalize (w.alloc (.cells #[Value.bool false, Value.slice none 0 0, Value.slice none 0 0] 39)) = W0 at hent ⊢
  obtain ⟨R0_0, hbel_0, hsz_0⟩ := hent
  have cR0_0_0 : _ = some (Value.bool false) := R0_0.cell 0
  have fR0_0_0 := R0_0.free 0
  have cR0_0_1 : _ = some (Value.slice none 0 0) := R0_0.cell 1
  have fR0_0_1 := R0_0.free 1
  have cR0_0_2 : _ = some (Value.slice none 0 0) := R0_0.cell 2
  have fR0_0_2 := R0_0.free 2
  go_wp2_with fail
  refine (H.out _).mono ?_
  rintro e w1 ⟨pa, pn, pc, oa, on, oc, rfl, hO, hO', hD, hB⟩
  have hB_1 : Below W0.heap.size W0 w1 := (bl.next hB)
  have R0_1 := R0_0.next hB_1
  have cR0_1_0 : _ = some (Value.bool false) := R0_1.cell 0
  have fR0_1_0 := R0_1.free 0
  have cR0_1_1 : _ = some (Value.slice none 0 0) := R0_1.cell 1
  have fR0_1_1 := R0_1.free 1
  have cR0_1_2 : _ = some (Value.slice none 0 0) := R0_1.cell 2
  have fR0_1_2 := R0_1.free 2
  have hbel_1 := hbel_0.next hB_1
  have hsz_1 := hB_1.size
  clear R0_0 cR0_0_0 fR0_0_0 cR0_0_1 fR0_0_1 cR0_0_2 fR0_0_2 hbel_0 hB_1
  have P_1 := hO
  have ltP := hO.ltB
  have O_1 := hO'
  have ltO := hO'.ltB
  clear hO hO'
  try clear hB
  have hbx := blk_new w1 #[Value.bool (decide (q.num < 0)), Value.slice pa pn pc, Value.slice oa on oc] 39
  have hbB := (Below.refl w1.heap.size w1).alloc (Nat.le_refl _) (.cells #[Value.bool (decide (q.num < 0)), Value.slice pa pn pc, Value.slice oa on oc] 39)
  have hltA := hbx.lt
  have hB_2 : Below w1.heap.size w1 (w1.alloc (.cells #[Value.bool (decide (q.num < 0)), Value.slice pa pn pc, Value.slice oa on oc] 39)) := hbB
  have R0_2 := R0_1.next hB_2
  have cR0_2_0 : _ = some (Value.bool false) := R0_2.cell 0
  have fR0_2_0 := R0_2.free 0
  have cR0_2_1 : _ = some (Value.slice none 0 0) := R0_2.cell 1
  have fR0_2_1 := R0_2.free 1
  have cR0_2_2 : _ = some (Value.slice none 0 0) := R0_2.cell 2
  have fR0_2_2 := R0_2.free 2
  have P_2 := P_1.below hB_2
  have O_2 := O_1.below hB_2
  have hbel_2 := hbel_1.next hB_2
  have hsz_2 := hB_2.size
  clear hB_2
  have A_2 := hbx
  clear hbx hbB
  have cA_2_0 : _ = some (Value.bool (decide (q.num < 0))) := A_2.cell 0
  have fA_2_0 := A_2.free 0
  have cA_2_1 : _ = some (Value.slice pa pn pc) := A_2.cell 1
  have fA_2_1 := A_2.free 1
  have cA_2_2 : _ = some (Value.slice oa on oc) := A_2.cell 2
  have fA_2_2 := A_2.free 2
  go_wp2_with fail
  clear R0_1 cR0_1_0 fR0_1_0 cR0_1_1 fR0_1_1 cR0_1_2 fR0_1_2 P_1 O_1 hbel_1
  generalize (w1.alloc (.cells #[Value.bool (decide (q.num < 0)), Value.slice pa pn pc, Value.slice oa on oc] 39)) = v2 at *
  go_wp2
  refine bodyPost_ret (v := .agg #[.bool (decide (q.num < 0)), .slice pa pn pc, .slice oa on oc]) (by simp [results, Tryz.results64, go_sem, cR0_2_0, cR0_2_1, cR0_2_2, cA_2_0, cA_2_1, cA_2_2]) rfl ?_
  exact retq_set P_2 O_2 hD hbel_2 (by omega) (by omega)

set_option maxRecDepth 100000 in
set_option maxHeartbeats 8000000 in
theorem rqadd {w : World} {a1 b1 : Option Addr} {n1 c1 m1 d1 : Nat} {s : Bool} {x : Rat} {a2 b2 : Option Addr} {n2 c2 m2 d2 : Nat} {t : Bool} {y : Rat} {J K : Nat} (hx : RdQ J w s a1 n1 c1 b1 m1 d1 x) (hJ : J ≤ 1000000) (hy : RdQ K w t a2 n2 c2 b2 m2 d2 y) (hK : K ≤ 1000000) :
    Calls Tryz.prog 101 #[.agg #[.bool s, .slice a1 n1 c1, .slice b1 m1 d1], .agg #[.bool t, .slice a2 n2 c2, .slice b2 m2 d2]] w (RetQ w (x + y)) := by
  obtain ⟨u1, v1, h1, hd1, rfl⟩ := hx
  obtain ⟨u2, v2, h2, hd2, rfl⟩ := hy
  have hz1 := h1.toZ (s := s)
  have hz2 := h2.toZ (s := t)
  have sd1 := hid (sz_und (hd1.sz.mono (Nat.le_refl _) (Nat.le_succ J)) (by omega))
  have sd2 := hid (sz_und (hd2.sz.mono (Nat.le_refl _) (Nat.le_succ K)) (by omega))
  have sz1 := hid hz1.sz
  have sz2 := hid hz2.sz
  have su1 := hid h1.sz
  have su2 := hid h2.sz
  have hu1 := hid (und_ne v1)
  have hu2 := hid (und_ne v2)
  unfold qv
  rw [← qv_add (zv s u1) (zv t u2) hu1.out hu2.out]
  have HU1 := hid (fun W (h : RdN J W b1 m1 d1 v1) => rqden (w := W) (s := s) (a := a1) (n := n1) (c := c1) (h.mono (show _ ≤ 4194304 by omega)))
  generalize hD1 : und v1 = e1 at *
  clear hD1
  have HU2 := hid (fun W (h : RdN K W b2 m2 d2 v2) => rqden (w := W) (s := t) (a := a2) (n := n2) (c := c2) (h.mono (show _ ≤ 4194304 by omega)))
  generalize hD2 : und v2 = e2 at *
  clear hD2
  have s12 := hid ((szMulN sz1.out sd2.out).mono (Nat.le_refl _) (show _ ≤ J + K + 2 by omega))
  have s21 := hid ((szMulN sz2.out sd1.out).mono (Nat.le_refl _) (show _ ≤ J + K + 2 by omega))
  have sS := hid (szAddZ s12.out s21.out)
  have sD := hid (sd1.out.mul sd2.out)
  have hDD := hid (Nat.mul_ne_zero hu1.out hu2.out)
  clear h1 h2
  generalize zv s u1 = x1 at *
  generalize zv t u2 = x2 at *
  have hent := ent3 w #[Value.bool s, Value.slice a1 n1 c1, Value.slice b1 m1 d1] #[Value.bool t, Value.slice a2 n2 c2, Value.slice b2 m2 d2] #[Value.bool false, Value.slice none 0 0, Value.slice none 0 0] 39 39 39
  go_enter Tryz.func101, Tryz.ntmps101
  go_wp2_with fail
  generalize (((w.alloc (.cells #[Value.bool s, Value.slice a1 n1 c1, Value.slice b1 m1 d1] 39)).alloc (.cells #[Value.bool t, Value.slice a2 n2 c2, Value.slice b2 m2 d2] 39)).alloc (.cells #[Value.bool false, Value.slice none 0 0, Value.slice none 0 0] 39)) = W0 at hent ⊢
  obtain ⟨X_0, Y_0, R0_0, hbel_0, hsz_0⟩ := hent
  have cX_0_0 : _ = some (Value.bool s) := X_0.cell 0
  have cX_0_1 : _ = some (Value.slice a1 n1 c1) := X_0.cell 1
  have cX_0_2 : _ = some (Value.slice b1 m1 d1) := X_0.cell 2
  have cY_0_0 : _ = some (Value.bool t) := Y_0.cell 0
  have cY_0_1 : _ = some (Value.slice a2 n2 c2) := Y_0.cell 1
  have cY_0_2 : _ = some (Value.slice b2 m2 d2) := Y_0.cell 2
  have cR0_0_0 : _ = some (Value.bool false) := R0_0.cell 0
  have fR0_0_0 := R0_0.free 0
  have cR0_0_1 : _ = some (Value.slice none 0 0) := R0_0.cell 1
  have fR0_0_1 := R0_0.free 1
  have cR0_0_2 : _ = some (Value.slice none 0 0) := R0_0.cell 2
  have fR0_0_2 := R0_0.free 2
  have hz1_0 := hz1.below hbel_0
  clear hz1
  have hz2_0 := hz2.below hbel_0
  clear hz2
  have hd1_0 := hd1.below hbel_0
  clear hd1
  have hd2_0 := hd2.below hbel_0
  clear hd2
  go_wp2_with fail
  go_cut [5] (fun s5 wx => BoxZ W0 (x1 * (e2 : Int)) s5 wx)
  case first =>
    have acc_0 : Below W0.heap.size W0 W0 := Below.refl _ _
    go_wp2_with fail
    go_region_held3 (fun w' => w'.cell? ⟨w.heap.size, 0, none⟩ = some (Value.bool s) ∧ w'.cell? ⟨w.heap.size, 1, none⟩ = some (Value.slice a1 n1 c1) ∧ w'.cell? ⟨w.heap.size, 2, none⟩ = some (Value.slice b1 m1 d1) ∧ w'.cell? ⟨w.heap.size + 1, 0, none⟩ = some (Value.bool t) ∧ w'.cell? ⟨w.heap.size + 1, 1, none⟩ = some (Value.slice a2 n2 c2) ∧ w'.cell? ⟨w.heap.size + 1, 2, none⟩ = some (Value.slice b2 m2 d2))
      (first | exact ⟨cX_0_0, cX_0_1, cX_0_2, cY_0_0, cY_0_1, cY_0_2⟩ | exact ⟨cX_1_0, cX_1_1, cX_1_2, cY_1_0, cY_1_1, cY_1_2⟩ | exact ⟨cX_2_0, cX_2_1, cX_2_2, cY_2_0, cY_2_1, cY_2_2⟩ | exact ⟨cX_3_0, cX_3_1, cX_3_2, cY_3_0, cY_3_1, cY_3_2⟩ | exact ⟨(cell_set2 (by omega) _ _).trans (cX_3_0), (cell_set2 (by omega) _ _).trans (cX_3_1), (cell_set2 (by omega) _ _).trans (cX_3_2), (cell_set2 (by omega) _ _).trans (cY_3_0), (cell_set2 (by omega) _ _).trans (cY_3_1), (cell_set2 (by omega) _ _).trans (cY_3_2)⟩ | exact ⟨(X_0.alloc _).cell 0, (X_0.alloc _).cell 1, (X_0.alloc _).cell 2, (Y_0.alloc _).cell 0, (Y_0.alloc _).cell 1, (Y_0.alloc _).cell 2⟩ | exact ⟨(X_1.alloc _).cell 0, (X_1.alloc _).cell 1, (X_1.alloc _).cell 2, (Y_1.alloc _).cell 0, (Y_1.alloc _).cell 1, (Y_1.alloc _).cell 2⟩ | exact ⟨(X_2.alloc _).cell 0, (X_2.alloc _).cell 1, (X_2.alloc _).cell 2, (Y_2.alloc _).cell 0, (Y_2.alloc _).cell 1, (Y_2.alloc _).cell 2⟩ | exact ⟨(X_3.alloc _).cell 0, (X_3.alloc _).cell 1, (X_3.alloc _).cell 2, (Y_3.alloc _).cell 0, (Y_3.alloc _).cell 1, (Y_3.alloc _).cell 2⟩ | go_keep)
      (first
        | (go_at_call 89; ((with_reducible refine (HU2.out _ (hd2_0.below bl)).mono ?_); (rintro e w1 ⟨ua, un, uc, rfl, hO, hB⟩; have hB_1 : Below W0.heap.size W0 w1 := (bl.next hB); have X_1 := X_0.next hB_1; have cX_1_0 : _ = some (Value.bool s) := X_1.cell 0; have cX_1_1 : _ = some (Value.slice a1 n1 c1) := X_1.cell 1; have cX_1_2 : _ = some (Value.slice b1 m1 d1) := X_1.cell 2; have Y_1 := Y_0.next hB_1; have cY_1_0 : _ = some (Value.bool t) := Y_1.cell 0; have cY_1_1 : _ = some (Value.slice a2 n2 c2) := Y_1.cell 1; have cY_1_2 : _ = some (Value.slice b2 m2 d2) := Y_1.cell 2; have R0_1 := R0_0.next hB_1; have cR0_1_0 : _ = some (Value.bool false) := R0_1.cell 0; have fR0_1_0 := R0_1.free 0; have cR0_1_1 : _ = some (Value.slice none 0 0) := R0_1.cell 1; have fR0_1_1 := R0_1.free 1; have cR0_1_2 : _ = some (Value.slice none 0 0) := R0_1.cell 2; have fR0_1_2 := R0_1.free 2; have hz1_1 := hz1_0.below hB_1; have hz2_1 := hz2_0.below hB_1; have hd1_1 := hd1_0.below hB_1; have hd2_1 := hd2_0.below hB_1; have hbel_1 := hbel_0.next hB_1; have hsz_1 := hB_1.size; clear X_0 cX_0_0 cX_0_1 cX_0_2 Y_0 cY_0_0 cY_0_1 cY_0_2 R0_0 cR0_0_0 fR0_0_0 cR0_0_1 fR0_0_1 cR0_0_2 fR0_0_2 hz1_0 hz2_0 hd1_0 hd2_0 hbel_0 hB_1; have acc_1 := acc_0.next (show Below _ _ _ from (bl.next hB)); (first | (have A := A.next (show Below _ _ _ from (bl.next hB)); have ltA := A.lt; have cA0 : _ = some (Value.bool false) := A.cell 0; have fA0 := A.free 0; have cA1 : _ = some (Value.slice none 0 0) := A.cell 1; have fA1 := A.free 1) | (have A := (blk_new' _ #[Value.bool false, Value.slice none 0 0] 37 (g := W0.heap.size) rfl).next (by first | exact hB | exact below_drew hB); have ltA := A.lt; have cA0 : _ = some (Value.bool false) := A.cell 0; have fA0 := A.free 0; have cA1 : _ = some (Value.slice none 0 0) := A.cell 1; have fA1 := A.free 1) | skip); have U_1 := hO.rdN sd2.out; clear hO; try clear hB)))
        | (go_at_call 100; ((with_reducible refine (rwhole_any).mono ?_); (rintro e w2 ⟨rfl, hB⟩; have hB_2 : Below w1.heap.size w1 w2 := (bl.next hB); have X_2 := X_1.next hB_2; have cX_2_0 : _ = some (Value.bool s) := X_2.cell 0; have cX_2_1 : _ = some (Value.slice a1 n1 c1) := X_2.cell 1; have cX_2_2 : _ = some (Value.slice b1 m1 d1) := X_2.cell 2; have Y_2 := Y_1.next hB_2; have cY_2_0 : _ = some (Value.bool t) := Y_2.cell 0; have cY_2_1 : _ = some (Value.slice a2 n2 c2) := Y_2.cell 1; have cY_2_2 : _ = some (Value.slice b2 m2 d2) := Y_2.cell 2; have R0_2 := R0_1.next hB_2; have cR0_2_0 : _ = some (Value.bool false) := R0_2.cell 0; have fR0_2_0 := R0_2.free 0; have cR0_2_1 : _ = some (Value.slice none 0 0) := R0_2.cell 1; have fR0_2_1 := R0_2.free 1; have cR0_2_2 : _ = some (Value.slice none 0 0) := R0_2.cell 2; have fR0_2_2 := R0_2.free 2; have hz1_2 := hz1_1.below hB_2; have hz2_2 := hz2_1.below hB_2; have hd1_2 := hd1_1.below hB_2; have hd2_2 := hd2_1.below hB_2; have U_2 := U_1.below hB_2; have hbel_2 := hbel_1.next hB_2; have hsz_2 := hB_2.size; clear X_1 cX_1_0 cX_1_1 cX_1_2 Y_1 cY_1_0 cY_1_1 cY_1_2 R0_1 cR0_1_0 fR0_1_0 cR0_1_1 fR0_1_1 cR0_1_2 fR0_1_2 hz1_1 hz2_1 hd1_1 hd2_1 U_1 hbel_1 hB_2; have acc_2 := acc_1.next (show Below _ _ _ from (bl.next hB)); (first | (have A := A.next (show Below _ _ _ from (bl.next hB)); have ltA := A.lt; have cA0 : _ = some (Value.bool false) := A.cell 0; have fA0 := A.free 0; have cA1 : _ = some (Value.slice none 0 0) := A.cell 1; have fA1 := A.free 1) | (have A := (blk_new' _ #[Value.bool false, Value.slice none 0 0] 37 (g := w1.heap.size) rfl).next (by first | exact hB | exact below_drew hB); have ltA := A.lt; have cA0 : _ = some (Value.bool false) := A.cell 0; have fA0 := A.free 0; have cA1 : _ = some (Value.slice none 0 0) := A.cell 1; have fA1 := A.free 1) | skip); try clear hB)))
        | (go_at_call 114; ((with_reducible refine (rzmulR (hz1_2.below bl) (U_2.below bl).toI (by omega) (by omega)).mono ?_); (rintro e w3 ⟨pa, pn, pc, rfl, hO, hB⟩; have hB_3 : Below w2.heap.size w2 w3 := (bl.next hB); have X_3 := X_2.next hB_3; have cX_3_0 : _ = some (Value.bool s) := X_3.cell 0; have cX_3_1 : _ = some (Value.slice a1 n1 c1) := X_3.cell 1; have cX_3_2 : _ = some (Value.slice b1 m1 d1) := X_3.cell 2; have Y_3 := Y_2.next hB_3; have cY_3_0 : _ = some (Value.bool t) := Y_3.cell 0; have cY_3_1 : _ = some (Value.slice a2 n2 c2) := Y_3.cell 1; have cY_3_2 : _ = some (Value.slice b2 m2 d2) := Y_3.cell 2; have R0_3 := R0_2.next hB_3; have cR0_3_0 : _ = some (Value.bool false) := R0_3.cell 0; have fR0_3_0 := R0_3.free 0; have cR0_3_1 : _ = some (Value.slice none 0 0) := R0_3.cell 1; have fR0_3_1 := R0_3.free 1; have cR0_3_2 : _ = some (Value.slice none 0 0) := R0_3.cell 2; have fR0_3_2 := R0_3.free 2; have hz1_3 := hz1_2.below hB_3; have hz2_3 := hz2_2.below hB_3; have hd1_3 := hd1_2.below hB_3; have hd2_3 := hd2_2.below hB_3; have U_3 := U_2.below hB_3; have hbel_3 := hbel_2.next hB_3; have hsz_3 := hB_3.size; clear X_2 cX_2_0 cX_2_1 cX_2_2 Y_2 cY_2_0 cY_2_1 cY_2_2 R0_2 cR0_2_0 fR0_2_0 cR0_2_1 fR0_2_1 cR0_2_2 fR0_2_2 hz1_2 hz2_2 hd1_2 hd2_2 U_2 hbel_2 hB_3; have acc_3 := acc_2.next (show Below _ _ _ from (bl.next hB)); (first | (have A := A.next (show Below _ _ _ from (bl.next hB)); have ltA := A.lt; have cA0 : _ = some (Value.bool false) := A.cell 0; have fA0 := A.free 0; have cA1 : _ = some (Value.slice none 0 0) := A.cell 1; have fA1 := A.free 1) | (have A := (blk_new' _ #[Value.bool false, Value.slice none 0 0] 37 (g := w2.heap.size) rfl).next (by first | exact hB | exact below_drew hB); have ltA := A.lt; have cA0 : _ = some (Value.bool false) := A.cell 0; have fA0 := A.free 0; have cA1 : _ = some (Value.slice none 0 0) := A.cell 1; have fA1 := A.free 1) | skip); try clear hB))))
    all_goals (go_wp2_with fail; go_meet; first | exact boxZ_new hO (by first | omega | (simp; omega) | simp) acc_3 | exact boxZ_set A hO (by first | omega | (simp; omega) | simp) (by first | omega | (simp; omega) | simp) acc_3)
  case rest =>
    obtain ⟨gS, Sa, Sn, Sc, rfl, hbk, hgeS, hO, awS, hBc⟩ := hcut
    have hB_1 : Below W0.heap.size W0 wc := hBc
    have X_1 := X_0.next hB_1
    have cX_1_0 : _ = some (Value.bool s) := X_1.cell 0
    have cX_1_1 : _ = some (Value.slice a1 n1 c1) := X_1.cell 1
    have cX_1_2 : _ = some (Value.slice b1 m1 d1) := X_1.cell 2
    have Y_1 := Y_0.next hB_1
    have cY_1_0 : _ = some (Value.bool t) := Y_1.cell 0
    have cY_1_1 : _ = some (Value.slice a2 n2 c2) := Y_1.cell 1
    have cY_1_2 : _ = some (Value.slice b2 m2 d2) := Y_1.cell 2
    have R0_1 := R0_0.next hB_1
    have cR0_1_0 : _ = some (Value.bool false) := R0_1.cell 0
    have fR0_1_0 := R0_1.free 0
    have cR0_1_1 : _ = some (Value.slice none 0 0) := R0_1.cell 1
    have fR0_1_1 := R0_1.free 1
    have cR0_1_2 : _ = some (Value.slice none 0 0) := R0_1.cell 2
    have fR0_1_2 := R0_1.free 2
    have hz1_1 := hz1_0.below hB_1
    have hz2_1 := hz2_0.below hB_1
    have hd1_1 := hd1_0.below hB_1
    have hd2_1 := hd2_0.below hB_1
    have hbel_1 := hbel_0.next hB_1
    have hsz_1 := hB_1.size
    clear X_0 cX_0_0 cX_0_1 cX_0_2 Y_0 cY_0_0 cY_0_1 cY_0_2 R0_0 cR0_0_0 fR0_0_0 cR0_0_1 fR0_0_1 cR0_0_2 fR0_0_2 hz1_0 hz2_0 hd1_0 hd2_0 hbel_0 hB_1
    clear hBc
    obtain ⟨wc1, hwc⟩ : ∃ x : World, x = wc := ⟨_, rfl⟩
    subst hwc
    have S_1 := hbk
    have hltS := hbk.lt
    clear hbk
    have cS_1_0 : _ = some (Value.bool (decide (x1 * (e2 : Int) < 0))) := S_1.cell 0
    have cS_1_1 : _ = some (Value.slice Sa Sn Sc) := S_1.cell 1
    have OS_1 := hO
    have ltOS := hO.ltB
    clear hO
    go_wp2_with fail
    go_cut [6] (fun s6 wx => BoxZ wc1 (x2 * (e1 : Int)) s6 wx)
    case first =>
      have acc_1 : Below wc1.heap.size wc1 wc1 := Below.refl _ _
      go_wp2_with fail
      go_region_held3 (fun w' => w'.cell? ⟨w.heap.size, 0, none⟩ = some (Value.bool s) ∧ w'.cell? ⟨w.heap.size, 1, none⟩ = some (Value.slice a1 n1 c1) ∧ w'.cell? ⟨w.heap.size, 2, none⟩ = some (Value.slice b1 m1 d1) ∧ w'.cell? ⟨w.heap.size + 1, 0, none⟩ = some (Value.bool t) ∧ w'.cell? ⟨w.heap.size + 1, 1, none⟩ = some (Value.slice a2 n2 c2) ∧ w'.cell? ⟨w.heap.size + 1, 2, none⟩ = some (Value.slice b2 m2 d2) ∧ w'.cell? ⟨gS, 0, none⟩ = some (Value.bool (decide (x1 * (e2 : Int) < 0))) ∧ w'.cell? ⟨gS, 1, none⟩ = some (Value.slice Sa Sn Sc))
        (first | exact ⟨cX_1_0, cX_1_1, cX_1_2, cY_1_0, cY_1_1, cY_1_2, cS_1_0, cS_1_1⟩ | exact ⟨cX_2_0, cX_2_1, cX_2_2, cY_2_0, cY_2_1, cY_2_2, cS_2_0, cS_2_1⟩ | exact ⟨cX_3_0, cX_3_1, cX_3_2, cY_3_0, cY_3_1, cY_3_2, cS_3_0, cS_3_1⟩ | exact ⟨cX_4_0, cX_4_1, cX_4_2, cY_4_0, cY_4_1, cY_4_2, cS_4_0, cS_4_1⟩ | exact ⟨(cell_set2 (by omega) _ _).trans (cX_4_0), (cell_set2 (by omega) _ _).trans (cX_4_1), (cell_set2 (by omega) _ _).trans (cX_4_2), (cell_set2 (by omega) _ _).trans (cY_4_0), (cell_set2 (by omega) _ _).trans (cY_4_1), (cell_set2 (by omega) _ _).trans (cY_4_2), (cell_set2 (by omega) _ _).trans (cS_4_0), (cell_set2 (by omega) _ _).trans (cS_4_1)⟩ | exact ⟨(X_1.alloc _).cell 0, (X_1.alloc _).cell 1, (X_1.alloc _).cell 2, (Y_1.alloc _).cell 0, (Y_1.alloc _).cell 1, (Y_1.alloc _).cell 2, (S_1.alloc _).cell 0, (S_1.alloc _).cell 1⟩ | exact ⟨(X_2.alloc _).cell 0, (X_2.alloc _).cell 1, (X_2.alloc _).cell 2, (Y_2.alloc _).cell 0, (Y_2.alloc _).cell 1, (Y_2.alloc _).cell 2, (S_2.alloc _).cell 0, (S_2.alloc _).cell 1⟩ | exact ⟨(X_3.alloc _).cell 0, (X_3.alloc _).cell 1, (X_3.alloc _).cell 2, (Y_3.alloc _).cell 0, (Y_3.alloc _).cell 1, (Y_3.alloc _).cell 2, (S_3.alloc _).cell 0, (S_3.alloc _).cell 1⟩ | exact ⟨(X_4.alloc _).cell 0, (X_4.alloc _).cell 1, (X_4.alloc _).cell 2, (Y_4.alloc _).cell 0, (Y_4.alloc _).cell 1, (Y_4.alloc _).cell 2, (S_4.alloc _).cell 0, (S_4.alloc _).cell 1⟩ | go_keep)
        (first
          | (go_at_call 89; ((with_reducible refine (HU1.out _ (hd1_1.below bl)).mono ?_); (rintro e w2 ⟨ua, un, uc, rfl, hO, hB⟩; have hB_2 : Below wc1.heap.size wc1 w2 := (bl.next hB); have X_2 := X_1.next hB_2; have cX_2_0 : _ = some (Value.bool s) := X_2.cell 0; have cX_2_1 : _ = some (Value.slice a1 n1 c1) := X_2.cell 1; have cX_2_2 : _ = some (Value.slice b1 m1 d1) := X_2.cell 2; have Y_2 := Y_1.next hB_2; have cY_2_0 : _ = some (Value.bool t) := Y_2.cell 0; have cY_2_1 : _ = some (Value.slice a2 n2 c2) := Y_2.cell 1; have cY_2_2 : _ = some (Value.slice b2 m2 d2) := Y_2.cell 2; have R0_2 := R0_1.next hB_2; have cR0_2_0 : _ = some (Value.bool false) := R0_2.cell 0; have fR0_2_0 := R0_2.free 0; have cR0_2_1 : _ = some (Value.slice none 0 0) := R0_2.cell 1; have fR0_2_1 := R0_2.free 1; have cR0_2_2 : _ = some (Value.slice none 0 0) := R0_2.cell 2; have fR0_2_2 := R0_2.free 2; have S_2 := S_1.next hB_2; have cS_2_0 : _ = some (Value.bool (decide (x1 * (e2 : Int) < 0))) := S_2.cell 0; have cS_2_1 : _ = some (Value.slice Sa Sn Sc) := S_2.cell 1; have hz1_2 := hz1_1.below hB_2; have hz2_2 := hz2_1.below hB_2; have hd1_2 := hd1_1.below hB_2; have hd2_2 := hd2_1.below hB_2; have OS_2 := OS_1.below hB_2; have hbel_2 := hbel_1.next hB_2; have hsz_2 := hB_2.size; clear X_1 cX_1_0 cX_1_1 cX_1_2 Y_1 cY_1_0 cY_1_1 cY_1_2 R0_1 cR0_1_0 fR0_1_0 cR0_1_1 fR0_1_1 cR0_1_2 fR0_1_2 S_1 cS_1_0 cS_1_1 hz1_1 hz2_1 hd1_1 hd2_1 OS_1 hbel_1 hB_2; have acc_2 := acc_1.next (show Below _ _ _ from (bl.next hB)); (first | (have A := A.next (show Below _ _ _ from (bl.next hB)); have ltA := A.lt; have cA0 : _ = some (Value.bool false) := A.cell 0; have fA0 := A.free 0; have cA1 : _ = some (Value.slice none 0 0) := A.cell 1; have fA1 := A.free 1) | (have A := (blk_new' _ #[Value.bool false, Value.slice none 0 0] 37 (g := wc1.heap.size) rfl).next (by first | exact hB | exact below_drew hB); have ltA := A.lt; have cA0 : _ = some (Value.bool false) := A.cell 0; have fA0 := A.free 0; have cA1 : _ = some (Value.slice none 0 0) := A.cell 1; have fA1 := A.free 1) | skip); have U_2 := hO.rdN sd1.out; clear hO; try clear hB)))
          | (go_at_call 100; ((with_reducible refine (rwhole_any).mono ?_); (rintro e w3 ⟨rfl, hB⟩; have hB_3 : Below w2.heap.size w2 w3 := (bl.next hB); have X_3 := X_2.next hB_3; have cX_3_0 : _ = some (Value.bool s) := X_3.cell 0; have cX_3_1 : _ = some (Value.slice a1 n1 c1) := X_3.cell 1; have cX_3_2 : _ = some (Value.slice b1 m1 d1) := X_3.cell 2; have Y_3 := Y_2.next hB_3; have cY_3_0 : _ = some (Value.bool t) := Y_3.cell 0; have cY_3_1 : _ = some (Value.slice a2 n2 c2) := Y_3.cell 1; have cY_3_2 : _ = some (Value.slice b2 m2 d2) := Y_3.cell 2; have R0_3 := R0_2.next hB_3; have cR0_3_0 : _ = some (Value.bool false) := R0_3.cell 0; have fR0_3_0 := R0_3.free 0; have cR0_3_1 : _ = some (Value.slice none 0 0) := R0_3.cell 1; have fR0_3_1 := R0_3.free 1; have cR0_3_2 : _ = some (Value.slice none 0 0) := R0_3.cell 2; have fR0_3_2 := R0_3.free 2; have S_3 := S_2.next hB_3; have cS_3_0 : _ = some (Value.bool (decide (x1 * (e2 : Int) < 0))) := S_3.cell 0; have cS_3_1 : _ = some (Value.slice Sa Sn Sc) := S_3.cell 1; have hz1_3 := hz1_2.below hB_3; have hz2_3 := hz2_2.below hB_3; have hd1_3 := hd1_2.below hB_3; have hd2_3 := hd2_2.below hB_3; have OS_3 := OS_2.below hB_3; have U_3 := U_2.below hB_3; have hbel_3 := hbel_2.next hB_3; have hsz_3 := hB_3.size; clear X_2 cX_2_0 cX_2_1 cX_2_2 Y_2 cY_2_0 cY_2_1 cY_2_2 R0_2 cR0_2_0 fR0_2_0 cR0_2_1 fR0_2_1 cR0_2_2 fR0_2_2 S_2 cS_2_0 cS_2_1 hz1_2 hz2_2 hd1_2 hd2_2 OS_2 U_2 hbel_2 hB_3; have acc_3 := acc_2.next (show Below _ _ _ from (bl.next hB)); (first | (have A := A.next (show Below _ _ _ from (bl.next hB)); have ltA := A.lt; have cA0 : _ = some (Value.bool false) := A.cell 0; have fA0 := A.free 0; have cA1 : _ = some (Value.slice none 0 0) := A.cell 1; have fA1 := A.free 1) | (have A := (blk_new' _ #[Value.bool false, Value.slice none 0 0] 37 (g := w2.heap.size) rfl).next (by first | exact hB | exact below_drew hB); have ltA := A.lt; have cA0 : _ = some (Value.bool false) := A.cell 0; have fA0 := A.free 0; have cA1 : _ = some (Value.slice none 0 0) := A.cell 1; have fA1 := A.free 1) | skip); try clear hB)))
          | (go_at_call 114; ((with_reducible refine (rzmulR (hz2_3.below bl) (U_3.below bl).toI (by omega) (by omega)).mono ?_); (rintro e w4 ⟨pa, pn, pc, rfl, hO, hB⟩; have hB_4 : Below w3.heap.size w3 w4 := (bl.next hB); have X_4 := X_3.next hB_4; have cX_4_0 : _ = some (Value.bool s) := X_4.cell 0; have cX_4_1 : _ = some (Value.slice a1 n1 c1) := X_4.cell 1; have cX_4_2 : _ = some (Value.slice b1 m1 d1) := X_4.cell 2; have Y_4 := Y_3.next hB_4; have cY_4_0 : _ = some (Value.bool t) := Y_4.cell 0; have cY_4_1 : _ = some (Value.slice a2 n2 c2) := Y_4.cell 1; have cY_4_2 : _ = some (Value.slice b2 m2 d2) := Y_4.cell 2; have R0_4 := R0_3.next hB_4; have cR0_4_0 : _ = some (Value.bool false) := R0_4.cell 0; have fR0_4_0 := R0_4.free 0; have cR0_4_1 : _ = some (Value.slice none 0 0) := R0_4.cell 1; have fR0_4_1 := R0_4.free 1; have cR0_4_2 : _ = some (Value.slice none 0 0) := R0_4.cell 2; have fR0_4_2 := R0_4.free 2; have S_4 := S_3.next hB_4; have cS_4_0 : _ = some (Value.bool (decide (x1 * (e2 : Int) < 0))) := S_4.cell 0; have cS_4_1 : _ = some (Value.slice Sa Sn Sc) := S_4.cell 1; have hz1_4 := hz1_3.below hB_4; have hz2_4 := hz2_3.below hB_4; have hd1_4 := hd1_3.below hB_4; have hd2_4 := hd2_3.below hB_4; have OS_4 := OS_3.below hB_4; have U_4 := U_3.below hB_4; have hbel_4 := hbel_3.next hB_4; have hsz_4 := hB_4.size; clear X_3 cX_3_0 cX_3_1 cX_3_2 Y_3 cY_3_0 cY_3_1 cY_3_2 R0_3 cR0_3_0 fR0_3_0 cR0_3_1 fR0_3_1 cR0_3_2 fR0_3_2 S_3 cS_3_0 cS_3_1 hz1_3 hz2_3 hd1_3 hd2_3 OS_3 U_3 hbel_3 hB_4; have acc_4 := acc_3.next (show Below _ _ _ from (bl.next hB)); (first | (have A := A.next (show Below _ _ _ from (bl.next hB)); have ltA := A.lt; have cA0 : _ = some (Value.bool false) := A.cell 0; have fA0 := A.free 0; have cA1 : _ = some (Value.slice none 0 0) := A.cell 1; have fA1 := A.free 1) | (have A := (blk_new' _ #[Value.bool false, Value.slice none 0 0] 37 (g := w3.heap.size) rfl).next (by first | exact hB | exact below_drew hB); have ltA := A.lt; have cA0 : _ = some (Value.bool false) := A.cell 0; have fA0 := A.free 0; have cA1 : _ = some (Value.slice none 0 0) := A.cell 1; have fA1 := A.free 1) | skip); try clear hB))))
      all_goals (go_wp2_with fail; go_meet; first | exact boxZ_new hO (by first | omega | (simp; omega) | simp) acc_4 | exact boxZ_set A hO (by first | omega | (simp; omega) | simp) (by first | omega | (simp; omega) | simp) acc_4)
    case rest =>
      obtain ⟨gT, Ta, Tn, Tc, rfl, hbk, hgeT, hO, awT, hBc⟩ := hcut
      have hB_2 : Below wc1.heap.size wc1 wc := hBc
      have X_2 := X_1.next hB_2
      have cX_2_0 : _ = some (Value.bool s) := X_2.cell 0
      have cX_2_1 : _ = some (Value.slice a1 n1 c1) := X_2.cell 1
      have cX_2_2 : _ = some (Value.slice b1 m1 d1) := X_2.cell 2
      have Y_2 := Y_1.next hB_2
      have cY_2_0 : _ = some (Value.bool t) := Y_2.cell 0
      have cY_2_1 : _ = some (Value.slice a2 n2 c2) := Y_2.cell 1
      have cY_2_2 : _ = some (Value.slice b2 m2 d2) := Y_2.cell 2
      have R0_2 := R0_1.next hB_2
      have cR0_2_0 : _ = some (Value.bool false) := R0_2.cell 0
      have fR0_2_0 := R0_2.free 0
      have cR0_2_1 : _ = some (Value.slice none 0 0) := R0_2.cell 1
      have fR0_2_1 := R0_2.free 1
      have cR0_2_2 : _ = some (Value.slice none 0 0) := R0_2.cell 2
      have fR0_2_2 := R0_2.free 2
      have S_2 := S_1.next hB_2
      have cS_2_0 : _ = some (Value.bool (decide (x1 * (e2 : Int) < 0))) := S_2.cell 0
      have cS_2_1 : _ = some (Value.slice Sa Sn Sc) := S_2.cell 1
      have hz1_2 := hz1_1.below hB_2
      have hz2_2 := hz2_1.below hB_2
      have hd1_2 := hd1_1.below hB_2
      have hd2_2 := hd2_1.below hB_2
      have OS_2 := OS_1.below hB_2
      have hbel_2 := hbel_1.next hB_2
      have hsz_2 := hB_2.size
      clear X_1 cX_1_0 cX_1_1 cX_1_2 Y_1 cY_1_0 cY_1_1 cY_1_2 R0_1 cR0_1_0 fR0_1_0 cR0_1_1 fR0_1_1 cR0_1_2 fR0_1_2 S_1 cS_1_0 cS_1_1 hz1_1 hz2_1 hd1_1 hd2_1 OS_1 hbel_1 hB_2
      clear hBc
      obtain ⟨wc2, hwc⟩ : ∃ x : World, x = wc := ⟨_, rfl⟩
      subst hwc
      have T_2 := hbk
      have hltT := hbk.lt
      clear hbk
      have cT_2_0 : _ = some (Value.bool (decide (x2 * (e1 : Int) < 0))) := T_2.cell 0
      have cT_2_1 : _ = some (Value.slice Ta Tn Tc) := T_2.cell 1
      have OT_2 := hO
      have ltOT := hO.ltB
      clear hO
      have ZS_2 := OS_2.rdZ s12.out
      have ZT_2 := OT_2.rdZ s21.out
      clear OS_2
      clear OT_2
      go_wp2_with fail
      go_region_held3 (fun w' => w'.cell? ⟨w.heap.size, 0, none⟩ = some (Value.bool s) ∧ w'.cell? ⟨w.heap.size, 1, none⟩ = some (Value.slice a1 n1 c1) ∧ w'.cell? ⟨w.heap.size, 2, none⟩ = some (Value.slice b1 m1 d1) ∧ w'.cell? ⟨w.heap.size + 1, 0, none⟩ = some (Value.bool t) ∧ w'.cell? ⟨w.heap.size + 1, 1, none⟩ = some (Value.slice a2 n2 c2) ∧ w'.cell? ⟨w.heap.size + 1, 2, none⟩ = some (Value.slice b2 m2 d2) ∧ w'.cell? ⟨gS, 0, none⟩ = some (Value.bool (decide (x1 * (e2 : Int) < 0))) ∧ w'.cell? ⟨gS, 1, none⟩ = some (Value.slice Sa Sn Sc) ∧ w'.cell? ⟨gT, 0, none⟩ = some (Value.bool (decide (x2 * (e1 : Int) < 0))) ∧ w'.cell? ⟨gT, 1, none⟩ = some (Value.slice Ta Tn Tc))
        (first | exact ⟨cX_2_0, cX_2_1, cX_2_2, cY_2_0, cY_2_1, cY_2_2, cS_2_0, cS_2_1, cT_2_0, cT_2_1⟩ | exact ⟨cX_3_0, cX_3_1, cX_3_2, cY_3_0, cY_3_1, cY_3_2, cS_3_0, cS_3_1, cT_3_0, cT_3_1⟩ | exact ⟨cX_4_0, cX_4_1, cX_4_2, cY_4_0, cY_4_1, cY_4_2, cS_4_0, cS_4_1, cT_4_0, cT_4_1⟩ | exact ⟨cX_5_0, cX_5_1, cX_5_2, cY_5_0, cY_5_1, cY_5_2, cS_5_0, cS_5_1, cT_5_0, cT_5_1⟩ | exact ⟨cX_6_0, cX_6_1, cX_6_2, cY_6_0, cY_6_1, cY_6_2, cS_6_0, cS_6_1, cT_6_0, cT_6_1⟩ | exact ⟨cX_7_0, cX_7_1, cX_7_2, cY_7_0, cY_7_1, cY_7_2, cS_7_0, cS_7_1, cT_7_0, cT_7_1⟩ | exact ⟨(cell_set3 (by omega) _ _ _).trans (cX_7_0), (cell_set3 (by omega) _ _ _).trans (cX_7_1), (cell_set3 (by omega) _ _ _).trans (cX_7_2), (cell_set3 (by omega) _ _ _).trans (cY_7_0), (cell_set3 (by omega) _ _ _).trans (cY_7_1), (cell_set3 (by omega) _ _ _).trans (cY_7_2), (cell_set3 (by omega) _ _ _).trans (cS_7_0), (cell_set3 (by omega) _ _ _).trans (cS_7_1), (cell_set3 (by omega) _ _ _).trans (cT_7_0), (cell_set3 (by omega) _ _ _).trans (cT_7_1)⟩ | go_keep)
        (first
          | (go_at_call 137; ((with_reducible refine (rzaddR (ZS_2.below bl) (ZT_2.below bl) (by omega) (by omega)).mono ?_); (rintro e w3 ⟨ra, rn, rc, rfl, hO, hB⟩; have hB_3 : Below wc2.heap.size wc2 w3 := (bl.next hB); have X_3 := X_2.next hB_3; have cX_3_0 : _ = some (Value.bool s) := X_3.cell 0; have cX_3_1 : _ = some (Value.slice a1 n1 c1) := X_3.cell 1; have cX_3_2 : _ = some (Value.slice b1 m1 d1) := X_3.cell 2; have Y_3 := Y_2.next hB_3; have cY_3_0 : _ = some (Value.bool t) := Y_3.cell 0; have cY_3_1 : _ = some (Value.slice a2 n2 c2) := Y_3.cell 1; have cY_3_2 : _ = some (Value.slice b2 m2 d2) := Y_3.cell 2; have R0_3 := R0_2.next hB_3; have cR0_3_0 : _ = some (Value.bool false) := R0_3.cell 0; have fR0_3_0 := R0_3.free 0; have cR0_3_1 : _ = some (Value.slice none 0 0) := R0_3.cell 1; have fR0_3_1 := R0_3.free 1; have cR0_3_2 : _ = some (Value.slice none 0 0) := R0_3.cell 2; have fR0_3_2 := R0_3.free 2; have S_3 := S_2.next hB_3; have cS_3_0 : _ = some (Value.bool (decide (x1 * (e2 : Int) < 0))) := S_3.cell 0; have cS_3_1 : _ = some (Value.slice Sa Sn Sc) := S_3.cell 1; have T_3 := T_2.next hB_3; have cT_3_0 : _ = some (Value.bool (decide (x2 * (e1 : Int) < 0))) := T_3.cell 0; have cT_3_1 : _ = some (Value.slice Ta Tn Tc) := T_3.cell 1; have hz1_3 := hz1_2.below hB_3; have hz2_3 := hz2_2.below hB_3; have hd1_3 := hd1_2.below hB_3; have hd2_3 := hd2_2.below hB_3; have ZS_3 := ZS_2.below hB_3; have ZT_3 := ZT_2.below hB_3; have hbel_3 := hbel_2.next hB_3; have hsz_3 := hB_3.size; clear X_2 cX_2_0 cX_2_1 cX_2_2 Y_2 cY_2_0 cY_2_1 cY_2_2 R0_2 cR0_2_0 fR0_2_0 cR0_2_1 fR0_2_1 cR0_2_2 fR0_2_2 S_2 cS_2_0 cS_2_1 T_2 cT_2_0 cT_2_1 hz1_2 hz2_2 hd1_2 hd2_2 ZS_2 ZT_2 hbel_2 hB_3; have R_3 := hO.rdZ sS.out; clear hO; try clear hB)))
          | (go_at_call 89; ((with_reducible refine (HU1.out _ (hd1_3.below bl)).mono ?_); (rintro e w4 ⟨ua, un, uc, rfl, hO, hB⟩; have hB_4 : Below w3.heap.size w3 w4 := (bl.next hB); have X_4 := X_3.next hB_4; have cX_4_0 : _ = some (Value.bool s) := X_4.cell 0; have cX_4_1 : _ = some (Value.slice a1 n1 c1) := X_4.cell 1; have cX_4_2 : _ = some (Value.slice b1 m1 d1) := X_4.cell 2; have Y_4 := Y_3.next hB_4; have cY_4_0 : _ = some (Value.bool t) := Y_4.cell 0; have cY_4_1 : _ = some (Value.slice a2 n2 c2) := Y_4.cell 1; have cY_4_2 : _ = some (Value.slice b2 m2 d2) := Y_4.cell 2; have R0_4 := R0_3.next hB_4; have cR0_4_0 : _ = some (Value.bool false) := R0_4.cell 0; have fR0_4_0 := R0_4.free 0; have cR0_4_1 : _ = some (Value.slice none 0 0) := R0_4.cell 1; have fR0_4_1 := R0_4.free 1; have cR0_4_2 : _ = some (Value.slice none 0 0) := R0_4.cell 2; have fR0_4_2 := R0_4.free 2; have S_4 := S_3.next hB_4; have cS_4_0 : _ = some (Value.bool (decide (x1 * (e2 : Int) < 0))) := S_4.cell 0; have cS_4_1 : _ = some (Value.slice Sa Sn Sc) := S_4.cell 1; have T_4 := T_3.next hB_4; have cT_4_0 : _ = some (Value.bool (decide (x2 * (e1 : Int) < 0))) := T_4.cell 0; have cT_4_1 : _ = some (Value.slice Ta Tn Tc) := T_4.cell 1; have hz1_4 := hz1_3.below hB_4; have hz2_4 := hz2_3.below hB_4; have hd1_4 := hd1_3.below hB_4; have hd2_4 := hd2_3.below hB_4; have ZS_4 := ZS_3.below hB_4; have ZT_4 := ZT_3.below hB_4; have R_4 := R_3.below hB_4; have hbel_4 := hbel_3.next hB_4; have hsz_4 := hB_4.size; clear X_3 cX_3_0 cX_3_1 cX_3_2 Y_3 cY_3_0 cY_3_1 cY_3_2 R0_3 cR0_3_0 fR0_3_0 cR0_3_1 fR0_3_1 cR0_3_2 fR0_3_2 S_3 cS_3_0 cS_3_1 T_3 cT_3_0 cT_3_1 hz1_3 hz2_3 hd1_3 hd2_3 ZS_3 ZT_3 R_3 hbel_3 hB_4; have U_4 := hO.rdN sd1.out; clear hO; try clear hB)))
          | (go_at_call 89; ((with_reducible refine (HU2.out _ (hd2_4.below bl)).mono ?_); (rintro e w5 ⟨va, vn, vc, rfl, hO, hB⟩; have hB_5 : Below w4.heap.size w4 w5 := (bl.next hB); have X_5 := X_4.next hB_5; have cX_5_0 : _ = some (Value.bool s) := X_5.cell 0; have cX_5_1 : _ = some (Value.slice a1 n1 c1) := X_5.cell 1; have cX_5_2 : _ = some (Value.slice b1 m1 d1) := X_5.cell 2; have Y_5 := Y_4.next hB_5; have cY_5_0 : _ = some (Value.bool t) := Y_5.cell 0; have cY_5_1 : _ = some (Value.slice a2 n2 c2) := Y_5.cell 1; have cY_5_2 : _ = some (Value.slice b2 m2 d2) := Y_5.cell 2; have R0_5 := R0_4.next hB_5; have cR0_5_0 : _ = some (Value.bool false) := R0_5.cell 0; have fR0_5_0 := R0_5.free 0; have cR0_5_1 : _ = some (Value.slice none 0 0) := R0_5.cell 1; have fR0_5_1 := R0_5.free 1; have cR0_5_2 : _ = some (Value.slice none 0 0) := R0_5.cell 2; have fR0_5_2 := R0_5.free 2; have S_5 := S_4.next hB_5; have cS_5_0 : _ = some (Value.bool (decide (x1 * (e2 : Int) < 0))) := S_5.cell 0; have cS_5_1 : _ = some (Value.slice Sa Sn Sc) := S_5.cell 1; have T_5 := T_4.next hB_5; have cT_5_0 : _ = some (Value.bool (decide (x2 * (e1 : Int) < 0))) := T_5.cell 0; have cT_5_1 : _ = some (Value.slice Ta Tn Tc) := T_5.cell 1; have hz1_5 := hz1_4.below hB_5; have hz2_5 := hz2_4.below hB_5; have hd1_5 := hd1_4.below hB_5; have hd2_5 := hd2_4.below hB_5; have ZS_5 := ZS_4.below hB_5; have ZT_5 := ZT_4.below hB_5; have R_5 := R_4.below hB_5; have U_5 := U_4.below hB_5; have hbel_5 := hbel_4.next hB_5; have hsz_5 := hB_5.size; clear X_4 cX_4_0 cX_4_1 cX_4_2 Y_4 cY_4_0 cY_4_1 cY_4_2 R0_4 cR0_4_0 fR0_4_0 cR0_4_1 fR0_4_1 cR0_4_2 fR0_4_2 S_4 cS_4_0 cS_4_1 T_4 cT_4_0 cT_4_1 hz1_4 hz2_4 hd1_4 hd2_4 ZS_4 ZT_4 R_4 U_4 hbel_4 hB_5; have V_5 := hO.rdN sd2.out; clear hO; try clear hB)))
          | (go_at_call 127; ((with_reducible refine (rmulR (U_5.below bl) (V_5.below bl) (by omega) (by omega)).mono ?_); (rintro e w6 ⟨pa, pn, pc, rfl, hO, hB⟩; have hB_6 : Below w5.heap.size w5 w6 := (bl.next hB); have X_6 := X_5.next hB_6; have cX_6_0 : _ = some (Value.bool s) := X_6.cell 0; have cX_6_1 : _ = some (Value.slice a1 n1 c1) := X_6.cell 1; have cX_6_2 : _ = some (Value.slice b1 m1 d1) := X_6.cell 2; have Y_6 := Y_5.next hB_6; have cY_6_0 : _ = some (Value.bool t) := Y_6.cell 0; have cY_6_1 : _ = some (Value.slice a2 n2 c2) := Y_6.cell 1; have cY_6_2 : _ = some (Value.slice b2 m2 d2) := Y_6.cell 2; have R0_6 := R0_5.next hB_6; have cR0_6_0 : _ = some (Value.bool false) := R0_6.cell 0; have fR0_6_0 := R0_6.free 0; have cR0_6_1 : _ = some (Value.slice none 0 0) := R0_6.cell 1; have fR0_6_1 := R0_6.free 1; have cR0_6_2 : _ = some (Value.slice none 0 0) := R0_6.cell 2; have fR0_6_2 := R0_6.free 2; have S_6 := S_5.next hB_6; have cS_6_0 : _ = some (Value.bool (decide (x1 * (e2 : Int) < 0))) := S_6.cell 0; have cS_6_1 : _ = some (Value.slice Sa Sn Sc) := S_6.cell 1; have T_6 := T_5.next hB_6; have cT_6_0 : _ = some (Value.bool (decide (x2 * (e1 : Int) < 0))) := T_6.cell 0; have cT_6_1 : _ = some (Value.slice Ta Tn Tc) := T_6.cell 1; have hz1_6 := hz1_5.below hB_6; have hz2_6 := hz2_5.below hB_6; have hd1_6 := hd1_5.below hB_6; have hd2_6 := hd2_5.below hB_6; have ZS_6 := ZS_5.below hB_6; have ZT_6 := ZT_5.below hB_6; have R_6 := R_5.below hB_6; have U_6 := U_5.below hB_6; have V_6 := V_5.below hB_6; have hbel_6 := hbel_5.next hB_6; have hsz_6 := hB_6.size; clear X_5 cX_5_0 cX_5_1 cX_5_2 Y_5 cY_5_0 cY_5_1 cY_5_2 R0_5 cR0_5_0 fR0_5_0 cR0_5_1 fR0_5_1 cR0_5_2 fR0_5_2 S_5 cS_5_0 cS_5_1 T_5 cT_5_0 cT_5_1 hz1_5 hz2_5 hd1_5 hd2_5 ZS_5 ZT_5 R_5 U_5 V_5 hbel_5 hB_6; have P_6 := hO.rdN sD.out; clear hO; try clear hB)))
          | (go_at_call 102; ((with_reducible refine (rqlow ((R_6.below bl).mono (by omega)) ((P_6.below bl).mono (by omega)) hDD.out).mono ?_); (rintro e w7 ⟨qa, qn, qc, da, dn, dc, rfl, hO, hO', hD, hB⟩; have hB_7 : Below w6.heap.size w6 w7 := (bl.next hB); have X_7 := X_6.next hB_7; have cX_7_0 : _ = some (Value.bool s) := X_7.cell 0; have cX_7_1 : _ = some (Value.slice a1 n1 c1) := X_7.cell 1; have cX_7_2 : _ = some (Value.slice b1 m1 d1) := X_7.cell 2; have Y_7 := Y_6.next hB_7; have cY_7_0 : _ = some (Value.bool t) := Y_7.cell 0; have cY_7_1 : _ = some (Value.slice a2 n2 c2) := Y_7.cell 1; have cY_7_2 : _ = some (Value.slice b2 m2 d2) := Y_7.cell 2; have R0_7 := R0_6.next hB_7; have cR0_7_0 : _ = some (Value.bool false) := R0_7.cell 0; have fR0_7_0 := R0_7.free 0; have cR0_7_1 : _ = some (Value.slice none 0 0) := R0_7.cell 1; have fR0_7_1 := R0_7.free 1; have cR0_7_2 : _ = some (Value.slice none 0 0) := R0_7.cell 2; have fR0_7_2 := R0_7.free 2; have S_7 := S_6.next hB_7; have cS_7_0 : _ = some (Value.bool (decide (x1 * (e2 : Int) < 0))) := S_7.cell 0; have cS_7_1 : _ = some (Value.slice Sa Sn Sc) := S_7.cell 1; have T_7 := T_6.next hB_7; have cT_7_0 : _ = some (Value.bool (decide (x2 * (e1 : Int) < 0))) := T_7.cell 0; have cT_7_1 : _ = some (Value.slice Ta Tn Tc) := T_7.cell 1; have hz1_7 := hz1_6.below hB_7; have hz2_7 := hz2_6.below hB_7; have hd1_7 := hd1_6.below hB_7; have hd2_7 := hd2_6.below hB_7; have ZS_7 := ZS_6.below hB_7; have ZT_7 := ZT_6.below hB_7; have R_7 := R_6.below hB_7; have U_7 := U_6.below hB_7; have V_7 := V_6.below hB_7; have P_7 := P_6.below hB_7; have hbel_7 := hbel_6.next hB_7; have hsz_7 := hB_7.size; clear X_6 cX_6_0 cX_6_1 cX_6_2 Y_6 cY_6_0 cY_6_1 cY_6_2 R0_6 cR0_6_0 fR0_6_0 cR0_6_1 fR0_6_1 cR0_6_2 fR0_6_2 S_6 cS_6_0 cS_6_1 T_6 cT_6_0 cT_6_1 hz1_6 hz2_6 hd1_6 hd2_6 ZS_6 ZT_6 R_6 U_6 V_6 P_6 hbel_6 hB_7; have OQ_7 := hO; have ltOQ := hO.ltB; have OD_7 := hO'; have ltOD := hO'.ltB; clear hO hO'; try clear hB))))
      go_wp2
      refine bodyPost_ret (v := .agg #[.bool (decide ((mkRat (x1 * (e2 : Int) + x2 * (e1 : Int)) (e1 * e2)).num < 0)), .slice qa qn qc, .slice da dn dc]) (by simp [results, Tryz.results101, go_sem, cR0_7_0, cR0_7_1, cR0_7_2]) rfl ?_
      exact retq_set OQ_7 OD_7 hD hbel_7 (by omega) (by omega)

end Go.Proofs.YtokkfppchfmjcaaGreat
/- WALKS OF FRACTIONS, 9: the reference's texts; two fractions held against each other. -/
namespace Go.Proofs.YtokkfppchfmjcaaGreat
set_option linter.unusedVariables false
set_option linter.unusedSimpArgs false
open Go.ChangeShapes Go.WideShapes Go.ChangeAt Go.RowKit Go.NatP

theorem rqfit {w : World} {a1 b1 : Option Addr} {n1 c1 m1 d1 : Nat} {s : Bool} {x : Rat} {J : Nat} (hx : RdQ J w s a1 n1 c1 b1 m1 d1 x) (hJ : J ≤ 1000000) : Calls Tryz.prog 82 #[.agg #[.bool s, .slice a1 n1 c1, .slice b1 m1 d1]] w (RetQ w x) := by
  obtain ⟨u1, v1, h1, hd1, rfl⟩ := hx
  exact rqfit0 ((h1.toZ (s := s)).mono (by omega)) (hd1.mono (by omega))

set_option maxRecDepth 100000 in
set_option maxHeartbeats 4000000 in
theorem qsame_true {w : World} {a b a' b' : Option Addr} {n c m d n' c' m' d' : Nat} {l k : List Nat} {s : Bool} (ha : Rd w a n c l) (hb : Rd w b m d k) (ha' : Rd w a' n' c' l) (hb' : Rd w b' m' d' k) :
    Calls Tryz.prog 19 #[.agg #[.bool s, .slice a n c, .slice b m d], .agg #[.bool s, .slice a' n' c', .slice b' m' d']] w (fun e w' => e = .returned (.bool true) ∧ Below w.heap.size w w') := by
  have hent := ent2 w #[Value.bool s, Value.slice a n c, Value.slice b m d] #[Value.bool s, Value.slice a' n' c', Value.slice b' m' d'] 39 39
  go_enter Tryz.func19, Tryz.ntmps19
  go_wp2_with fail
  generalize ((w.alloc (.cells #[Value.bool s, Value.slice a n c, Value.slice b m d] 39)).alloc (.cells #[Value.bool s, Value.slice a' n' c', Value.slice b' m' d'] 39)) = W0 at hent ⊢
  obtain ⟨X_0, Y_0, hbel_0, hsz_0⟩ := hent
  have cX_0_0 : _ = some (Value.bool s) := X_0.cell 0
  have cX_0_1 : _ = some (Value.slice a n c) := X_0.cell 1
  have cX_0_2 : _ = some (Value.slice b m d) := X_0.cell 2
  have cY_0_0 : _ = some (Value.bool s) := Y_0.cell 0
  have cY_0_1 : _ = some (Value.slice a' n' c') := Y_0.cell 1
  have cY_0_2 : _ = some (Value.slice b' m' d') := Y_0.cell 2
  have ha_0 := ha.below hbel_0
  clear ha
  have hb_0 := hb.below hbel_0
  clear hb
  have ha'_0 := ha'.below hbel_0
  clear ha'
  have hb'_0 := hb'.below hbel_0
  clear hb'
  go_wp2_with fail
  refine (zsame_true s ha_0 ha'_0).mono ?_
  rintro e w1 ⟨rfl, hB⟩
  have hB_1 : Below W0.heap.size W0 w1 := (bl.next hB)
  have X_1 := X_0.next hB_1
  have cX_1_0 : _ = some (Value.bool s) := X_1.cell 0
  have cX_1_1 : _ = some (Value.slice a n c) := X_1.cell 1
  have cX_1_2 : _ = some (Value.slice b m d) := X_1.cell 2
  have Y_1 := Y_0.next hB_1
  have cY_1_0 : _ = some (Value.bool s) := Y_1.cell 0
  have cY_1_1 : _ = some (Value.slice a' n' c') := Y_1.cell 1
  have cY_1_2 : _ = some (Value.slice b' m' d') := Y_1.cell 2
  have ha_1 := ha_0.below hB_1
  have hb_1 := hb_0.below hB_1
  have ha'_1 := ha'_0.below hB_1
  have hb'_1 := hb'_0.below hB_1
  have hbel_1 := hbel_0.next hB_1
  have hsz_1 := hB_1.size
  clear X_0 cX_0_0 cX_0_1 cX_0_2 Y_0 cY_0_0 cY_0_1 cY_0_2 ha_0 hb_0 ha'_0 hb'_0 hbel_0 hB_1
  try clear hB
  go_wp2_with fail
  refine (same_true hb_1 hb'_1).mono ?_
  rintro e w2 ⟨rfl, q, rfl⟩
  have hB : Below w1.heap.size w1 (w1.drewN q) := (Below.refl _ _).drewN' q
  have hB_2 : Below w1.heap.size w1 (w1.drewN q) := (bl.next hB)
  have X_2 := X_1.next hB_2
  have cX_2_0 : _ = some (Value.bool s) := X_2.cell 0
  have cX_2_1 : _ = some (Value.slice a n c) := X_2.cell 1
  have cX_2_2 : _ = some (Value.slice b m d) := X_2.cell 2
  have Y_2 := Y_1.next hB_2
  have cY_2_0 : _ = some (Value.bool s) := Y_2.cell 0
  have cY_2_1 : _ = some (Value.slice a' n' c') := Y_2.cell 1
  have cY_2_2 : _ = some (Value.slice b' m' d') := Y_2.cell 2
  have ha_2 := ha_1.below hB_2
  have hb_2 := hb_1.below hB_2
  have ha'_2 := ha'_1.below hB_2
  have hb'_2 := hb'_1.below hB_2
  have hbel_2 := hbel_1.next hB_2
  have hsz_2 := hB_2.size
  clear X_1 cX_1_0 cX_1_1 cX_1_2 Y_1 cY_1_0 cY_1_1 cY_1_2 ha_1 hb_1 ha'_1 hb'_1 hbel_1 hB_2
  try clear hB
  go_wp2
  go_ret
  exact ⟨rfl, hbel_2⟩

end Go.Proofs.YtokkfppchfmjcaaGreat
