/- WALKS OF FRACTIONS, 8: the reference's fractions of two numbers, sums. -/
import Derived.Test.YtnbhfgpnjhbkaaaQ1
import Derived.Test.YtnbhfgpnjhbkaaaQ2
namespace Go.Proofs.Ytnbhfgpnjhbkaaa
set_option linter.unusedVariables false
set_option linter.unusedSimpArgs false
open Go.ChangeShapes Go.WideShapes Go.ChangeAt Go.RowKit Go.NatP

set_option maxRecDepth 100000 in
set_option maxHeartbeats 4000000 in
theorem rqnew0 {w : World} {a b : Option Addr} {n c m d : Nat} {s t : Bool} {x y : Int} (hx : RdZ 4194304 w s a n c x) (hy : RdZ 4194304 w t b m d y) (hv : y = 0) :
    Calls Try.prog 91 #[.agg #[.bool s, .slice a n c], .agg #[.bool t, .slice b m d]] w (RetQE w (Rat.divInt x y) (zE y)) := by
  rw [zE_zero hv]
  have hs := hid (show sgn y = 0 by rw [hv]; rfl)
  clear hv
  have hent := ent3 w #[Value.bool s, Value.slice a n c] #[Value.bool t, Value.slice b m d] #[Value.bool false, Value.slice none 0 0, Value.slice none 0 0] 27 27 29
  go_enter Try.func91, Try.ntmps91
  go_wp2_with fail
  generalize (((w.alloc (.cells #[Value.bool s, Value.slice a n c] 27)).alloc (.cells #[Value.bool t, Value.slice b m d] 27)).alloc (.cells #[Value.bool false, Value.slice none 0 0, Value.slice none 0 0] 29)) = W0 at hent ⊢
  obtain ⟨X_0, Y_0, R0_0, hbel_0, hsz_0⟩ := hent
  have cX_0_0 : _ = some (Value.bool s) := X_0.cell 0
  have cX_0_1 : _ = some (Value.slice a n c) := X_0.cell 1
  have cY_0_0 : _ = some (Value.bool t) := Y_0.cell 0
  have cY_0_1 : _ = some (Value.slice b m d) := Y_0.cell 1
  have cR0_0_0 : _ = some (Value.bool false) := R0_0.cell 0
  have fR0_0_0 := R0_0.free 0
  have cR0_0_1 : _ = some (Value.slice none 0 0) := R0_0.cell 1
  have fR0_0_1 := R0_0.free 1
  have cR0_0_2 : _ = some (Value.slice none 0 0) := R0_0.cell 2
  have fR0_0_2 := R0_0.free 2
  have hy_0 := hy.below hbel_0
  clear hy
  go_wp2_with fail
  refine (rzsignR hy_0 (by omega)).mono ?_
  rw [hs.out]
  rintro e w1 ⟨rfl, hB⟩
  have hB_1 : Below W0.heap.size W0 w1 := (bl.next hB)
  have X_1 := X_0.next hB_1
  have cX_1_0 : _ = some (Value.bool s) := X_1.cell 0
  have cX_1_1 : _ = some (Value.slice a n c) := X_1.cell 1
  have Y_1 := Y_0.next hB_1
  have cY_1_0 : _ = some (Value.bool t) := Y_1.cell 0
  have cY_1_1 : _ = some (Value.slice b m d) := Y_1.cell 1
  have R0_1 := R0_0.next hB_1
  have cR0_1_0 : _ = some (Value.bool false) := R0_1.cell 0
  have fR0_1_0 := R0_1.free 0
  have cR0_1_1 : _ = some (Value.slice none 0 0) := R0_1.cell 1
  have fR0_1_1 := R0_1.free 1
  have cR0_1_2 : _ = some (Value.slice none 0 0) := R0_1.cell 2
  have fR0_1_2 := R0_1.free 2
  have hy_1 := hy_0.below hB_1
  have hbel_1 := hbel_0.next hB_1
  have hsz_1 := hB_1.size
  clear X_0 cX_0_0 cX_0_1 Y_0 cY_0_0 cY_0_1 R0_0 cR0_0_0 fR0_0_0 cR0_0_1 fR0_0_1 cR0_0_2 fR0_0_2 hy_0 hbel_0 hB_1
  try clear hB
  go_wp2
  refine bodyPost_ret (v := .tuple #[.agg #[.bool false, .slice none 0 0, .slice none 0 0], .int .i64 11]) (by simp [results, Try.results91, go_sem, cR0_1_0, cR0_1_1, cR0_1_2]) rfl ?_
  exact retqe_nil (by decide) hbel_1 (by omega)

set_option maxRecDepth 100000 in
set_option maxHeartbeats 4000000 in
theorem rqnew1 {w : World} {a b : Option Addr} {n c m d : Nat} {s t : Bool} {x y : Int} (hx : RdZ 4194304 w s a n c x) (hy : RdZ 4194304 w t b m d y) (hv : y ≠ 0) :
    Calls Try.prog 91 #[.agg #[.bool s, .slice a n c], .agg #[.bool t, .slice b m d]] w (RetQE w (Rat.divInt x y) (zE y)) := by
  rw [zE_pos hv]
  obtain ⟨u, hu, rfl⟩ := hx
  obtain ⟨v, hw, rfl⟩ := hy
  have hv0 : v ≠ 0 := fun e => hv (zv_eq_zero.2 e)
  rw [← divInt_zv s t u hv0]
  have hs : (sgn (zv t v) == (0 : Int)) = false := by have := sgn_cases (zv t v); simp; omega
  have hvh := hid hv0
  have hy := hw.toZ (s := t)
  clear hv hv0
  have hent := ent3 w #[Value.bool s, Value.slice a n c] #[Value.bool t, Value.slice b m d] #[Value.bool false, Value.slice none 0 0, Value.slice none 0 0] 27 27 29
  go_enter Try.func91, Try.ntmps91
  go_wp2_with fail
  generalize (((w.alloc (.cells #[Value.bool s, Value.slice a n c] 27)).alloc (.cells #[Value.bool t, Value.slice b m d] 27)).alloc (.cells #[Value.bool false, Value.slice none 0 0, Value.slice none 0 0] 29)) = W0 at hent ⊢
  obtain ⟨X_0, Y_0, R0_0, hbel_0, hsz_0⟩ := hent
  have cX_0_0 : _ = some (Value.bool s) := X_0.cell 0
  have cX_0_1 : _ = some (Value.slice a n c) := X_0.cell 1
  have cY_0_0 : _ = some (Value.bool t) := Y_0.cell 0
  have cY_0_1 : _ = some (Value.slice b m d) := Y_0.cell 1
  have cR0_0_0 : _ = some (Value.bool false) := R0_0.cell 0
  have fR0_0_0 := R0_0.free 0
  have cR0_0_1 : _ = some (Value.slice none 0 0) := R0_0.cell 1
  have fR0_0_1 := R0_0.free 1
  have cR0_0_2 : _ = some (Value.slice none 0 0) := R0_0.cell 2
  have fR0_0_2 := R0_0.free 2
  have hu_0 := hu.below hbel_0
  clear hu
  have hw_0 := hw.below hbel_0
  clear hw
  have hy_0 := hy.below hbel_0
  clear hy
  go_wp2_with fail
  refine (rzsignR hy_0 (by omega)).mono ?_
  rintro e w1 ⟨rfl, hB⟩
  have hB_1 : Below W0.heap.size W0 w1 := (bl.next hB)
  have X_1 := X_0.next hB_1
  have cX_1_0 : _ = some (Value.bool s) := X_1.cell 0
  have cX_1_1 : _ = some (Value.slice a n c) := X_1.cell 1
  have Y_1 := Y_0.next hB_1
  have cY_1_0 : _ = some (Value.bool t) := Y_1.cell 0
  have cY_1_1 : _ = some (Value.slice b m d) := Y_1.cell 1
  have R0_1 := R0_0.next hB_1
  have cR0_1_0 : _ = some (Value.bool false) := R0_1.cell 0
  have fR0_1_0 := R0_1.free 0
  have cR0_1_1 : _ = some (Value.slice none 0 0) := R0_1.cell 1
  have fR0_1_1 := R0_1.free 1
  have cR0_1_2 : _ = some (Value.slice none 0 0) := R0_1.cell 2
  have fR0_1_2 := R0_1.free 2
  have hu_1 := hu_0.below hB_1
  have hw_1 := hw_0.below hB_1
  have hy_1 := hy_0.below hB_1
  have hbel_1 := hbel_0.next hB_1
  have hsz_1 := hB_1.size
  clear X_0 cX_0_0 cX_0_1 Y_0 cY_0_0 cY_0_1 R0_0 cR0_0_0 fR0_0_0 cR0_0_1 fR0_0_1 cR0_0_2 fR0_0_2 hu_0 hw_0 hy_0 hbel_0 hB_1
  try clear hB
  clear hy_1
  go_wp2_with fail
  refine (rqlow (s := (!(s == t))) hu_1.toZ hw_1 hvh.out).mono ?_
  rintro e w2 ⟨qa, qn, qc, da, dn, dc, rfl, hO, hO', hD, hB⟩
  have hB_2 : Below w1.heap.size w1 w2 := (bl.next hB)
  have X_2 := X_1.next hB_2
  have cX_2_0 : _ = some (Value.bool s) := X_2.cell 0
  have cX_2_1 : _ = some (Value.slice a n c) := X_2.cell 1
  have Y_2 := Y_1.next hB_2
  have cY_2_0 : _ = some (Value.bool t) := Y_2.cell 0
  have cY_2_1 : _ = some (Value.slice b m d) := Y_2.cell 1
  have R0_2 := R0_1.next hB_2
  have cR0_2_0 : _ = some (Value.bool false) := R0_2.cell 0
  have fR0_2_0 := R0_2.free 0
  have cR0_2_1 : _ = some (Value.slice none 0 0) := R0_2.cell 1
  have fR0_2_1 := R0_2.free 1
  have cR0_2_2 : _ = some (Value.slice none 0 0) := R0_2.cell 2
  have fR0_2_2 := R0_2.free 2
  have hu_2 := hu_1.below hB_2
  have hw_2 := hw_1.below hB_2
  have hbel_2 := hbel_1.next hB_2
  have hsz_2 := hB_2.size
  clear X_1 cX_1_0 cX_1_1 Y_1 cY_1_0 cY_1_1 R0_1 cR0_1_0 fR0_1_0 cR0_1_1 fR0_1_1 cR0_1_2 fR0_1_2 hu_1 hw_1 hbel_1 hB_2
  have OQ_2 := hO
  have ltOQ := hO.ltB
  have OD_2 := hO'
  have ltOD := hO'.ltB
  clear hO hO'
  try clear hB
  go_wp2
  refine bodyPost_ret (v := .tuple #[.agg #[.bool (decide ((mkRat (zv (!(s == t)) u) v).num < 0)), .slice qa qn qc, .slice da dn dc], .int .i64 0]) (by simp [results, Try.results91, go_sem, cR0_2_0, cR0_2_1, cR0_2_2]) rfl ?_
  exact retqe_set (er := 0) OQ_2 OD_2 hD hbel_2 (by omega) (by omega)

theorem rqnew {w : World} {a b : Option Addr} {n c m d : Nat} {s t : Bool} {x y : Int} (hx : RdZ 4194304 w s a n c x) (hy : RdZ 4194304 w t b m d y) : Calls Try.prog 91 #[.agg #[.bool s, .slice a n c], .agg #[.bool t, .slice b m d]] w (RetQE w (Rat.divInt x y) (zE y)) := by
  by_cases h : y = 0
  · exact rqnew0 hx hy h
  · exact rqnew1 hx hy h

set_option maxRecDepth 100000 in
set_option maxHeartbeats 4000000 in
theorem rqof {w : World} (k l : Int) (h1 : -9223372036854775808 ≤ k) (h2 : k ≤ 9223372036854775807) (h3 : -9223372036854775808 ≤ l) (h4 : l ≤ 9223372036854775807) :
    Calls Try.prog 52 #[.int .i64 k, .int .i64 l] w (RetQE w (Rat.divInt k l) (zE l)) := by
  have sk := hid (szInt h1 h2)
  have sl := hid (szInt h3 h4)
  have hent := ent1 w #[Value.bool false, Value.slice none 0 0, Value.slice none 0 0] 29
  go_enter Try.func52, Try.ntmps52
  go_wp2_with fail
  generalize (w.alloc (.cells #[Value.bool false, Value.slice none 0 0, Value.slice none 0 0] 29)) = W0 at hent ⊢
  obtain ⟨R0_0, hbel_0, hsz_0⟩ := hent
  have cR0_0_0 : _ = some (Value.bool false) := R0_0.cell 0
  have fR0_0_0 := R0_0.free 0
  have cR0_0_1 : _ = some (Value.slice none 0 0) := R0_0.cell 1
  have fR0_0_1 := R0_0.free 1
  have cR0_0_2 : _ = some (Value.slice none 0 0) := R0_0.cell 2
  have fR0_0_2 := R0_0.free 2
  go_wp2_with fail
  refine (rzofi_any k h1 h2).mono ?_
  rintro e w1 ⟨ka, kn, kc, rfl, hO, hB⟩
  have hB_1 : Below W0.heap.size W0 w1 := (bl.next hB)
  have R0_1 := R0_0.next hB_1
  have cR0_1_0 : _ = some (Value.bool false) := R0_1.cell 0
  have fR0_1_0 := R0_1.free 0
  have cR0_1_1 : _ = some (Value.slice none 0 0) := R0_1.cell 1
  have fR0_1_1 := R0_1.free 1
  have cR0_1_2 : _ = some (Value.slice none 0 0) := R0_1.cell 2
  have fR0_1_2 := R0_1.free 2
  have hbel_1 := hbel_0.next hB_1
  have hsz_1 := hB_1.size
  clear R0_0 cR0_0_0 fR0_0_0 cR0_0_1 fR0_0_1 cR0_0_2 fR0_0_2 hbel_0 hB_1
  have A_1 := hO.rdZ sk.out
  clear hO
  try clear hB
  go_wp2_with fail
  refine (rzofi_any l h3 h4).mono ?_
  rintro e w2 ⟨la, ln, lc, rfl, hO, hB⟩
  have hB_2 : Below w1.heap.size w1 w2 := (bl.next hB)
  have R0_2 := R0_1.next hB_2
  have cR0_2_0 : _ = some (Value.bool false) := R0_2.cell 0
  have fR0_2_0 := R0_2.free 0
  have cR0_2_1 : _ = some (Value.slice none 0 0) := R0_2.cell 1
  have fR0_2_1 := R0_2.free 1
  have cR0_2_2 : _ = some (Value.slice none 0 0) := R0_2.cell 2
  have fR0_2_2 := R0_2.free 2
  have A_2 := A_1.below hB_2
  have hbel_2 := hbel_1.next hB_2
  have hsz_2 := hB_2.size
  clear R0_1 cR0_1_0 fR0_1_0 cR0_1_1 fR0_1_1 cR0_1_2 fR0_1_2 A_1 hbel_1 hB_2
  have B_2 := hO.rdZ sl.out
  clear hO
  try clear hB
  go_wp2_with fail
  refine (rqnew (A_2.mono (by omega)) (B_2.mono (by omega))).mono ?_
  rintro e w3 ⟨qa, qn, qc, da, dn, dc, rfl, hO, hO', hD, hB⟩
  have hB_3 : Below w2.heap.size w2 w3 := (bl.next hB)
  have R0_3 := R0_2.next hB_3
  have cR0_3_0 : _ = some (Value.bool false) := R0_3.cell 0
  have fR0_3_0 := R0_3.free 0
  have cR0_3_1 : _ = some (Value.slice none 0 0) := R0_3.cell 1
  have fR0_3_1 := R0_3.free 1
  have cR0_3_2 : _ = some (Value.slice none 0 0) := R0_3.cell 2
  have fR0_3_2 := R0_3.free 2
  have A_3 := A_2.below hB_3
  have B_3 := B_2.below hB_3
  have hbel_3 := hbel_2.next hB_3
  have hsz_3 := hB_3.size
  clear R0_2 cR0_2_0 fR0_2_0 cR0_2_1 fR0_2_1 cR0_2_2 fR0_2_2 A_2 B_2 hbel_2 hB_3
  have OQ_3 := hO
  have ltOQ := hO.ltB
  have OD_3 := hO'
  have ltOD := hO'.ltB
  clear hO hO'
  try clear hB
  go_wp2
  refine bodyPost_ret (v := .tuple #[.agg #[.bool (qsg (Rat.divInt k l) (zE l)), .slice qa qn qc, .slice da dn dc], .int .i64 (zE l)]) (by simp [results, Try.results52, go_sem, cR0_3_0, cR0_3_1, cR0_3_2]) rfl ?_
  exact retqe_set OQ_3 OD_3 hD hbel_3 (by omega) (by omega)

/-- a fraction beside no error -/
def RetQK (w : World) (q : Rat) (e : Ending) (w' : World) : Prop :=
  ∃ a n c b m d, e = .returned (.tuple #[.agg #[.bool (decide (q.num < 0)), .slice a n c, .slice b m d], .int .i64 0]) ∧ Own w.heap.size w' a n c (lm q.num.natAbs) ∧ Own w.heap.size w' b m d (lm q.den) ∧ Diff a b ∧ Below w.heap.size w w'
theorem retqe_ok {w w' : World} {q : Rat} {er : Int} {e : Ending} (h : RetQE w q er e w') (he : er = 0) : RetQK w q e w' := by
  subst he; exact h

set_option maxRecDepth 100000 in
set_option maxHeartbeats 4000000 in
theorem rqsmall {w : World} (k l : Int) (h1 : -9223372036854775808 ≤ k) (h2 : k ≤ 9223372036854775807) (h3 : -9223372036854775808 ≤ l) (h4 : l ≤ 9223372036854775807) (hl : l ≠ 0) :
    Calls Try.prog 19 #[.int .i64 k, .int .i64 l] w (RetQ w (Rat.divInt k l)) := by
  have H := hid (fun w => (rqof (w := w) k l h1 h2 h3 h4).mono fun e w' h => retqe_ok h (zE_pos hl))
  generalize Rat.divInt k l = q at *
  clear h1 h2 h3 h4 hl
  have hent := ent1 w #[Value.bool false, Value.slice none 0 0, Value.slice none 0 0] 29
  go_enter Try.func19, Try.ntmps19
  go_wp2_with fail
  generalize (w.alloc (.cells #[Value.bool false, Value.slice none 0 0, Value.slice none 0 0] 29)) = W0 at hent ⊢
  obtain ⟨R0_0, hbel_0, hsz_0⟩ := hent
  have cR0_0_0 : _ = some (Value.bool false) := R0_0.cell 0
  have fR0_0_0 := R0_0.free 0
  have cR0_0_1 : _ = some (Value.slice none 0 0) := R0_0.cell 1
  have fR0_0_1 := R0_0.free 1
  have cR0_0_2 : _ = some (Value.slice none 0 0) := R0_0.cell 2
  have fR0_0_2 := R0_0.free 2
  go_wp2_with fail
  refine (H.out _).mono ?_
  rintro e w1 ⟨pa, pn, pc, oa, on, oc, rfl, hO, hO', hD, hB⟩
  have hB_1 : Below W0.heap.size W0 w1 := (bl.next hB)
  have R0_1 := R0_0.next hB_1
  have cR0_1_0 : _ = some (Value.bool false) := R0_1.cell 0
  have fR0_1_0 := R0_1.free 0
  have cR0_1_1 : _ = some (Value.slice none 0 0) := R0_1.cell 1
  have fR0_1_1 := R0_1.free 1
  have cR0_1_2 : _ = some (Value.slice none 0 0) := R0_1.cell 2
  have fR0_1_2 := R0_1.free 2
  have hbel_1 := hbel_0.next hB_1
  have hsz_1 := hB_1.size
  clear R0_0 cR0_0_0 fR0_0_0 cR0_0_1 fR0_0_1 cR0_0_2 fR0_0_2 hbel_0 hB_1
  have P_1 := hO
  have ltP := hO.ltB
  have O_1 := hO'
  have ltO := hO'.ltB
  clear hO hO'
  try clear hB
  have hbx := blk_new w1 #[Value.bool (decide (q.num < 0)), Value.slice pa pn pc, Value.slice oa on oc] 29
  have hbB := (Below.refl w1.heap.size w1).alloc (Nat.le_refl _) (.cells #[Value.bool (decide (q.num < 0)), Value.slice pa pn pc, Value.slice oa on oc] 29)
  have hltA := hbx.lt
  have hB_2 : Below w1.heap.size w1 (w1.alloc (.cells #[Value.bool (decide (q.num < 0)), Value.slice pa pn pc, Value.slice oa on oc] 29)) := hbB
  have R0_2 := R0_1.next hB_2
  have cR0_2_0 : _ = some (Value.bool false) := R0_2.cell 0
  have fR0_2_0 := R0_2.free 0
  have cR0_2_1 : _ = some (Value.slice none 0 0) := R0_2.cell 1
  have fR0_2_1 := R0_2.free 1
  have cR0_2_2 : _ = some (Value.slice none 0 0) := R0_2.cell 2
  have fR0_2_2 := R0_2.free 2
  have P_2 := P_1.below hB_2
  have O_2 := O_1.below hB_2
  have hbel_2 := hbel_1.next hB_2
  have hsz_2 := hB_2.size
  clear hB_2
  have A_2 := hbx
  clear hbx hbB
  have cA_2_0 : _ = some (Value.bool (decide (q.num < 0))) := A_2.cell 0
  have fA_2_0 := A_2.free 0
  have cA_2_1 : _ = some (Value.slice pa pn pc) := A_2.cell 1
  have fA_2_1 := A_2.free 1
  have cA_2_2 : _ = some (Value.slice oa on oc) := A_2.cell 2
  have fA_2_2 := A_2.free 2
  go_wp2_with fail
  clear R0_1 cR0_1_0 fR0_1_0 cR0_1_1 fR0_1_1 cR0_1_2 fR0_1_2 P_1 O_1 hbel_1
  generalize (w1.alloc (.cells #[Value.bool (decide (q.num < 0)), Value.slice pa pn pc, Value.slice oa on oc] 29)) = v2 at *
  go_wp2
  refine bodyPost_ret (v := .agg #[.bool (decide (q.num < 0)), .slice pa pn pc, .slice oa on oc]) (by simp [results, Try.results19, go_sem, cR0_2_0, cR0_2_1, cR0_2_2, cA_2_0, cA_2_1, cA_2_2]) rfl ?_
  exact retq_set P_2 O_2 hD hbel_2 (by omega) (by omega)

end Go.Proofs.Ytnbhfgpnjhbkaaa
/- WALKS OF FRACTIONS, 9: the reference's texts; two fractions held against each other. -/
namespace Go.Proofs.Ytnbhfgpnjhbkaaa
set_option linter.unusedVariables false
set_option linter.unusedSimpArgs false
end Go.Proofs.Ytnbhfgpnjhbkaaa
