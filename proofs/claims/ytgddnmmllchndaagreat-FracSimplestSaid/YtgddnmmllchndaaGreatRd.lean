/- WALKS OF FRACTIONS, 21: the simplest between two, of the reference. -/
import Derived.Test.YtgddnmmllchndaaGreatQu2
import Derived.Test.YtgddnmmllchndaaGreatQt
import Derived.Test.YtgddnmmllchndaaGreatRb
namespace Go.Proofs.YtgddnmmllchndaaGreat
set_option linter.unusedVariables false
set_option linter.unusedSimpArgs false
open Go.ChangeShapes Go.WideShapes Go.ChangeAt Go.RowKit Go.NatP

theorem qs_one : QS (1 : Rat) 1 := ⟨sz_one (by decide), sz_one (by decide)⟩
theorem rqs1 {w : World} : Calls Tryz.prog 93 #[.int .i64 1, .int .i64 1] w (RetQ w 1) := by
  have h := rqsmall (w := w) 1 1 (by omega) (by omega) (by omega) (by omega) (by omega)
  rwa [show Rat.divInt 1 1 = 1 from by decide] at h
theorem rqs1r {w : World} : Calls Tryz.prog 93 #[.int .i64 1, .int .i64 1] w (fun e w' => ∃ a n c b m d, e = .returned (.agg #[.bool false, .slice a n c, .slice b m d]) ∧ RdQ 1 w' false a n c b m d 1 ∧ Below w.heap.size w w') :=
  rqs1.mono fun e w' ⟨a, n, c, b, m, d, h1, h2, h3, _, h5⟩ => ⟨a, n, c, b, m, d, h1, h2.rdQ h3 qs_one, h5⟩
theorem rqs0 {w : World} : Calls Tryz.prog 93 #[.int .i64 0, .int .i64 1] w (RetQ w 0) := by
  have h := rqsmall (w := w) 0 1 (by omega) (by omega) (by omega) (by omega) (by omega)
  rwa [show Rat.divInt 0 1 = 0 from by decide] at h
theorem rretqe_k (w : World) {q : Rat} {er : Int} (h : er = 0) : RetQE w q er = RetQK w q := by rw [h]; rfl
/-- slot s holds a new block with a fraction q, whose two lists of limbs lie apart -/
def BoxD (w0 : World) (q : Rat) (s : Value) (wx : World) : Prop :=
  ∃ g qa qn qc da dn dc, s = .pointer (some ⟨g, 0, none⟩) ∧ Blk wx g #[.bool (decide (q.num < 0)), .slice qa qn qc, .slice da dn dc] ∧ w0.heap.size ≤ g ∧ Own w0.heap.size wx qa qn qc (lm q.num.natAbs) ∧ Own w0.heap.size wx da dn dc (lm q.den) ∧ Aw qa g ∧ Aw da g ∧ Below w0.heap.size w0 wx ∧ Diff qa da
theorem boxD_set {w0 w5 : World} {q : Rat} {g B : Nat} {qa da : Option Addr} {qn qc dn dc : Nat} (A : Blk w5 g #[.bool false, .slice none 0 0, .slice none 0 0]) (hO : Own B w5 qa qn qc (lm q.num.natAbs)) (hO2 : Own B w5 da dn dc (lm q.den)) (hD : Diff qa da) (hg : w0.heap.size ≤ g) (hgB : g < B) (hB : Below w0.heap.size w0 w5) :
    BoxD w0 q (.pointer (some ⟨g, 0, none⟩)) (((w5.setCell ⟨g, 0, none⟩ (.bool (decide (q.num < 0)))).setCell ⟨g, 1, none⟩ (.slice qa qn qc)).setCell ⟨g, 2, none⟩ (.slice da dn dc)) :=
  ⟨g, qa, qn, qc, da, dn, dc, rfl, (show Blk _ _ #[_, _, _] from ((A.setCell (i := 0) (v := .bool (decide (q.num < 0))) (by simp)).setCell (i := 1) (v := .slice qa qn qc) (by simp)).setCell (i := 2) (v := .slice da dn dc) (by simp)), hg, (hO.set3 hgB _ _ _).mono (by omega), (hO2.set3 hgB _ _ _).mono (by omega), hO.awNew hgB, hO2.awNew hgB, Below.set3 hB hg _ _ _, hD⟩
theorem boxD_new {w0 w5 : World} {q : Rat} {B : Nat} {qa da : Option Addr} {qn qc dn dc : Nat} {T : TypeId} (hO : Own B w5 qa qn qc (lm q.num.natAbs)) (hO2 : Own B w5 da dn dc (lm q.den)) (hD : Diff qa da) (hgB : w0.heap.size ≤ B) (hB : Below w0.heap.size w0 w5) :
    BoxD w0 q (.pointer (some ⟨w5.heap.size, 0, none⟩)) (w5.alloc (.cells #[.bool (decide (q.num < 0)), .slice qa qn qc, .slice da dn dc] T)) :=
  ⟨_, qa, qn, qc, da, dn, dc, rfl, blk_new _ _ _, hB.size, (hO.alloc _).mono hgB, (hO2.alloc _).mono hgB, hO.awOld (Nat.le_refl _), hO2.awOld (Nat.le_refl _), hB.alloc hB.size _, hD⟩
structure RBtwC (J k : Nat) : Prop where
  go : ∀ {w : World} {a1 b1 : Option Addr} {n1 c1 m1 d1 : Nat} {s : Bool} {x : Rat} {a2 b2 : Option Addr} {n2 c2 m2 d2 : Nat} {t : Bool} {y : Rat},
    SmpIn x y → x.den + y.den ≤ k → RdQ J w s a1 n1 c1 b1 m1 d1 x → RdQ J w t a2 n2 c2 b2 m2 d2 y → Calls Tryz.prog 137 #[.agg #[.bool s, .slice a1 n1 c1, .slice b1 m1 d1], .agg #[.bool t, .slice a2 n2 c2, .slice b2 m2 d2]] w (RetQ w (smp k x y))

set_option maxRecDepth 100000 in
set_option maxHeartbeats 4000000 in
theorem rqwholly {w : World} {a : Option Addr} {n c J : Nat} {s : Bool} {z : Int} (hz : RdZ J w s a n c z) (hJ : J ≤ 1000000) :
    Calls Tryz.prog 127 #[.agg #[.bool s, .slice a n c]] w (RetQ w (z : Rat)) := by
  have h1 := hid (sz_one (show 1 ≤ 1 by omega))
  have hq := hid (Rat.mkRat_one z)
  rw [← Rat.mkRat_one z]
  have hent := ent2 w #[Value.bool s, Value.slice a n c] #[Value.bool false, Value.slice none 0 0, Value.slice none 0 0] 36 38
  go_enter Tryz.func127, Tryz.ntmps127
  go_wp2_with fail
  generalize ((w.alloc (.cells #[Value.bool s, Value.slice a n c] 36)).alloc (.cells #[Value.bool false, Value.slice none 0 0, Value.slice none 0 0] 38)) = W0 at hent ⊢
  obtain ⟨X_0, R0_0, hbel_0, hsz_0⟩ := hent
  have cX_0_0 : _ = some (Value.bool s) := X_0.cell 0
  have cX_0_1 : _ = some (Value.slice a n c) := X_0.cell 1
  have cR0_0_0 : _ = some (Value.bool false) := R0_0.cell 0
  have fR0_0_0 := R0_0.free 0
  have cR0_0_1 : _ = some (Value.slice none 0 0) := R0_0.cell 1
  have fR0_0_1 := R0_0.free 1
  have cR0_0_2 : _ = some (Value.slice none 0 0) := R0_0.cell 2
  have fR0_0_2 := R0_0.free 2
  have hz_0 := hz.below hbel_0
  clear hz
  go_wp2_with fail
  go_region_held3 (fun w' => w'.cell? ⟨w.heap.size, 0, none⟩ = some (Value.bool s) ∧ w'.cell? ⟨w.heap.size, 1, none⟩ = some (Value.slice a n c))
    (first | exact ⟨cX_0_0, cX_0_1⟩ | exact ⟨cX_1_0, cX_1_1⟩ | exact ⟨cX_2_0, cX_2_1⟩ | exact ⟨(cell_set3 (by omega) _ _ _).trans (cX_2_0), (cell_set3 (by omega) _ _ _).trans (cX_2_1)⟩ | go_keep)
    (first
      | (go_at_call 146; ((with_reducible refine (rone_any).mono ?_); (rintro e w1 ⟨ua, un, uc, rfl, hO, hB⟩; have hB_1 : Below W0.heap.size W0 w1 := (bl.next hB); have X_1 := X_0.next hB_1; have cX_1_0 : _ = some (Value.bool s) := X_1.cell 0; have cX_1_1 : _ = some (Value.slice a n c) := X_1.cell 1; have R0_1 := R0_0.next hB_1; have cR0_1_0 : _ = some (Value.bool false) := R0_1.cell 0; have fR0_1_0 := R0_1.free 0; have cR0_1_1 : _ = some (Value.slice none 0 0) := R0_1.cell 1; have fR0_1_1 := R0_1.free 1; have cR0_1_2 : _ = some (Value.slice none 0 0) := R0_1.cell 2; have fR0_1_2 := R0_1.free 2; have hz_1 := hz_0.below hB_1; have hbel_1 := hbel_0.next hB_1; have hsz_1 := hB_1.size; clear X_0 cX_0_0 cX_0_1 R0_0 cR0_0_0 fR0_0_0 cR0_0_1 fR0_0_1 cR0_0_2 fR0_0_2 hz_0 hbel_0 hB_1; have U_1 := hO.rdN h1.out; clear hO; try clear hB)))
      | (go_at_call 94; ((with_reducible refine (rqlow ((hz_1.below bl).mono (by omega)) ((U_1.below bl).mono (by omega)) (by omega)).mono ?_); (rintro e w2 ⟨qa, qn, qc, qb, qm, qd, rfl, hO, hO', hDq, hB⟩; have hB_2 : Below w1.heap.size w1 w2 := (bl.next hB); have X_2 := X_1.next hB_2; have cX_2_0 : _ = some (Value.bool s) := X_2.cell 0; have cX_2_1 : _ = some (Value.slice a n c) := X_2.cell 1; have R0_2 := R0_1.next hB_2; have cR0_2_0 : _ = some (Value.bool false) := R0_2.cell 0; have fR0_2_0 := R0_2.free 0; have cR0_2_1 : _ = some (Value.slice none 0 0) := R0_2.cell 1; have fR0_2_1 := R0_2.free 1; have cR0_2_2 : _ = some (Value.slice none 0 0) := R0_2.cell 2; have fR0_2_2 := R0_2.free 2; have hz_2 := hz_1.below hB_2; have U_2 := U_1.below hB_2; have hbel_2 := hbel_1.next hB_2; have hsz_2 := hB_2.size; clear X_1 cX_1_0 cX_1_1 R0_1 cR0_1_0 fR0_1_0 cR0_1_1 fR0_1_1 cR0_1_2 fR0_1_2 hz_1 U_1 hbel_1 hB_2; have Oq_2 := hO; have ltOq := hO.ltB; have Pq_2 := hO'; have ltPq := hO'.ltB; clear hO hO'; try clear hB))))
  go_wp2
  refine bodyPost_ret (v := .agg #[.bool (decide ((mkRat z 1).num < 0)), .slice qa qn qc, .slice qb qm qd]) (by simp [results, Tryz.results127, go_sem, cR0_2_0, cR0_2_1, cR0_2_2]) rfl ?_
  exact retq_set Oq_2 Pq_2 hDq hbel_2 (by omega) (by omega)

set_option maxRecDepth 100000 in
set_option maxHeartbeats 40000000 in
theorem rqbtw1 {w : World} {a1 b1 : Option Addr} {n1 c1 m1 d1 : Nat} {s : Bool} {x : Rat} {a2 b2 : Option Addr} {n2 c2 m2 d2 : Nat} {t : Bool} {y : Rat} {J k : Nat} (hJ1 : 1 ≤ J) (hJ : J ≤ 200000) (hin : SmpIn x y) (hx : RdQ J w s a1 n1 c1 b1 m1 d1 x) (hy : RdQ J w t a2 n2 c2 b2 m2 d2 y) (h1 : (x.floor : Rat) = x) :
    Calls Tryz.prog 137 #[.agg #[.bool s, .slice a1 n1 c1, .slice b1 m1 d1], .agg #[.bool t, .slice a2 n2 c2, .slice b2 m2 d2]] w (RetQ w (smp (k + 1) x y)) := by
  have hqx := hx.qs hJ1
  have hqy := hy.qs hJ1
  have sf : Sz x.floor.natAbs J := (floor_qs hin.pos hJ1 hqx).1
  have hqf := floor_qs hin.pos hJ1 hqx
  rw [smp_succ1 h1]
  have hc := hid (cmpQ_eq h1.symm)
  clear hin h1
  have hsf := hid sf
  generalize hfq0 : (x.floor : Rat) = fq at *
  have hfq := hid hfq0
  clear hfq0
  generalize hf0 : x.floor = f at *
  have hf := hid hf0
  clear hf0
  have hqfh := hid hqf
  clear sf hqf hqx hqy
  have hent := ent3 w #[Value.bool s, Value.slice a1 n1 c1, Value.slice b1 m1 d1] #[Value.bool t, Value.slice a2 n2 c2, Value.slice b2 m2 d2] #[Value.bool false, Value.slice none 0 0, Value.slice none 0 0] 38 38 38
  go_enter Tryz.func137, Tryz.ntmps137
  go_wp2_with fail
  generalize (((w.alloc (.cells #[Value.bool s, Value.slice a1 n1 c1, Value.slice b1 m1 d1] 38)).alloc (.cells #[Value.bool t, Value.slice a2 n2 c2, Value.slice b2 m2 d2] 38)).alloc (.cells #[Value.bool false, Value.slice none 0 0, Value.slice none 0 0] 38)) = W0 at hent ⊢
  obtain ⟨X_0, Y_0, R0_0, hbel_0, hsz_0⟩ := hent
  have cX_0_0 : _ = some (Value.bool s) := X_0.cell 0
  have cX_0_1 : _ = some (Value.slice a1 n1 c1) := X_0.cell 1
  have cX_0_2 : _ = some (Value.slice b1 m1 d1) := X_0.cell 2
  have cY_0_0 : _ = some (Value.bool t) := Y_0.cell 0
  have cY_0_1 : _ = some (Value.slice a2 n2 c2) := Y_0.cell 1
  have cY_0_2 : _ = some (Value.slice b2 m2 d2) := Y_0.cell 2
  have cR0_0_0 : _ = some (Value.bool false) := R0_0.cell 0
  have fR0_0_0 := R0_0.free 0
  have cR0_0_1 : _ = some (Value.slice none 0 0) := R0_0.cell 1
  have fR0_0_1 := R0_0.free 1
  have cR0_0_2 : _ = some (Value.slice none 0 0) := R0_0.cell 2
  have fR0_0_2 := R0_0.free 2
  have hx_0 := hx.below hbel_0
  clear hx
  have hy_0 := hy.below hbel_0
  clear hy
  go_wp2_with fail
  refine (rqfloor hx_0 (by omega)).mono ?_
  rw [hf.out]
  rintro e w1 ⟨fa, fn, fc, rfl, hO, hB⟩
  have hB_1 : Below W0.heap.size W0 w1 := (bl.next hB)
  have X_1 := X_0.next hB_1
  have cX_1_0 : _ = some (Value.bool s) := X_1.cell 0
  have cX_1_1 : _ = some (Value.slice a1 n1 c1) := X_1.cell 1
  have cX_1_2 : _ = some (Value.slice b1 m1 d1) := X_1.cell 2
  have Y_1 := Y_0.next hB_1
  have cY_1_0 : _ = some (Value.bool t) := Y_1.cell 0
  have cY_1_1 : _ = some (Value.slice a2 n2 c2) := Y_1.cell 1
  have cY_1_2 : _ = some (Value.slice b2 m2 d2) := Y_1.cell 2
  have R0_1 := R0_0.next hB_1
  have cR0_1_0 : _ = some (Value.bool false) := R0_1.cell 0
  have fR0_1_0 := R0_1.free 0
  have cR0_1_1 : _ = some (Value.slice none 0 0) := R0_1.cell 1
  have fR0_1_1 := R0_1.free 1
  have cR0_1_2 : _ = some (Value.slice none 0 0) := R0_1.cell 2
  have fR0_1_2 := R0_1.free 2
  have hx_1 := hx_0.below hB_1
  have hy_1 := hy_0.below hB_1
  have hbel_1 := hbel_0.next hB_1
  have hsz_1 := hB_1.size
  clear X_0 cX_0_0 cX_0_1 cX_0_2 Y_0 cY_0_0 cY_0_1 cY_0_2 R0_0 cR0_0_0 fR0_0_0 cR0_0_1 fR0_0_1 cR0_0_2 fR0_0_2 hx_0 hy_0 hbel_0 hB_1
  have ZF_1 := hO.rdZ hsf.out
  clear hO
  try clear hB
  go_wp2_with fail
  refine (rqwholly ZF_1 (by omega)).mono ?_
  rw [hfq.out]
  rintro e w2 ⟨fa, fn, fc, fb, fm, fd, rfl, hO, hO', hDf, hB⟩
  have hB_2 : Below w1.heap.size w1 w2 := (bl.next hB)
  have X_2 := X_1.next hB_2
  have cX_2_0 : _ = some (Value.bool s) := X_2.cell 0
  have cX_2_1 : _ = some (Value.slice a1 n1 c1) := X_2.cell 1
  have cX_2_2 : _ = some (Value.slice b1 m1 d1) := X_2.cell 2
  have Y_2 := Y_1.next hB_2
  have cY_2_0 : _ = some (Value.bool t) := Y_2.cell 0
  have cY_2_1 : _ = some (Value.slice a2 n2 c2) := Y_2.cell 1
  have cY_2_2 : _ = some (Value.slice b2 m2 d2) := Y_2.cell 2
  have R0_2 := R0_1.next hB_2
  have cR0_2_0 : _ = some (Value.bool false) := R0_2.cell 0
  have fR0_2_0 := R0_2.free 0
  have cR0_2_1 : _ = some (Value.slice none 0 0) := R0_2.cell 1
  have fR0_2_1 := R0_2.free 1
  have cR0_2_2 : _ = some (Value.slice none 0 0) := R0_2.cell 2
  have fR0_2_2 := R0_2.free 2
  have hx_2 := hx_1.below hB_2
  have hy_2 := hy_1.below hB_2
  have ZF_2 := ZF_1.below hB_2
  have hbel_2 := hbel_1.next hB_2
  have hsz_2 := hB_2.size
  clear X_1 cX_1_0 cX_1_1 cX_1_2 Y_1 cY_1_0 cY_1_1 cY_1_2 R0_1 cR0_1_0 fR0_1_0 cR0_1_1 fR0_1_1 cR0_1_2 fR0_1_2 hx_1 hy_1 ZF_1 hbel_1 hB_2
  have Of_2 := hO
  have ltOf := hO.ltB
  have Pf_2 := hO'
  have ltPf := hO'.ltB
  clear hO hO'
  try clear hB
  clear ZF_2
  have hbx := blk_new w2 #[Value.bool (decide ((fq).num < 0)), Value.slice fa fn fc, Value.slice fb fm fd] 38
  have hbB := (Below.refl w2.heap.size w2).alloc (Nat.le_refl _) (.cells #[Value.bool (decide ((fq).num < 0)), Value.slice fa fn fc, Value.slice fb fm fd] 38)
  have hltN := hbx.lt
  have hB_3 : Below w2.heap.size w2 (w2.alloc (.cells #[Value.bool (decide ((fq).num < 0)), Value.slice fa fn fc, Value.slice fb fm fd] 38)) := hbB
  have X_3 := X_2.next hB_3
  have cX_3_0 : _ = some (Value.bool s) := X_3.cell 0
  have cX_3_1 : _ = some (Value.slice a1 n1 c1) := X_3.cell 1
  have cX_3_2 : _ = some (Value.slice b1 m1 d1) := X_3.cell 2
  have Y_3 := Y_2.next hB_3
  have cY_3_0 : _ = some (Value.bool t) := Y_3.cell 0
  have cY_3_1 : _ = some (Value.slice a2 n2 c2) := Y_3.cell 1
  have cY_3_2 : _ = some (Value.slice b2 m2 d2) := Y_3.cell 2
  have R0_3 := R0_2.next hB_3
  have cR0_3_0 : _ = some (Value.bool false) := R0_3.cell 0
  have fR0_3_0 := R0_3.free 0
  have cR0_3_1 : _ = some (Value.slice none 0 0) := R0_3.cell 1
  have fR0_3_1 := R0_3.free 1
  have cR0_3_2 : _ = some (Value.slice none 0 0) := R0_3.cell 2
  have fR0_3_2 := R0_3.free 2
  have hx_3 := hx_2.below hB_3
  have hy_3 := hy_2.below hB_3
  have Of_3 := Of_2.below hB_3
  have Pf_3 := Pf_2.below hB_3
  have hbel_3 := hbel_2.next hB_3
  have hsz_3 := hB_3.size
  clear hB_3
  have N_3 := hbx
  clear hbx hbB
  have cN_3_0 : _ = some (Value.bool (decide ((fq).num < 0))) := N_3.cell 0
  have cN_3_1 : _ = some (Value.slice fa fn fc) := N_3.cell 1
  have cN_3_2 : _ = some (Value.slice fb fm fd) := N_3.cell 2
  go_wp2_with fail
  clear X_2 cX_2_0 cX_2_1 cX_2_2 Y_2 cY_2_0 cY_2_1 cY_2_2 R0_2 cR0_2_0 fR0_2_0 cR0_2_1 fR0_2_1 cR0_2_2 fR0_2_2 hx_2 hy_2 Of_2 Pf_2 hbel_2
  generalize (w2.alloc (.cells #[Value.bool (decide ((fq).num < 0)), Value.slice fa fn fc, Value.slice fb fm fd] 38)) = v3 at *
  have QN_3 := Of_3.rdQ Pf_3 hqfh.out
  go_wp2_with fail
  refine (rqcmp hx_3 (by omega) QN_3 (by omega)).mono ?_
  rw [hc.out]
  rintro e w4 ⟨rfl, hB⟩
  have hB_4 : Below v3.heap.size v3 w4 := (bl.next hB)
  have X_4 := X_3.next hB_4
  have cX_4_0 : _ = some (Value.bool s) := X_4.cell 0
  have cX_4_1 : _ = some (Value.slice a1 n1 c1) := X_4.cell 1
  have cX_4_2 : _ = some (Value.slice b1 m1 d1) := X_4.cell 2
  have Y_4 := Y_3.next hB_4
  have cY_4_0 : _ = some (Value.bool t) := Y_4.cell 0
  have cY_4_1 : _ = some (Value.slice a2 n2 c2) := Y_4.cell 1
  have cY_4_2 : _ = some (Value.slice b2 m2 d2) := Y_4.cell 2
  have R0_4 := R0_3.next hB_4
  have cR0_4_0 : _ = some (Value.bool false) := R0_4.cell 0
  have fR0_4_0 := R0_4.free 0
  have cR0_4_1 : _ = some (Value.slice none 0 0) := R0_4.cell 1
  have fR0_4_1 := R0_4.free 1
  have cR0_4_2 : _ = some (Value.slice none 0 0) := R0_4.cell 2
  have fR0_4_2 := R0_4.free 2
  have N_4 := N_3.next hB_4
  have cN_4_0 : _ = some (Value.bool (decide ((fq).num < 0))) := N_4.cell 0
  have cN_4_1 : _ = some (Value.slice fa fn fc) := N_4.cell 1
  have cN_4_2 : _ = some (Value.slice fb fm fd) := N_4.cell 2
  have hx_4 := hx_3.below hB_4
  have hy_4 := hy_3.below hB_4
  have Of_4 := Of_3.below hB_4
  have Pf_4 := Pf_3.below hB_4
  have QN_4 := QN_3.below hB_4
  have hbel_4 := hbel_3.next hB_4
  have hsz_4 := hB_4.size
  clear X_3 cX_3_0 cX_3_1 cX_3_2 Y_3 cY_3_0 cY_3_1 cY_3_2 R0_3 cR0_3_0 fR0_3_0 cR0_3_1 fR0_3_1 cR0_3_2 fR0_3_2 N_3 cN_3_0 cN_3_1 cN_3_2 hx_3 hy_3 Of_3 Pf_3 QN_3 hbel_3 hB_4
  try clear hB
  go_wp2
  refine bodyPost_ret (v := .agg #[.bool (decide (fq.num < 0)), .slice fa fn fc, .slice fb fm fd]) (by simp [results, Tryz.results137, go_sem, cR0_4_0, cR0_4_1, cR0_4_2]) rfl ?_
  exact retq_set Of_4 Pf_4 hDf hbel_4 (by omega) (by omega)

set_option maxRecDepth 100000 in
set_option maxHeartbeats 40000000 in
theorem rqbtw2 {w : World} {a1 b1 : Option Addr} {n1 c1 m1 d1 : Nat} {s : Bool} {x : Rat} {a2 b2 : Option Addr} {n2 c2 m2 d2 : Nat} {t : Bool} {y : Rat} {J k : Nat} (hJ1 : 1 ≤ J) (hJ : J ≤ 200000) (hin : SmpIn x y) (hx : RdQ J w s a1 n1 c1 b1 m1 d1 x) (hy : RdQ J w t a2 n2 c2 b2 m2 d2 y) (h1 : (x.floor : Rat) ≠ x) (h2 : (x.floor : Rat) + 1 ≤ y) :
    Calls Tryz.prog 137 #[.agg #[.bool s, .slice a1 n1 c1, .slice b1 m1 d1], .agg #[.bool t, .slice a2 n2 c2, .slice b2 m2 d2]] w (RetQ w (smp (k + 1) x y)) := by
  have hqx := hx.qs hJ1
  have hqy := hy.qs hJ1
  have sf : Sz x.floor.natAbs J := (floor_qs hin.pos hJ1 hqx).1
  have hqf := floor_qs hin.pos hJ1 hqx
  have hc := hid (show cmpQ x (x.floor : Rat) = 1 by rw [cmpQ_swap, cmpQ_lt (Rat.lt_of_le_of_ne (Rat.floor_le x) h1)]; rfl)
  rw [smp_succ2 h1 h2]
  obtain ⟨c2', hc20⟩ : ∃ c, cmpQ ((x.floor : Rat) + 1) y = c := ⟨_, rfl⟩
  have hc3 : c2' ≤ 0 := by rw [← hc20]; rcases cmpQ_cases ((x.floor : Rat) + 1) y with ⟨h, e⟩ | ⟨h, e⟩ | ⟨h, e⟩ <;> first | (rw [e]; omega) | (exfalso; exact h2 (Rat.le_of_lt h)) | (exfalso; exact h2 (by rw [h]; exact Rat.le_refl)) | (exfalso; exact absurd h2 (Rat.not_le.2 h))
  have hc2 := hid hc20
  clear hc20 h2
  clear hin h1
  have hsf := hid sf
  generalize hfq0 : (x.floor : Rat) = fq at *
  have hfq := hid hfq0
  clear hfq0
  generalize hf0 : x.floor = f at *
  have hf := hid hf0
  clear hf0
  have hqfh := hid hqf
  have qp : QS (fq + 1) (J + 2) := (hqf.add (show QS 1 1 from qs_one)).mono (by omega)
  generalize hp0 : fq + 1 = p at *
  have hp := hid hp0
  clear hp0
  have hqp := hid qp
  clear qp
  clear sf hqf hqx hqy
  have hent := ent3 w #[Value.bool s, Value.slice a1 n1 c1, Value.slice b1 m1 d1] #[Value.bool t, Value.slice a2 n2 c2, Value.slice b2 m2 d2] #[Value.bool false, Value.slice none 0 0, Value.slice none 0 0] 38 38 38
  go_enter Tryz.func137, Tryz.ntmps137
  go_wp2_with fail
  generalize (((w.alloc (.cells #[Value.bool s, Value.slice a1 n1 c1, Value.slice b1 m1 d1] 38)).alloc (.cells #[Value.bool t, Value.slice a2 n2 c2, Value.slice b2 m2 d2] 38)).alloc (.cells #[Value.bool false, Value.slice none 0 0, Value.slice none 0 0] 38)) = W0 at hent ⊢
  obtain ⟨X_0, Y_0, R0_0, hbel_0, hsz_0⟩ := hent
  have cX_0_0 : _ = some (Value.bool s) := X_0.cell 0
  have cX_0_1 : _ = some (Value.slice a1 n1 c1) := X_0.cell 1
  have cX_0_2 : _ = some (Value.slice b1 m1 d1) := X_0.cell 2
  have cY_0_0 : _ = some (Value.bool t) := Y_0.cell 0
  have cY_0_1 : _ = some (Value.slice a2 n2 c2) := Y_0.cell 1
  have cY_0_2 : _ = some (Value.slice b2 m2 d2) := Y_0.cell 2
  have cR0_0_0 : _ = some (Value.bool false) := R0_0.cell 0
  have fR0_0_0 := R0_0.free 0
  have cR0_0_1 : _ = some (Value.slice none 0 0) := R0_0.cell 1
  have fR0_0_1 := R0_0.free 1
  have cR0_0_2 : _ = some (Value.slice none 0 0) := R0_0.cell 2
  have fR0_0_2 := R0_0.free 2
  have hx_0 := hx.below hbel_0
  clear hx
  have hy_0 := hy.below hbel_0
  clear hy
  go_wp2_with fail
  refine (rqfloor hx_0 (by omega)).mono ?_
  rw [hf.out]
  rintro e w1 ⟨fa, fn, fc, rfl, hO, hB⟩
  have hB_1 : Below W0.heap.size W0 w1 := (bl.next hB)
  have X_1 := X_0.next hB_1
  have cX_1_0 : _ = some (Value.bool s) := X_1.cell 0
  have cX_1_1 : _ = some (Value.slice a1 n1 c1) := X_1.cell 1
  have cX_1_2 : _ = some (Value.slice b1 m1 d1) := X_1.cell 2
  have Y_1 := Y_0.next hB_1
  have cY_1_0 : _ = some (Value.bool t) := Y_1.cell 0
  have cY_1_1 : _ = some (Value.slice a2 n2 c2) := Y_1.cell 1
  have cY_1_2 : _ = some (Value.slice b2 m2 d2) := Y_1.cell 2
  have R0_1 := R0_0.next hB_1
  have cR0_1_0 : _ = some (Value.bool false) := R0_1.cell 0
  have fR0_1_0 := R0_1.free 0
  have cR0_1_1 : _ = some (Value.slice none 0 0) := R0_1.cell 1
  have fR0_1_1 := R0_1.free 1
  have cR0_1_2 : _ = some (Value.slice none 0 0) := R0_1.cell 2
  have fR0_1_2 := R0_1.free 2
  have hx_1 := hx_0.below hB_1
  have hy_1 := hy_0.below hB_1
  have hbel_1 := hbel_0.next hB_1
  have hsz_1 := hB_1.size
  clear X_0 cX_0_0 cX_0_1 cX_0_2 Y_0 cY_0_0 cY_0_1 cY_0_2 R0_0 cR0_0_0 fR0_0_0 cR0_0_1 fR0_0_1 cR0_0_2 fR0_0_2 hx_0 hy_0 hbel_0 hB_1
  have ZF_1 := hO.rdZ hsf.out
  clear hO
  try clear hB
  go_wp2_with fail
  refine (rqwholly ZF_1 (by omega)).mono ?_
  rw [hfq.out]
  rintro e w2 ⟨fa, fn, fc, fb, fm, fd, rfl, hO, hO', hDf, hB⟩
  have hB_2 : Below w1.heap.size w1 w2 := (bl.next hB)
  have X_2 := X_1.next hB_2
  have cX_2_0 : _ = some (Value.bool s) := X_2.cell 0
  have cX_2_1 : _ = some (Value.slice a1 n1 c1) := X_2.cell 1
  have cX_2_2 : _ = some (Value.slice b1 m1 d1) := X_2.cell 2
  have Y_2 := Y_1.next hB_2
  have cY_2_0 : _ = some (Value.bool t) := Y_2.cell 0
  have cY_2_1 : _ = some (Value.slice a2 n2 c2) := Y_2.cell 1
  have cY_2_2 : _ = some (Value.slice b2 m2 d2) := Y_2.cell 2
  have R0_2 := R0_1.next hB_2
  have cR0_2_0 : _ = some (Value.bool false) := R0_2.cell 0
  have fR0_2_0 := R0_2.free 0
  have cR0_2_1 : _ = some (Value.slice none 0 0) := R0_2.cell 1
  have fR0_2_1 := R0_2.free 1
  have cR0_2_2 : _ = some (Value.slice none 0 0) := R0_2.cell 2
  have fR0_2_2 := R0_2.free 2
  have hx_2 := hx_1.below hB_2
  have hy_2 := hy_1.below hB_2
  have ZF_2 := ZF_1.below hB_2
  have hbel_2 := hbel_1.next hB_2
  have hsz_2 := hB_2.size
  clear X_1 cX_1_0 cX_1_1 cX_1_2 Y_1 cY_1_0 cY_1_1 cY_1_2 R0_1 cR0_1_0 fR0_1_0 cR0_1_1 fR0_1_1 cR0_1_2 fR0_1_2 hx_1 hy_1 ZF_1 hbel_1 hB_2
  have Of_2 := hO
  have ltOf := hO.ltB
  have Pf_2 := hO'
  have ltPf := hO'.ltB
  clear hO hO'
  try clear hB
  clear ZF_2
  have hbx := blk_new w2 #[Value.bool (decide ((fq).num < 0)), Value.slice fa fn fc, Value.slice fb fm fd] 38
  have hbB := (Below.refl w2.heap.size w2).alloc (Nat.le_refl _) (.cells #[Value.bool (decide ((fq).num < 0)), Value.slice fa fn fc, Value.slice fb fm fd] 38)
  have hltN := hbx.lt
  have hB_3 : Below w2.heap.size w2 (w2.alloc (.cells #[Value.bool (decide ((fq).num < 0)), Value.slice fa fn fc, Value.slice fb fm fd] 38)) := hbB
  have X_3 := X_2.next hB_3
  have cX_3_0 : _ = some (Value.bool s) := X_3.cell 0
  have cX_3_1 : _ = some (Value.slice a1 n1 c1) := X_3.cell 1
  have cX_3_2 : _ = some (Value.slice b1 m1 d1) := X_3.cell 2
  have Y_3 := Y_2.next hB_3
  have cY_3_0 : _ = some (Value.bool t) := Y_3.cell 0
  have cY_3_1 : _ = some (Value.slice a2 n2 c2) := Y_3.cell 1
  have cY_3_2 : _ = some (Value.slice b2 m2 d2) := Y_3.cell 2
  have R0_3 := R0_2.next hB_3
  have cR0_3_0 : _ = some (Value.bool false) := R0_3.cell 0
  have fR0_3_0 := R0_3.free 0
  have cR0_3_1 : _ = some (Value.slice none 0 0) := R0_3.cell 1
  have fR0_3_1 := R0_3.free 1
  have cR0_3_2 : _ = some (Value.slice none 0 0) := R0_3.cell 2
  have fR0_3_2 := R0_3.free 2
  have hx_3 := hx_2.below hB_3
  have hy_3 := hy_2.below hB_3
  have Of_3 := Of_2.below hB_3
  have Pf_3 := Pf_2.below hB_3
  have hbel_3 := hbel_2.next hB_3
  have hsz_3 := hB_3.size
  clear hB_3
  have N_3 := hbx
  clear hbx hbB
  have cN_3_0 : _ = some (Value.bool (decide ((fq).num < 0))) := N_3.cell 0
  have cN_3_1 : _ = some (Value.slice fa fn fc) := N_3.cell 1
  have cN_3_2 : _ = some (Value.slice fb fm fd) := N_3.cell 2
  go_wp2_with fail
  clear X_2 cX_2_0 cX_2_1 cX_2_2 Y_2 cY_2_0 cY_2_1 cY_2_2 R0_2 cR0_2_0 fR0_2_0 cR0_2_1 fR0_2_1 cR0_2_2 fR0_2_2 hx_2 hy_2 Of_2 Pf_2 hbel_2
  generalize (w2.alloc (.cells #[Value.bool (decide ((fq).num < 0)), Value.slice fa fn fc, Value.slice fb fm fd] 38)) = v3 at *
  have QN_3 := Of_3.rdQ Pf_3 hqfh.out
  clear Of_3
  clear Pf_3
  go_wp2_with fail
  refine (rqcmp hx_3 (by omega) QN_3 (by omega)).mono ?_
  rw [hc.out]
  rintro e w4 ⟨rfl, hB⟩
  have hB_4 : Below v3.heap.size v3 w4 := (bl.next hB)
  have X_4 := X_3.next hB_4
  have cX_4_0 : _ = some (Value.bool s) := X_4.cell 0
  have cX_4_1 : _ = some (Value.slice a1 n1 c1) := X_4.cell 1
  have cX_4_2 : _ = some (Value.slice b1 m1 d1) := X_4.cell 2
  have Y_4 := Y_3.next hB_4
  have cY_4_0 : _ = some (Value.bool t) := Y_4.cell 0
  have cY_4_1 : _ = some (Value.slice a2 n2 c2) := Y_4.cell 1
  have cY_4_2 : _ = some (Value.slice b2 m2 d2) := Y_4.cell 2
  have R0_4 := R0_3.next hB_4
  have cR0_4_0 : _ = some (Value.bool false) := R0_4.cell 0
  have fR0_4_0 := R0_4.free 0
  have cR0_4_1 : _ = some (Value.slice none 0 0) := R0_4.cell 1
  have fR0_4_1 := R0_4.free 1
  have cR0_4_2 : _ = some (Value.slice none 0 0) := R0_4.cell 2
  have fR0_4_2 := R0_4.free 2
  have N_4 := N_3.next hB_4
  have cN_4_0 : _ = some (Value.bool (decide ((fq).num < 0))) := N_4.cell 0
  have cN_4_1 : _ = some (Value.slice fa fn fc) := N_4.cell 1
  have cN_4_2 : _ = some (Value.slice fb fm fd) := N_4.cell 2
  have hx_4 := hx_3.below hB_4
  have hy_4 := hy_3.below hB_4
  have QN_4 := QN_3.below hB_4
  have hbel_4 := hbel_3.next hB_4
  have hsz_4 := hB_4.size
  clear X_3 cX_3_0 cX_3_1 cX_3_2 Y_3 cY_3_0 cY_3_1 cY_3_2 R0_3 cR0_3_0 fR0_3_0 cR0_3_1 fR0_3_1 cR0_3_2 fR0_3_2 N_3 cN_3_0 cN_3_1 cN_3_2 hx_3 hy_3 QN_3 hbel_3 hB_4
  try clear hB
  go_wp2_with fail
  go_cut [6] (fun s6 wx => BoxD w4 (p) s6 wx)
  case first =>
    have acc_4 : Below w4.heap.size w4 w4 := Below.refl _ _
    go_wp2_with fail
    go_region_held3 (fun w' => w'.cell? ⟨w.heap.size, 0, none⟩ = some (Value.bool s) ∧ w'.cell? ⟨w.heap.size, 1, none⟩ = some (Value.slice a1 n1 c1) ∧ w'.cell? ⟨w.heap.size, 2, none⟩ = some (Value.slice b1 m1 d1) ∧ w'.cell? ⟨w.heap.size + 1, 0, none⟩ = some (Value.bool t) ∧ w'.cell? ⟨w.heap.size + 1, 1, none⟩ = some (Value.slice a2 n2 c2) ∧ w'.cell? ⟨w.heap.size + 1, 2, none⟩ = some (Value.slice b2 m2 d2) ∧ w'.cell? ⟨w2.heap.size, 0, none⟩ = some (Value.bool (decide ((fq).num < 0))) ∧ w'.cell? ⟨w2.heap.size, 1, none⟩ = some (Value.slice fa fn fc) ∧ w'.cell? ⟨w2.heap.size, 2, none⟩ = some (Value.slice fb fm fd))
      (first | exact ⟨cX_4_0, cX_4_1, cX_4_2, cY_4_0, cY_4_1, cY_4_2, cN_4_0, cN_4_1, cN_4_2⟩ | exact ⟨cX_5_0, cX_5_1, cX_5_2, cY_5_0, cY_5_1, cY_5_2, cN_5_0, cN_5_1, cN_5_2⟩ | exact ⟨cX_6_0, cX_6_1, cX_6_2, cY_6_0, cY_6_1, cY_6_2, cN_6_0, cN_6_1, cN_6_2⟩ | exact ⟨(cell_set3 (by omega) _ _ _).trans (cX_6_0), (cell_set3 (by omega) _ _ _).trans (cX_6_1), (cell_set3 (by omega) _ _ _).trans (cX_6_2), (cell_set3 (by omega) _ _ _).trans (cY_6_0), (cell_set3 (by omega) _ _ _).trans (cY_6_1), (cell_set3 (by omega) _ _ _).trans (cY_6_2), (cell_set3 (by omega) _ _ _).trans (cN_6_0), (cell_set3 (by omega) _ _ _).trans (cN_6_1), (cell_set3 (by omega) _ _ _).trans (cN_6_2)⟩ | exact ⟨(X_4.alloc _).cell 0, (X_4.alloc _).cell 1, (X_4.alloc _).cell 2, (Y_4.alloc _).cell 0, (Y_4.alloc _).cell 1, (Y_4.alloc _).cell 2, (N_4.alloc _).cell 0, (N_4.alloc _).cell 1, (N_4.alloc _).cell 2⟩ | exact ⟨(X_5.alloc _).cell 0, (X_5.alloc _).cell 1, (X_5.alloc _).cell 2, (Y_5.alloc _).cell 0, (Y_5.alloc _).cell 1, (Y_5.alloc _).cell 2, (N_5.alloc _).cell 0, (N_5.alloc _).cell 1, (N_5.alloc _).cell 2⟩ | exact ⟨(X_6.alloc _).cell 0, (X_6.alloc _).cell 1, (X_6.alloc _).cell 2, (Y_6.alloc _).cell 0, (Y_6.alloc _).cell 1, (Y_6.alloc _).cell 2, (N_6.alloc _).cell 0, (N_6.alloc _).cell 1, (N_6.alloc _).cell 2⟩ | go_keep)
      (first
        | (go_at_call 93; ((with_reducible refine (rqs1r).mono ?_); (rintro e w5 ⟨oa, on, oc, ob, om, od, rfl, hQO, hB⟩; have hB_5 : Below w4.heap.size w4 w5 := (bl.next hB); have X_5 := X_4.next hB_5; have cX_5_0 : _ = some (Value.bool s) := X_5.cell 0; have cX_5_1 : _ = some (Value.slice a1 n1 c1) := X_5.cell 1; have cX_5_2 : _ = some (Value.slice b1 m1 d1) := X_5.cell 2; have Y_5 := Y_4.next hB_5; have cY_5_0 : _ = some (Value.bool t) := Y_5.cell 0; have cY_5_1 : _ = some (Value.slice a2 n2 c2) := Y_5.cell 1; have cY_5_2 : _ = some (Value.slice b2 m2 d2) := Y_5.cell 2; have R0_5 := R0_4.next hB_5; have cR0_5_0 : _ = some (Value.bool false) := R0_5.cell 0; have fR0_5_0 := R0_5.free 0; have cR0_5_1 : _ = some (Value.slice none 0 0) := R0_5.cell 1; have fR0_5_1 := R0_5.free 1; have cR0_5_2 : _ = some (Value.slice none 0 0) := R0_5.cell 2; have fR0_5_2 := R0_5.free 2; have N_5 := N_4.next hB_5; have cN_5_0 : _ = some (Value.bool (decide ((fq).num < 0))) := N_5.cell 0; have cN_5_1 : _ = some (Value.slice fa fn fc) := N_5.cell 1; have cN_5_2 : _ = some (Value.slice fb fm fd) := N_5.cell 2; have hx_5 := hx_4.below hB_5; have hy_5 := hy_4.below hB_5; have QN_5 := QN_4.below hB_5; have hbel_5 := hbel_4.next hB_5; have hsz_5 := hB_5.size; clear X_4 cX_4_0 cX_4_1 cX_4_2 Y_4 cY_4_0 cY_4_1 cY_4_2 R0_4 cR0_4_0 fR0_4_0 cR0_4_1 fR0_4_1 cR0_4_2 fR0_4_2 N_4 cN_4_0 cN_4_1 cN_4_2 hx_4 hy_4 QN_4 hbel_4 hB_5; have acc_5 := acc_4.next (show Below _ _ _ from (bl.next hB)); (first | (have A := A.next (show Below _ _ _ from (bl.next hB)); have ltA := A.lt; have cA0 : _ = some (Value.bool false) := A.cell 0; have fA0 := A.free 0; have cA1 : _ = some (Value.slice none 0 0) := A.cell 1; have fA1 := A.free 1; have cA2 : _ = some (Value.slice none 0 0) := A.cell 2; have fA2 := A.free 2) | (have A := (blk_new' _ #[Value.bool false, Value.slice none 0 0, Value.slice none 0 0] 38 (g := w4.heap.size) rfl).next (by first | exact hB | exact below_drew hB); have ltA := A.lt; have cA0 : _ = some (Value.bool false) := A.cell 0; have fA0 := A.free 0; have cA1 : _ = some (Value.slice none 0 0) := A.cell 1; have fA1 := A.free 1; have cA2 : _ = some (Value.slice none 0 0) := A.cell 2; have fA2 := A.free 2) | skip); have QO_5 := hQO; clear hQO; try clear hB)))
        | (go_at_call 37; ((with_reducible refine (rqadd (QN_5.below bl) (by omega) (QO_5.below bl) (by omega)).mono ?_); (rw [hp.out]; rintro e w6 ⟨qa, qn, qc, qb, qm, qd, rfl, hO, hO', hD, hB⟩; have hB_6 : Below w5.heap.size w5 w6 := (bl.next hB); have X_6 := X_5.next hB_6; have cX_6_0 : _ = some (Value.bool s) := X_6.cell 0; have cX_6_1 : _ = some (Value.slice a1 n1 c1) := X_6.cell 1; have cX_6_2 : _ = some (Value.slice b1 m1 d1) := X_6.cell 2; have Y_6 := Y_5.next hB_6; have cY_6_0 : _ = some (Value.bool t) := Y_6.cell 0; have cY_6_1 : _ = some (Value.slice a2 n2 c2) := Y_6.cell 1; have cY_6_2 : _ = some (Value.slice b2 m2 d2) := Y_6.cell 2; have R0_6 := R0_5.next hB_6; have cR0_6_0 : _ = some (Value.bool false) := R0_6.cell 0; have fR0_6_0 := R0_6.free 0; have cR0_6_1 : _ = some (Value.slice none 0 0) := R0_6.cell 1; have fR0_6_1 := R0_6.free 1; have cR0_6_2 : _ = some (Value.slice none 0 0) := R0_6.cell 2; have fR0_6_2 := R0_6.free 2; have N_6 := N_5.next hB_6; have cN_6_0 : _ = some (Value.bool (decide ((fq).num < 0))) := N_6.cell 0; have cN_6_1 : _ = some (Value.slice fa fn fc) := N_6.cell 1; have cN_6_2 : _ = some (Value.slice fb fm fd) := N_6.cell 2; have hx_6 := hx_5.below hB_6; have hy_6 := hy_5.below hB_6; have QN_6 := QN_5.below hB_6; have QO_6 := QO_5.below hB_6; have hbel_6 := hbel_5.next hB_6; have hsz_6 := hB_6.size; clear X_5 cX_5_0 cX_5_1 cX_5_2 Y_5 cY_5_0 cY_5_1 cY_5_2 R0_5 cR0_5_0 fR0_5_0 cR0_5_1 fR0_5_1 cR0_5_2 fR0_5_2 N_5 cN_5_0 cN_5_1 cN_5_2 hx_5 hy_5 QN_5 QO_5 hbel_5 hB_6; have acc_6 := acc_5.next (show Below _ _ _ from (bl.next hB)); (first | (have A := A.next (show Below _ _ _ from (bl.next hB)); have ltA := A.lt; have cA0 : _ = some (Value.bool false) := A.cell 0; have fA0 := A.free 0; have cA1 : _ = some (Value.slice none 0 0) := A.cell 1; have fA1 := A.free 1; have cA2 : _ = some (Value.slice none 0 0) := A.cell 2; have fA2 := A.free 2) | (have A := (blk_new' _ #[Value.bool false, Value.slice none 0 0, Value.slice none 0 0] 38 (g := w5.heap.size) rfl).next (by first | exact hB | exact below_drew hB); have ltA := A.lt; have cA0 : _ = some (Value.bool false) := A.cell 0; have fA0 := A.free 0; have cA1 : _ = some (Value.slice none 0 0) := A.cell 1; have fA1 := A.free 1; have cA2 : _ = some (Value.slice none 0 0) := A.cell 2; have fA2 := A.free 2) | skip); try clear hB))))
    all_goals (go_wp2_with fail; go_meet; first | exact boxD_new hO hO' hD (by first | omega | (simp; omega) | simp) acc_6 | exact boxD_set A hO hO' hD (by first | omega | (simp; omega) | simp) (by first | omega | (simp; omega) | simp) acc_6)
  case rest =>
    obtain ⟨gP, Pa, Pn, Pc, Pb, Pm, Pd, rfl, hbk, hgeP, hO, hO', awP, awP', hBc, hdP⟩ := hcut
    have hB_5 : Below w4.heap.size w4 wc := hBc
    have X_5 := X_4.next hB_5
    have cX_5_0 : _ = some (Value.bool s) := X_5.cell 0
    have cX_5_1 : _ = some (Value.slice a1 n1 c1) := X_5.cell 1
    have cX_5_2 : _ = some (Value.slice b1 m1 d1) := X_5.cell 2
    have Y_5 := Y_4.next hB_5
    have cY_5_0 : _ = some (Value.bool t) := Y_5.cell 0
    have cY_5_1 : _ = some (Value.slice a2 n2 c2) := Y_5.cell 1
    have cY_5_2 : _ = some (Value.slice b2 m2 d2) := Y_5.cell 2
    have R0_5 := R0_4.next hB_5
    have cR0_5_0 : _ = some (Value.bool false) := R0_5.cell 0
    have fR0_5_0 := R0_5.free 0
    have cR0_5_1 : _ = some (Value.slice none 0 0) := R0_5.cell 1
    have fR0_5_1 := R0_5.free 1
    have cR0_5_2 : _ = some (Value.slice none 0 0) := R0_5.cell 2
    have fR0_5_2 := R0_5.free 2
    have N_5 := N_4.next hB_5
    have cN_5_0 : _ = some (Value.bool (decide ((fq).num < 0))) := N_5.cell 0
    have cN_5_1 : _ = some (Value.slice fa fn fc) := N_5.cell 1
    have cN_5_2 : _ = some (Value.slice fb fm fd) := N_5.cell 2
    have hx_5 := hx_4.below hB_5
    have hy_5 := hy_4.below hB_5
    have QN_5 := QN_4.below hB_5
    have hbel_5 := hbel_4.next hB_5
    have hsz_5 := hB_5.size
    clear X_4 cX_4_0 cX_4_1 cX_4_2 Y_4 cY_4_0 cY_4_1 cY_4_2 R0_4 cR0_4_0 fR0_4_0 cR0_4_1 fR0_4_1 cR0_4_2 fR0_4_2 N_4 cN_4_0 cN_4_1 cN_4_2 hx_4 hy_4 QN_4 hbel_4 hB_5
    clear hBc
    obtain ⟨wc5, hwc⟩ : ∃ x : World, x = wc := ⟨_, rfl⟩
    subst hwc
    have P_5 := hbk
    have hltP := hbk.lt
    clear hbk
    have cP_5_0 : _ = some (Value.bool (decide ((p).num < 0))) := P_5.cell 0
    have cP_5_1 : _ = some (Value.slice Pa Pn Pc) := P_5.cell 1
    have cP_5_2 : _ = some (Value.slice Pb Pm Pd) := P_5.cell 2
    have OP_5 := hO
    have ltOP := hO.ltB
    clear hO
    have OP'_5 := hO'
    have ltOP' := hO'.ltB
    clear hO'
    have QP_5 := OP_5.rdQ OP'_5 hqp.out
    go_wp2_with fail
    refine (rqcmp QP_5 (by omega) hy_5 (by omega)).mono ?_
    rw [hc2.out]
    rintro e w6 ⟨rfl, hB⟩
    have hB_6 : Below wc5.heap.size wc5 w6 := (bl.next hB)
    have X_6 := X_5.next hB_6
    have cX_6_0 : _ = some (Value.bool s) := X_6.cell 0
    have cX_6_1 : _ = some (Value.slice a1 n1 c1) := X_6.cell 1
    have cX_6_2 : _ = some (Value.slice b1 m1 d1) := X_6.cell 2
    have Y_6 := Y_5.next hB_6
    have cY_6_0 : _ = some (Value.bool t) := Y_6.cell 0
    have cY_6_1 : _ = some (Value.slice a2 n2 c2) := Y_6.cell 1
    have cY_6_2 : _ = some (Value.slice b2 m2 d2) := Y_6.cell 2
    have R0_6 := R0_5.next hB_6
    have cR0_6_0 : _ = some (Value.bool false) := R0_6.cell 0
    have fR0_6_0 := R0_6.free 0
    have cR0_6_1 : _ = some (Value.slice none 0 0) := R0_6.cell 1
    have fR0_6_1 := R0_6.free 1
    have cR0_6_2 : _ = some (Value.slice none 0 0) := R0_6.cell 2
    have fR0_6_2 := R0_6.free 2
    have N_6 := N_5.next hB_6
    have cN_6_0 : _ = some (Value.bool (decide ((fq).num < 0))) := N_6.cell 0
    have cN_6_1 : _ = some (Value.slice fa fn fc) := N_6.cell 1
    have cN_6_2 : _ = some (Value.slice fb fm fd) := N_6.cell 2
    have P_6 := P_5.next hB_6
    have cP_6_0 : _ = some (Value.bool (decide ((p).num < 0))) := P_6.cell 0
    have cP_6_1 : _ = some (Value.slice Pa Pn Pc) := P_6.cell 1
    have cP_6_2 : _ = some (Value.slice Pb Pm Pd) := P_6.cell 2
    have hx_6 := hx_5.below hB_6
    have hy_6 := hy_5.below hB_6
    have QN_6 := QN_5.below hB_6
    have OP_6 := OP_5.below hB_6
    have OP'_6 := OP'_5.below hB_6
    have QP_6 := QP_5.below hB_6
    have hbel_6 := hbel_5.next hB_6
    have hsz_6 := hB_6.size
    clear X_5 cX_5_0 cX_5_1 cX_5_2 Y_5 cY_5_0 cY_5_1 cY_5_2 R0_5 cR0_5_0 fR0_5_0 cR0_5_1 fR0_5_1 cR0_5_2 fR0_5_2 N_5 cN_5_0 cN_5_1 cN_5_2 P_5 cP_5_0 cP_5_1 cP_5_2 hx_5 hy_5 QN_5 OP_5 OP'_5 QP_5 hbel_5 hB_6
    try clear hB
    go_wp2
    refine bodyPost_ret (v := .agg #[.bool (decide (p.num < 0)), .slice Pa Pn Pc, .slice Pb Pm Pd]) (by simp [results, Tryz.results137, go_sem, cR0_6_0, cR0_6_1, cR0_6_2]) rfl ?_
    exact retq_set OP_6 OP'_6 hdP hbel_6 (by omega) (by omega)

end Go.Proofs.YtgddnmmllchndaaGreat
