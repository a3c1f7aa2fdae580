/- WALKS OF WHOLE NUMBERS, 11: the extended common divisor. -/
import Derived.Test.YtokkfppchfmjcaaAw
import Derived.Test.YtokkfppchfmjcaaPq
import Derived.IntWalk
import Derived.RegionTactic
import Derived.BigRegion
import Derived.LoopN
namespace Go.Proofs.Ytokkfppchfmjcaa
set_option linter.unusedVariables false
set_option linter.unusedSimpArgs false
open Go.ChangeShapes Go.WideShapes Go.ChangeAt Go.RowKit Go.NatP

/-- the number of limbs that stands in a cell -/
def numAt (w : World) (g i : Nat) : Nat := match w.cell? ⟨g, i, none⟩ with | some v => numOf w v | none => 0
theorem numAt_rd {w : World} {g i : Nat} {a : Option Addr} {n c v : Nat} (h : w.cell? ⟨g, i, none⟩ = some (.slice a n c)) (hR : Rd w a n c (lm v)) : numAt w g i = v := by
  unfold numAt; rw [h]; exact numOf_rd hR
/-- a row: a rest and two factors, each the call's own, apart -/
def Row3 (B : Nat) (W : World) (g : Nat) (G G' : Nat) (r x y : Int) (a : Option Addr) (n c : Nat) (u : Option Addr) (p q : Nat) (v : Option Addr) (i j : Nat) : Prop :=
  Blk W g #[.bool (decide (r < 0)), .slice a n c, .bool (decide (x < 0)), .slice u p q, .bool (decide (y < 0)), .slice v i j] ∧ Own B W a n c (lm r.natAbs) ∧ Own B W u p q (lm x.natAbs) ∧ Own B W v i j (lm y.natAbs) ∧
    Diff a u ∧ Diff a v ∧ Diff u v ∧ Aw a G ∧ Aw u G ∧ Aw v G ∧ Aw a G' ∧ Aw u G' ∧ Aw v G'
theorem zmulI {W : World} {i k : Option Addr} {j c l d : Nat} {x y : Int} (hx : Rd W i j c (lm x.natAbs)) (hj : j ≤ 4194304) (hy : Rd W k l d (lm y.natAbs)) (hl : l ≤ 4194304) :
    Calls Try.prog 65 #[.agg #[.bool (decide (x < 0)), .slice i j c], .agg #[.bool (decide (y < 0)), .slice k l d]] W (RetZ W (x * y)) := by
  have h := zmul_any (decide (x < 0)) (decide (y < 0)) hx hy hj hl
  simpa only [val_lm, zv_self] using h
theorem zsubI {W : World} {i k : Option Addr} {j c l d : Nat} {x y : Int} (hx : Rd W i j c (lm x.natAbs)) (hj : j ≤ 4194304) (hy : Rd W k l d (lm y.natAbs)) (hl : l ≤ 4194304) :
    Calls Try.prog 46 #[.agg #[.bool (decide (x < 0)), .slice i j c], .agg #[.bool (decide (y < 0)), .slice k l d]] W (RetZ W (x - y)) := by
  have h := zsub_any (decide (x < 0)) (decide (y < 0)) hx hj hy hl
  simpa only [val_lm, zv_self] using h
theorem zsignI {W : World} {i : Option Addr} {j c : Nat} {x : Int} (hx : Rd W i j c (lm x.natAbs)) (hj : j ≤ 16777216) :
    Calls Try.prog 27 #[.agg #[.bool (decide (x < 0)), .slice i j c]] W (RetIb W (sgn x)) := by
  have h := zsign_any (decide (x < 0)) hx hj
  simpa only [val_lm, zv_self] using h
theorem zsignI0 {W : World} {i : Option Addr} {j c : Nat} {x : Int} (hx : Rd W i j c (lm x.natAbs)) (hj : j ≤ 16777216) (h : x = 0) :
    Calls Try.prog 27 #[.agg #[.bool (decide (x < 0)), .slice i j c]] W (RetIb W 0) := by
  have h1 := zsignI hx hj
  rwa [show sgn x = 0 by rw [h]; rfl] at h1
theorem zsignI1 {W : World} {i : Option Addr} {j c : Nat} {x : Int} (hx : Rd W i j c (lm x.natAbs)) (hj : j ≤ 16777216) (h : 0 < x) :
    Calls Try.prog 27 #[.agg #[.bool (decide (x < 0)), .slice i j c]] W (RetIb W 1) := by
  have h1 := zsignI hx hj
  rwa [show sgn x = 1 by have := sgn_cases x; omega] at h1
theorem znegI {W : World} {i : Option Addr} {j c : Nat} {x z : Int} (hx : Rd W i j c (lm x.natAbs)) (hj : j ≤ 16777216) (hz : z = -x) :
    Calls Try.prog 64 #[.agg #[.bool (decide (x < 0)), .slice i j c]] W (RetZ W z) := by
  have h := zneg_any (decide (x < 0)) hx hj
  rw [hz]
  simpa only [val_lm, zv_self, zv_not] using h
theorem zquoI {W : World} {i k : Option Addr} {j c l d : Nat} {x y q z : Int} (hx : Rd W i j c (lm x.natAbs)) (hj : j ≤ 4194304) (hy : Rd W k l d (lm y.natAbs)) (hl : l ≤ 4194304) (h0 : 0 ≤ x) (h1 : 0 < y)
    (hq : q = ((x.natAbs / y.natAbs : Nat) : Int)) (hz : z = ((x.natAbs % y.natAbs : Nat) : Int)) :
    Calls Try.prog 66 #[.agg #[.bool (decide (x < 0)), .slice i j c], .agg #[.bool (decide (y < 0)), .slice k l d]] W (RetZZ W q z 0) := by
  have h := zquo_any (decide (x < 0)) (decide (y < 0)) hx hj hy hl
  rw [val_lm, val_lm, dvE_pos (show y.natAbs ≠ 0 by omega)] at h
  rw [show zv (!(decide (x < 0) == decide (y < 0))) (x.natAbs / y.natAbs) = q by rw [hq, decide_eq_false (show ¬ x < 0 by omega), decide_eq_false (show ¬ y < 0 by omega)]; rfl,
    show zv (decide (x < 0)) (dvR x.natAbs y.natAbs) = z by rw [hz, decide_eq_false (show ¬ x < 0 by omega)]; unfold dvR; rw [if_neg (by omega)]; rfl] at h
  exact h
def RetBz (w : World) (g : Nat) (x y : Int) (e : Ending) (w' : World) : Prop :=
  ∃ p pn pc u un uc v vn vc, e = .returned (.tuple #[.slice p pn pc, .agg #[.bool (decide (x < 0)), .slice u un uc], .agg #[.bool (decide (y < 0)), .slice v vn vc]]) ∧ Own w.heap.size w' p pn pc (lm g) ∧ Own w.heap.size w' u un uc (lm x.natAbs) ∧ Own w.heap.size w' v vn vc (lm y.natAbs) ∧ Diff p u ∧ Diff p v ∧ Diff u v ∧ Below w.heap.size w w'
/-- a factor on the side of its number -/
def bzS (z x : Int) : Int := if z < 0 then -x else x

set_option maxRecDepth 100000 in
set_option maxHeartbeats 1500000 in
theorem zbez_any {w : World} {a : Option Addr} {n c : Nat} {la : List Nat} {b : Option Addr} {m d : Nat} {lb : List Nat} (s t : Bool) (ha : Rd w a n c la) (hn : n ≤ 4194304) (hb : Rd w b m d lb) (hm : m ≤ 4194304) :
    Calls Try.prog 67 #[.agg #[.bool s, .slice a n c], .agg #[.bool t, .slice b m d]] w (RetBz w (Nat.gcd (val la) (val lb)) (bzS (zv s (val la)) (bzX (val la) (val lb) 1 0)) (bzS (zv t (val lb)) (bzX (val la) (val lb) 0 1))) := by
  obtain ⟨K, hK⟩ : ∃ K, K = 4194304 := ⟨_, rfl⟩
  obtain ⟨A, hA⟩ : ∃ A, val la = A := ⟨_, rfl⟩
  obtain ⟨B, hB0⟩ : ∃ B, val lb = B := ⟨_, rfl⟩
  have hSA : Hid (Sz A K) := by show Sz _ _; rw [← hA]; exact ha.szv.mono (Nat.le_refl _) (by omega)
  have hSB : Hid (Sz B K) := by show Sz _ _; rw [← hB0]; exact hb.szv.mono (Nat.le_refl _) (by omega)
  have hS1 : Hid (Sz 1 K) := (show Sz 1 1 by show 1 < 4294967296 ^ 1; decide).mono (Nat.le_refl _) (by omega)
  have hSM : ∀ z : Int, z.natAbs ≤ max A B ∨ z.natAbs ≤ max B 1 ∨ z.natAbs ≤ max A 1 → Hid (Sz z.natAbs K) := by intro z h; rcases (show z.natAbs ≤ A ∨ z.natAbs ≤ B ∨ z.natAbs ≤ 1 by omega) with h | h | h <;> first | exact hSA.out.mono h (Nat.le_refl _) | exact hSB.out.mono h (Nat.le_refl _) | exact hS1.out.mono h (Nat.le_refl _)
  have HM := hid hSM
  clear hSM
  obtain ⟨A0, hA0⟩ : ∃ A0 : Int, A0 = (A : Int) := ⟨_, rfl⟩
  obtain ⟨B0, hB00⟩ : ∃ B0 : Int, B0 = (B : Int) := ⟨_, rfl⟩
  have HOA := hid (fun W (ha : Rd W a n c la) => zof_any false ha (show n ≤ 16777216 by omega))
  rw [hA, show zv false A = A0 from hA0.symm] at HOA
  have HOB := hid (fun W (hb : Rd W b m d lb) => zof_any false hb (show m ≤ 16777216 by omega))
  rw [hB0, show zv false B = B0 from hB00.symm] at HOB
  have HSA := hid (fun W (ha : Rd W a n c la) => zsign_any s ha (show n ≤ 16777216 by omega))
  have HSB := hid (fun W (hb : Rd W b m d lb) => zsign_any t hb (show m ≤ 16777216 by omega))
  have hst : BzIn A B A0 B0 1 0 0 1 := by rw [hA0, hB00]; exact bzIn_start A B
  have HI := hid hst
  clear hst
  skip
  rw [hA] at HSA
  rw [hB0] at HSB
  rw [hA, hB0]
  have hA' := hid hA
  have hB' := hid hB0
  clear hA hB0 hA0 hB00
  generalize hza : zv s A = za at *
  generalize hzb : zv t B = zb at *
  clear hza hzb hA' hB'
  have hent := ent4 w #[Value.bool s, Value.slice a n c] #[Value.bool t, Value.slice b m d] #[Value.bool false, Value.slice none 0 0] #[Value.bool false, Value.slice none 0 0] 25 25 25 25
  go_enter Try.func67, Try.ntmps67
  go_wp2_with fail
  generalize ((((w.alloc (.cells #[Value.bool s, Value.slice a n c] 25)).alloc (.cells #[Value.bool t, Value.slice b m d] 25)).alloc (.cells #[Value.bool false, Value.slice none 0 0] 25)).alloc (.cells #[Value.bool false, Value.slice none 0 0] 25)) = W0 at hent ⊢
  obtain ⟨Xa_0, Xb_0, R0_0, R1_0, hbel0, hsz0⟩ := hent
  have Ra_1 := ha.below hbel0
  have Rb_2 := hb.below hbel0
  have cXa0_2 : _ = some (Value.bool s) := Xa_0.cell 0
  have cXa1_2 : _ = some (Value.slice a n c) := Xa_0.cell 1
  have cXb0_2 : _ = some (Value.bool t) := Xb_0.cell 0
  have cXb1_2 : _ = some (Value.slice b m d) := Xb_0.cell 1
  have cR00_2 : _ = some (Value.bool false) := R0_0.cell 0
  have fR00_2 := R0_0.free 0
  have cR01_2 : _ = some (Value.slice none 0 0) := R0_0.cell 1
  have fR01_2 := R0_0.free 1
  have cR10_2 : _ = some (Value.bool false) := R1_0.cell 0
  have fR10_2 := R1_0.free 0
  have cR11_2 : _ = some (Value.slice none 0 0) := R1_0.cell 1
  have fR11_2 := R1_0.free 1
  go_wp2_with fail
  refine (HOA.out _ (ha.below hbel0)).mono ?_
  rintro e w1 ⟨p, pn, pc, rfl, hO, hB⟩
  clear cXa0_2 cXa1_2 cXb0_2 cXb1_2 cR00_2 fR00_2 cR01_2 fR01_2 cR10_2 fR10_2 cR11_2 fR11_2
  have hstep : Below W0.heap.size W0 w1 := (by first | exact hB | exact below_drew hB)
  have Xa_3 := Xa_0.next hstep
  have Xb_4 := Xb_0.next hstep
  have R0_5 := R0_0.next hstep
  have R1_6 := R1_0.next hstep
  have hbel7 := hbel0.next hstep
  have hle7 := hbel7.size
  have hls7 := hstep.size
  clear Xa_0 Xb_0 R0_0 R1_0 hbel0 hstep
  have cXa0_7 : _ = some (Value.bool s) := Xa_3.cell 0
  have cXa1_7 : _ = some (Value.slice a n c) := Xa_3.cell 1
  have cXb0_7 : _ = some (Value.bool t) := Xb_4.cell 0
  have cXb1_7 : _ = some (Value.slice b m d) := Xb_4.cell 1
  have cR00_7 : _ = some (Value.bool false) := R0_5.cell 0
  have fR00_7 := R0_5.free 0
  have cR01_7 : _ = some (Value.slice none 0 0) := R0_5.cell 1
  have fR01_7 := R0_5.free 1
  have cR10_7 : _ = some (Value.bool false) := R1_6.cell 0
  have fR10_7 := R1_6.free 0
  have cR11_7 : _ = some (Value.slice none 0 0) := R1_6.cell 1
  have fR11_7 := R1_6.free 1
  have Op_8 := hO
  have ltp := hO.ltOf
  clear hO hB
  go_wp2_with fail
  refine (zofi_any 1 (by omega) (by omega)).mono ?_
  rintro e w2 ⟨q, qn, qc, rfl, hO, hB⟩
  clear cXa0_7 cXa1_7 cXb0_7 cXb1_7 cR00_7 fR00_7 cR01_7 fR01_7 cR10_7 fR10_7 cR11_7 fR11_7
  have hstep : Below w1.heap.size w1 w2 := (by first | exact hB | exact below_drew hB)
  have Xa_9 := Xa_3.next hstep
  have Xb_10 := Xb_4.next hstep
  have R0_11 := R0_5.next hstep
  have R1_12 := R1_6.next hstep
  have Op_13 := Op_8.below hstep
  have hbel14 := hbel7.next hstep
  have hle14 := hbel14.size
  have hls14 := hstep.size
  clear Xa_3 Xb_4 R0_5 R1_6 Op_8 hbel7 hstep
  have cXa0_14 : _ = some (Value.bool s) := Xa_9.cell 0
  have cXa1_14 : _ = some (Value.slice a n c) := Xa_9.cell 1
  have cXb0_14 : _ = some (Value.bool t) := Xb_10.cell 0
  have cXb1_14 : _ = some (Value.slice b m d) := Xb_10.cell 1
  have cR00_14 : _ = some (Value.bool false) := R0_11.cell 0
  have fR00_14 := R0_11.free 0
  have cR01_14 : _ = some (Value.slice none 0 0) := R0_11.cell 1
  have fR01_14 := R0_11.free 1
  have cR10_14 : _ = some (Value.bool false) := R1_12.cell 0
  have fR10_14 := R1_12.free 0
  have cR11_14 : _ = some (Value.slice none 0 0) := R1_12.cell 1
  have fR11_14 := R1_12.free 1
  have Oq_15 := hO
  have ltq := hO.ltOf
  have dfpq : Diff p q := ltp.diff hO (by omega)
  clear hO hB
  go_wp2_with fail
  refine (zofi_any 0 (by omega) (by omega)).mono ?_
  rintro e w3 ⟨r, rn, rc, rfl, hO, hB⟩
  clear cXa0_14 cXa1_14 cXb0_14 cXb1_14 cR00_14 fR00_14 cR01_14 fR01_14 cR10_14 fR10_14 cR11_14 fR11_14
  have hstep : Below w2.heap.size w2 w3 := (by first | exact hB | exact below_drew hB)
  have Xa_16 := Xa_9.next hstep
  have Xb_17 := Xb_10.next hstep
  have R0_18 := R0_11.next hstep
  have R1_19 := R1_12.next hstep
  have Op_20 := Op_13.below hstep
  have Oq_21 := Oq_15.below hstep
  have hbel22 := hbel14.next hstep
  have hle22 := hbel22.size
  have hls22 := hstep.size
  clear Xa_9 Xb_10 R0_11 R1_12 Op_13 Oq_15 hbel14 hstep
  have cXa0_22 : _ = some (Value.bool s) := Xa_16.cell 0
  have cXa1_22 : _ = some (Value.slice a n c) := Xa_16.cell 1
  have cXb0_22 : _ = some (Value.bool t) := Xb_17.cell 0
  have cXb1_22 : _ = some (Value.slice b m d) := Xb_17.cell 1
  have cR00_22 : _ = some (Value.bool false) := R0_18.cell 0
  have fR00_22 := R0_18.free 0
  have cR01_22 : _ = some (Value.slice none 0 0) := R0_18.cell 1
  have fR01_22 := R0_18.free 1
  have cR10_22 : _ = some (Value.bool false) := R1_19.cell 0
  have fR10_22 := R1_19.free 0
  have cR11_22 : _ = some (Value.slice none 0 0) := R1_19.cell 1
  have fR11_22 := R1_19.free 1
  have Or_23 := hO
  have ltr := hO.ltOf
  have dfpr : Diff p r := ltp.diff hO (by omega)
  have dfqr : Diff q r := ltq.diff hO (by omega)
  clear hO hB
  have hbx := blk_new w3 #[Value.bool (decide (A0 < 0)), Value.slice p pn pc, Value.bool false, Value.slice q qn qc, Value.bool false, Value.slice r rn rc] 120
  have hbB := (Below.refl w3.heap.size w3).alloc (Nat.le_refl _) (.cells #[Value.bool (decide (A0 < 0)), Value.slice p pn pc, Value.bool false, Value.slice q qn qc, Value.bool false, Value.slice r rn rc] 120)
  have hbg := hbx.lt
  clear cXa0_22 cXa1_22 cXb0_22 cXb1_22 cR00_22 fR00_22 cR01_22 fR01_22 cR10_22 fR10_22 cR11_22 fR11_22
  have hstep : Below w3.heap.size w3 (w3.alloc (.cells #[Value.bool (decide (A0 < 0)), Value.slice p pn pc, Value.bool false, Value.slice q qn qc, Value.bool false, Value.slice r rn rc] 120)) := (by first | exact hbB | exact below_drew hbB)
  have Xa_24 := Xa_16.next hstep
  have Xb_25 := Xb_17.next hstep
  have R0_26 := R0_18.next hstep
  have R1_27 := R1_19.next hstep
  have Op_28 := Op_20.below hstep
  have Oq_29 := Oq_21.below hstep
  have Or_30 := Or_23.below hstep
  have hbel31 := hbel22.next hstep
  have hle31 := hbel31.size
  have hls31 := hstep.size
  clear Xa_16 Xb_17 R0_18 R1_19 Op_20 Oq_21 Or_23 hbel22 hstep
  have cXa0_31 : _ = some (Value.bool s) := Xa_24.cell 0
  have cXa1_31 : _ = some (Value.slice a n c) := Xa_24.cell 1
  have cXb0_31 : _ = some (Value.bool t) := Xb_25.cell 0
  have cXb1_31 : _ = some (Value.slice b m d) := Xb_25.cell 1
  have cR00_31 : _ = some (Value.bool false) := R0_26.cell 0
  have fR00_31 := R0_26.free 0
  have cR01_31 : _ = some (Value.slice none 0 0) := R0_26.cell 1
  have fR01_31 := R0_26.free 1
  have cR10_31 : _ = some (Value.bool false) := R1_27.cell 0
  have fR10_31 := R1_27.free 0
  have cR11_31 : _ = some (Value.slice none 0 0) := R1_27.cell 1
  have fR11_31 := R1_27.free 1
  have L_32 := hbx
  have cL0_32 : _ = some (Value.bool (decide (A0 < 0))) := L_32.cell 0
  have fL0_32 := L_32.free 0
  have cL1_32 : _ = some (Value.slice p pn pc) := L_32.cell 1
  have fL1_32 := L_32.free 1
  have cL2_32 : _ = some (Value.bool false) := L_32.cell 2
  have fL2_32 := L_32.free 2
  have cL3_32 : _ = some (Value.slice q qn qc) := L_32.cell 3
  have fL3_32 := L_32.free 3
  have cL4_32 : _ = some (Value.bool false) := L_32.cell 4
  have fL4_32 := L_32.free 4
  have cL5_32 : _ = some (Value.slice r rn rc) := L_32.cell 5
  have fL5_32 := L_32.free 5
  clear hbx hbB
  go_wp2_with fail
  generalize (w3.alloc (.cells #[Value.bool (decide (A0 < 0)), Value.slice p pn pc, Value.bool false, Value.slice q qn qc, Value.bool false, Value.slice r rn rc] 120)) = v4 at *
  have awpL : Aw p (w3.heap.size) := ltp.aw (by omega)
  have awqL : Aw q (w3.heap.size) := ltq.aw (by omega)
  have awrL : Aw r (w3.heap.size) := ltr.aw (by omega)
  go_wp2_with fail
  refine (HOB.out _ (hb.below hbel31)).mono ?_
  rintro e w5 ⟨p', p'n, p'c, rfl, hO, hB⟩
  clear cXa0_31 cXa1_31 cXb0_31 cXb1_31 cR00_31 fR00_31 cR01_31 fR01_31 cR10_31 fR10_31 cR11_31 fR11_31 cL0_32 fL0_32 cL1_32 fL1_32 cL2_32 fL2_32 cL3_32 fL3_32 cL4_32 fL4_32 cL5_32 fL5_32
  have hstep : Below v4.heap.size v4 w5 := (by first | exact hB | exact below_drew hB)
  have Xa_33 := Xa_24.next hstep
  have Xb_34 := Xb_25.next hstep
  have R0_35 := R0_26.next hstep
  have R1_36 := R1_27.next hstep
  have L_37 := L_32.next hstep
  have Op_38 := Op_28.below hstep
  have Oq_39 := Oq_29.below hstep
  have Or_40 := Or_30.below hstep
  have hbel41 := hbel31.next hstep
  have hle41 := hbel41.size
  have hls41 := hstep.size
  clear Xa_24 Xb_25 R0_26 R1_27 L_32 Op_28 Oq_29 Or_30 hbel31 hstep
  have cXa0_41 : _ = some (Value.bool s) := Xa_33.cell 0
  have cXa1_41 : _ = some (Value.slice a n c) := Xa_33.cell 1
  have cXb0_41 : _ = some (Value.bool t) := Xb_34.cell 0
  have cXb1_41 : _ = some (Value.slice b m d) := Xb_34.cell 1
  have cR00_41 : _ = some (Value.bool false) := R0_35.cell 0
  have fR00_41 := R0_35.free 0
  have cR01_41 : _ = some (Value.slice none 0 0) := R0_35.cell 1
  have fR01_41 := R0_35.free 1
  have cR10_41 : _ = some (Value.bool false) := R1_36.cell 0
  have fR10_41 := R1_36.free 0
  have cR11_41 : _ = some (Value.slice none 0 0) := R1_36.cell 1
  have fR11_41 := R1_36.free 1
  have cL0_41 : _ = some (Value.bool (decide (A0 < 0))) := L_37.cell 0
  have fL0_41 := L_37.free 0
  have cL1_41 : _ = some (Value.slice p pn pc) := L_37.cell 1
  have fL1_41 := L_37.free 1
  have cL2_41 : _ = some (Value.bool false) := L_37.cell 2
  have fL2_41 := L_37.free 2
  have cL3_41 : _ = some (Value.slice q qn qc) := L_37.cell 3
  have fL3_41 := L_37.free 3
  have cL4_41 : _ = some (Value.bool false) := L_37.cell 4
  have fL4_41 := L_37.free 4
  have cL5_41 : _ = some (Value.slice r rn rc) := L_37.cell 5
  have fL5_41 := L_37.free 5
  have Op'_42 := hO
  have ltp' := hO.ltOf
  have awp'L : Aw p' (w3.heap.size) := hO.awNew (by omega)
  clear hO hB
  go_wp2_with fail
  refine (zofi_any 0 (by omega) (by omega)).mono ?_
  rintro e w6 ⟨q', q'n, q'c, rfl, hO, hB⟩
  clear cXa0_41 cXa1_41 cXb0_41 cXb1_41 cR00_41 fR00_41 cR01_41 fR01_41 cR10_41 fR10_41 cR11_41 fR11_41 cL0_41 fL0_41 cL1_41 fL1_41 cL2_41 fL2_41 cL3_41 fL3_41 cL4_41 fL4_41 cL5_41 fL5_41
  have hstep : Below w5.heap.size w5 w6 := (by first | exact hB | exact below_drew hB)
  have Xa_43 := Xa_33.next hstep
  have Xb_44 := Xb_34.next hstep
  have R0_45 := R0_35.next hstep
  have R1_46 := R1_36.next hstep
  have L_47 := L_37.next hstep
  have Op_48 := Op_38.below hstep
  have Oq_49 := Oq_39.below hstep
  have Or_50 := Or_40.below hstep
  have Op'_51 := Op'_42.below hstep
  have hbel52 := hbel41.next hstep
  have hle52 := hbel52.size
  have hls52 := hstep.size
  clear Xa_33 Xb_34 R0_35 R1_36 L_37 Op_38 Oq_39 Or_40 Op'_42 hbel41 hstep
  have cXa0_52 : _ = some (Value.bool s) := Xa_43.cell 0
  have cXa1_52 : _ = some (Value.slice a n c) := Xa_43.cell 1
  have cXb0_52 : _ = some (Value.bool t) := Xb_44.cell 0
  have cXb1_52 : _ = some (Value.slice b m d) := Xb_44.cell 1
  have cR00_52 : _ = some (Value.bool false) := R0_45.cell 0
  have fR00_52 := R0_45.free 0
  have cR01_52 : _ = some (Value.slice none 0 0) := R0_45.cell 1
  have fR01_52 := R0_45.free 1
  have cR10_52 : _ = some (Value.bool false) := R1_46.cell 0
  have fR10_52 := R1_46.free 0
  have cR11_52 : _ = some (Value.slice none 0 0) := R1_46.cell 1
  have fR11_52 := R1_46.free 1
  have cL0_52 : _ = some (Value.bool (decide (A0 < 0))) := L_47.cell 0
  have fL0_52 := L_47.free 0
  have cL1_52 : _ = some (Value.slice p pn pc) := L_47.cell 1
  have fL1_52 := L_47.free 1
  have cL2_52 : _ = some (Value.bool false) := L_47.cell 2
  have fL2_52 := L_47.free 2
  have cL3_52 : _ = some (Value.slice q qn qc) := L_47.cell 3
  have fL3_52 := L_47.free 3
  have cL4_52 : _ = some (Value.bool false) := L_47.cell 4
  have fL4_52 := L_47.free 4
  have cL5_52 : _ = some (Value.slice r rn rc) := L_47.cell 5
  have fL5_52 := L_47.free 5
  have Oq'_53 := hO
  have ltq' := hO.ltOf
  have awq'L : Aw q' (w3.heap.size) := hO.awNew (by omega)
  have dfp'q' : Diff p' q' := ltp'.diff hO (by omega)
  clear hO hB
  go_wp2_with fail
  refine (zofi_any 1 (by omega) (by omega)).mono ?_
  rintro e w7 ⟨r', r'n, r'c, rfl, hO, hB⟩
  clear cXa0_52 cXa1_52 cXb0_52 cXb1_52 cR00_52 fR00_52 cR01_52 fR01_52 cR10_52 fR10_52 cR11_52 fR11_52 cL0_52 fL0_52 cL1_52 fL1_52 cL2_52 fL2_52 cL3_52 fL3_52 cL4_52 fL4_52 cL5_52 fL5_52
  have hstep : Below w6.heap.size w6 w7 := (by first | exact hB | exact below_drew hB)
  have Xa_54 := Xa_43.next hstep
  have Xb_55 := Xb_44.next hstep
  have R0_56 := R0_45.next hstep
  have R1_57 := R1_46.next hstep
  have L_58 := L_47.next hstep
  have Op_59 := Op_48.below hstep
  have Oq_60 := Oq_49.below hstep
  have Or_61 := Or_50.below hstep
  have Op'_62 := Op'_51.below hstep
  have Oq'_63 := Oq'_53.below hstep
  have hbel64 := hbel52.next hstep
  have hle64 := hbel64.size
  have hls64 := hstep.size
  clear Xa_43 Xb_44 R0_45 R1_46 L_47 Op_48 Oq_49 Or_50 Op'_51 Oq'_53 hbel52 hstep
  have cXa0_64 : _ = some (Value.bool s) := Xa_54.cell 0
  have cXa1_64 : _ = some (Value.slice a n c) := Xa_54.cell 1
  have cXb0_64 : _ = some (Value.bool t) := Xb_55.cell 0
  have cXb1_64 : _ = some (Value.slice b m d) := Xb_55.cell 1
  have cR00_64 : _ = some (Value.bool false) := R0_56.cell 0
  have fR00_64 := R0_56.free 0
  have cR01_64 : _ = some (Value.slice none 0 0) := R0_56.cell 1
  have fR01_64 := R0_56.free 1
  have cR10_64 : _ = some (Value.bool false) := R1_57.cell 0
  have fR10_64 := R1_57.free 0
  have cR11_64 : _ = some (Value.slice none 0 0) := R1_57.cell 1
  have fR11_64 := R1_57.free 1
  have cL0_64 : _ = some (Value.bool (decide (A0 < 0))) := L_58.cell 0
  have fL0_64 := L_58.free 0
  have cL1_64 : _ = some (Value.slice p pn pc) := L_58.cell 1
  have fL1_64 := L_58.free 1
  have cL2_64 : _ = some (Value.bool false) := L_58.cell 2
  have fL2_64 := L_58.free 2
  have cL3_64 : _ = some (Value.slice q qn qc) := L_58.cell 3
  have fL3_64 := L_58.free 3
  have cL4_64 : _ = some (Value.bool false) := L_58.cell 4
  have fL4_64 := L_58.free 4
  have cL5_64 : _ = some (Value.slice r rn rc) := L_58.cell 5
  have fL5_64 := L_58.free 5
  have Or'_65 := hO
  have ltr' := hO.ltOf
  have awr'L : Aw r' (w3.heap.size) := hO.awNew (by omega)
  have dfp'r' : Diff p' r' := ltp'.diff hO (by omega)
  have dfq'r' : Diff q' r' := ltq'.diff hO (by omega)
  clear hO hB
  have hbx := blk_new w7 #[Value.bool (decide (B0 < 0)), Value.slice p' p'n p'c, Value.bool false, Value.slice q' q'n q'c, Value.bool false, Value.slice r' r'n r'c] 120
  have hbB := (Below.refl w7.heap.size w7).alloc (Nat.le_refl _) (.cells #[Value.bool (decide (B0 < 0)), Value.slice p' p'n p'c, Value.bool false, Value.slice q' q'n q'c, Value.bool false, Value.slice r' r'n r'c] 120)
  have hbg := hbx.lt
  clear cXa0_64 cXa1_64 cXb0_64 cXb1_64 cR00_64 fR00_64 cR01_64 fR01_64 cR10_64 fR10_64 cR11_64 fR11_64 cL0_64 fL0_64 cL1_64 fL1_64 cL2_64 fL2_64 cL3_64 fL3_64 cL4_64 fL4_64 cL5_64 fL5_64
  have hstep : Below w7.heap.size w7 (w7.alloc (.cells #[Value.bool (decide (B0 < 0)), Value.slice p' p'n p'c, Value.bool false, Value.slice q' q'n q'c, Value.bool false, Value.slice r' r'n r'c] 120)) := (by first | exact hbB | exact below_drew hbB)
  have Xa_66 := Xa_54.next hstep
  have Xb_67 := Xb_55.next hstep
  have R0_68 := R0_56.next hstep
  have R1_69 := R1_57.next hstep
  have L_70 := L_58.next hstep
  have Op_71 := Op_59.below hstep
  have Oq_72 := Oq_60.below hstep
  have Or_73 := Or_61.below hstep
  have Op'_74 := Op'_62.below hstep
  have Oq'_75 := Oq'_63.below hstep
  have Or'_76 := Or'_65.below hstep
  have hbel77 := hbel64.next hstep
  have hle77 := hbel77.size
  have hls77 := hstep.size
  clear Xa_54 Xb_55 R0_56 R1_57 L_58 Op_59 Oq_60 Or_61 Op'_62 Oq'_63 Or'_65 hbel64 hstep
  have cXa0_77 : _ = some (Value.bool s) := Xa_66.cell 0
  have cXa1_77 : _ = some (Value.slice a n c) := Xa_66.cell 1
  have cXb0_77 : _ = some (Value.bool t) := Xb_67.cell 0
  have cXb1_77 : _ = some (Value.slice b m d) := Xb_67.cell 1
  have cR00_77 : _ = some (Value.bool false) := R0_68.cell 0
  have fR00_77 := R0_68.free 0
  have cR01_77 : _ = some (Value.slice none 0 0) := R0_68.cell 1
  have fR01_77 := R0_68.free 1
  have cR10_77 : _ = some (Value.bool false) := R1_69.cell 0
  have fR10_77 := R1_69.free 0
  have cR11_77 : _ = some (Value.slice none 0 0) := R1_69.cell 1
  have fR11_77 := R1_69.free 1
  have cL0_77 : _ = some (Value.bool (decide (A0 < 0))) := L_70.cell 0
  have fL0_77 := L_70.free 0
  have cL1_77 : _ = some (Value.slice p pn pc) := L_70.cell 1
  have fL1_77 := L_70.free 1
  have cL2_77 : _ = some (Value.bool false) := L_70.cell 2
  have fL2_77 := L_70.free 2
  have cL3_77 : _ = some (Value.slice q qn qc) := L_70.cell 3
  have fL3_77 := L_70.free 3
  have cL4_77 : _ = some (Value.bool false) := L_70.cell 4
  have fL4_77 := L_70.free 4
  have cL5_77 : _ = some (Value.slice r rn rc) := L_70.cell 5
  have fL5_77 := L_70.free 5
  have N_78 := hbx
  have cN0_78 : _ = some (Value.bool (decide (B0 < 0))) := N_78.cell 0
  have fN0_78 := N_78.free 0
  have cN1_78 : _ = some (Value.slice p' p'n p'c) := N_78.cell 1
  have fN1_78 := N_78.free 1
  have cN2_78 : _ = some (Value.bool false) := N_78.cell 2
  have fN2_78 := N_78.free 2
  have cN3_78 : _ = some (Value.slice q' q'n q'c) := N_78.cell 3
  have fN3_78 := N_78.free 3
  have cN4_78 : _ = some (Value.bool false) := N_78.cell 4
  have fN4_78 := N_78.free 4
  have cN5_78 : _ = some (Value.slice r' r'n r'c) := N_78.cell 5
  have fN5_78 := N_78.free 5
  clear hbx hbB
  go_wp2_with fail
  generalize (w7.alloc (.cells #[Value.bool (decide (B0 < 0)), Value.slice p' p'n p'c, Value.bool false, Value.slice q' q'n q'c, Value.bool false, Value.slice r' r'n r'c] 120)) = v8 at *
  have awpN : Aw p (w7.heap.size) := ltp.aw (by omega)
  have awqN : Aw q (w7.heap.size) := ltq.aw (by omega)
  have awrN : Aw r (w7.heap.size) := ltr.aw (by omega)
  have awp'N : Aw p' (w7.heap.size) := ltp'.aw (by omega)
  have awq'N : Aw q' (w7.heap.size) := ltq'.aw (by omega)
  have awr'N : Aw r' (w7.heap.size) := ltr'.aw (by omega)
  clear cXa0_77 cXa1_77 cXb0_77 cXb1_77 cR00_77 fR00_77 cR01_77 fR01_77 cR10_77 fR10_77 cR11_77 fR11_77 cL0_77 fL0_77 cL1_77 fL1_77 cL2_77 fL2_77 cL3_77 fL3_77 cL4_77 fL4_77 cL5_77 fL5_77 cN0_78 fN0_78 cN1_78 fN1_78 cN2_78 fN2_78 cN3_78 fN3_78 cN4_78 fN4_78 cN5_78 fN5_78
  have hgL : w3.heap.size < v8.heap.size := by omega
  have hgN : w7.heap.size < v8.heap.size := by omega
  have hgLN : w3.heap.size ≠ w7.heap.size := by omega
  have hgW : w.heap.size + 4 ≤ W0.heap.size ∧ W0.heap.size ≤ w3.heap.size ∧ W0.heap.size ≤ w7.heap.size := by omega
  go_loopw [] (fun wr => ∃ (r0 r1 x0 x1 y0 y1 : Int) (p : Option Addr) (pn pc : Nat) (q : Option Addr) (qn qc : Nat) (r : Option Addr) (rn rc : Nat) (p' : Option Addr) (p'n p'c : Nat) (q' : Option Addr) (q'n q'c : Nat) (r' : Option Addr) (r'n r'c : Nat), Hid (BzIn A B r0 r1 x0 x1 y0 y1) ∧ Row3 W0.heap.size wr w3.heap.size w3.heap.size w7.heap.size r0 x0 y0 p pn pc q qn qc r rn rc ∧ Row3 W0.heap.size wr w7.heap.size w3.heap.size w7.heap.size r1 x1 y1 p' p'n p'c q' q'n q'c r' r'n r'c ∧ Blk wr (w.heap.size) #[Value.bool s, Value.slice a n c] ∧ Blk wr (w.heap.size + 1) #[Value.bool t, Value.slice b m d] ∧ Blk wr (w.heap.size + 1 + 1) #[Value.bool false, Value.slice none 0 0] ∧ Blk wr (w.heap.size + 1 + 1 + 1) #[Value.bool false, Value.slice none 0 0] ∧ Below w.heap.size w wr) (fun wr => numAt wr w7.heap.size 1)
  case atStart =>
    exact ⟨A0, B0, 1, 0, 0, 1, _, _, _, _, _, _, _, _, _, _, _, _, _, _, _, _, _, _, HI, ⟨L_70, Op_71.mono (by omega), Oq_72.mono (by omega), Or_73.mono (by omega), dfpq, dfpr, dfqr, awpL, awqL, awrL, awpN, awqN, awrN⟩, ⟨N_78, Op'_74.mono (by omega), Oq'_75.mono (by omega), Or'_76.mono (by omega), dfp'q', dfp'r', dfq'r', awp'L, awq'L, awr'L, awp'N, awq'N, awr'N⟩, Xa_66, Xb_67, R0_68, R1_69, hbel77⟩
  case round =>
    clear Xa_66 Xb_67 R0_68 R1_69 L_70 N_78 Op_71 Oq_72 Or_73 Op'_74 Oq'_75 Or'_76 awpL awpN awqL awqN awrL awrN awp'L awp'N awq'L awq'N awr'L awr'N ltp ltq ltr ltp' ltq' ltr' dfpq dfpr dfqr dfp'q' dfp'r' dfq'r' hbel77
    clear HI
    obtain ⟨r0, r1, x0, x1, y0, y1, p, pn, pc, q, qn, qc, r, rn, rc, p', p'n, p'c, q', q'n, q'c, r', r'n, r'c, HI, ⟨L_0, Op_0, Oq_0, Or_0, dfpq, dfpr, dfqr, awpL, awqL, awrL, awpN, awqN, awrN⟩, ⟨N_0, Op'_0, Oq'_0, Or'_0, dfp'q', dfp'r', dfq'r', awp'L, awq'L, awr'L, awp'N, awq'N, awr'N⟩, Xa_0, Xb_0, R0_0, R1_0, hbel0⟩ := hrel
    have HM0 : Hid (numAt wr w7.heap.size 1 = r1.natAbs) := numAt_rd (N_0.cell 1) Op'_0.rd
    have hswr := hbel0.size
    have hltL := L_0.lt
    have hltN := N_0.lt
    have ltp := Op_0.ltOf
    have ltq := Oq_0.ltOf
    have ltr := Or_0.ltOf
    have ltp' := Op'_0.ltOf
    have ltq' := Oq'_0.ltOf
    have ltr' := Or'_0.ltOf
    have hlp : pn ≤ 4194304 := by rw [← hK]; exact len_le (l := la) Op_0.len ((HM.out _ (.inl HI.out.b0)).out)
    have hlp' : p'n ≤ 4194304 := by rw [← hK]; exact len_le (l := la) Op'_0.len ((HM.out _ (.inl HI.out.b1)).out)
    have hlq : qn ≤ 4194304 := by rw [← hK]; exact len_le (l := la) Oq_0.len ((HM.out _ (.inr (.inl HI.out.n0))).out)
    have hlq' : q'n ≤ 4194304 := by rw [← hK]; exact len_le (l := la) Oq'_0.len ((HM.out _ (.inr (.inl HI.out.n1))).out)
    have hlr : rn ≤ 4194304 := by rw [← hK]; exact len_le (l := la) Or_0.len ((HM.out _ (.inr (.inr HI.out.m0))).out)
    have hlr' : r'n ≤ 4194304 := by rw [← hK]; exact len_le (l := la) Or'_0.len ((HM.out _ (.inr (.inr HI.out.m1))).out)
    have cXa0_0 : _ = some (Value.bool s) := Xa_0.cell 0
    have cXa1_0 : _ = some (Value.slice a n c) := Xa_0.cell 1
    have cXb0_0 : _ = some (Value.bool t) := Xb_0.cell 0
    have cXb1_0 : _ = some (Value.slice b m d) := Xb_0.cell 1
    have cR00_0 : _ = some (Value.bool false) := R0_0.cell 0
    have fR00_0 := R0_0.free 0
    have cR01_0 : _ = some (Value.slice none 0 0) := R0_0.cell 1
    have fR01_0 := R0_0.free 1
    have cR10_0 : _ = some (Value.bool false) := R1_0.cell 0
    have fR10_0 := R1_0.free 0
    have cR11_0 : _ = some (Value.slice none 0 0) := R1_0.cell 1
    have fR11_0 := R1_0.free 1
    have cL0_0 : _ = some (Value.bool (decide (r0 < 0))) := L_0.cell 0
    have fL0_0 := L_0.free 0
    have cL1_0 : _ = some (Value.slice p pn pc) := L_0.cell 1
    have fL1_0 := L_0.free 1
    have cL2_0 : _ = some (Value.bool (decide (x0 < 0))) := L_0.cell 2
    have fL2_0 := L_0.free 2
    have cL3_0 : _ = some (Value.slice q qn qc) := L_0.cell 3
    have fL3_0 := L_0.free 3
    have cL4_0 : _ = some (Value.bool (decide (y0 < 0))) := L_0.cell 4
    have fL4_0 := L_0.free 4
    have cL5_0 : _ = some (Value.slice r rn rc) := L_0.cell 5
    have fL5_0 := L_0.free 5
    have cN0_0 : _ = some (Value.bool (decide (r1 < 0))) := N_0.cell 0
    have fN0_0 := N_0.free 0
    have cN1_0 : _ = some (Value.slice p' p'n p'c) := N_0.cell 1
    have fN1_0 := N_0.free 1
    have cN2_0 : _ = some (Value.bool (decide (x1 < 0))) := N_0.cell 2
    have fN2_0 := N_0.free 2
    have cN3_0 : _ = some (Value.slice q' q'n q'c) := N_0.cell 3
    have fN3_0 := N_0.free 3
    have cN4_0 : _ = some (Value.bool (decide (y1 < 0))) := N_0.cell 4
    have fN4_0 := N_0.free 4
    have cN5_0 : _ = some (Value.slice r' r'n r'c) := N_0.cell 5
    have fN5_0 := N_0.free 5
    rcases (show Hid (r1 = 0) ∨ Hid (0 < r1) from (Int.lt_or_eq_of_le HI.out.p1).elim (fun h => .inr h) (fun h => .inl h.symm)) with hr1 | hr1p
    · skip
      go_wp2_with fail
      refine (zsignI0 Op'_0.rd (by omega) hr1).mono ?_
      rintro e w101 ⟨rfl, hB⟩
      clear cXa0_0 cXa1_0 cXb0_0 cXb1_0 cR00_0 fR00_0 cR01_0 fR01_0 cR10_0 fR10_0 cR11_0 fR11_0 cL0_0 fL0_0 cL1_0 fL1_0 cL2_0 fL2_0 cL3_0 fL3_0 cL4_0 fL4_0 cL5_0 fL5_0 cN0_0 fN0_0 cN1_0 fN1_0 cN2_0 fN2_0 cN3_0 fN3_0 cN4_0 fN4_0 cN5_0 fN5_0
      have hstep : Below wr.heap.size wr w101 := (by first | exact hB | exact below_drew hB)
      have Xa_1 := Xa_0.next hstep
      have Xb_2 := Xb_0.next hstep
      have R0_3 := R0_0.next hstep
      have R1_4 := R1_0.next hstep
      have L_5 := L_0.next hstep
      have N_6 := N_0.next hstep
      have Op_7 := Op_0.below hstep
      have Oq_8 := Oq_0.below hstep
      have Or_9 := Or_0.below hstep
      have Op'_10 := Op'_0.below hstep
      have Oq'_11 := Oq'_0.below hstep
      have Or'_12 := Or'_0.below hstep
      have hbel13 := hbel0.next hstep
      have hle13 := hbel13.size
      have hls13 := hstep.size
      clear Xa_0 Xb_0 R0_0 R1_0 L_0 N_0 Op_0 Oq_0 Or_0 Op'_0 Oq'_0 Or'_0 hbel0 hstep
      have cXa0_13 : _ = some (Value.bool s) := Xa_1.cell 0
      have cXa1_13 : _ = some (Value.slice a n c) := Xa_1.cell 1
      have cXb0_13 : _ = some (Value.bool t) := Xb_2.cell 0
      have cXb1_13 : _ = some (Value.slice b m d) := Xb_2.cell 1
      have cR00_13 : _ = some (Value.bool false) := R0_3.cell 0
      have fR00_13 := R0_3.free 0
      have cR01_13 : _ = some (Value.slice none 0 0) := R0_3.cell 1
      have fR01_13 := R0_3.free 1
      have cR10_13 : _ = some (Value.bool false) := R1_4.cell 0
      have fR10_13 := R1_4.free 0
      have cR11_13 : _ = some (Value.slice none 0 0) := R1_4.cell 1
      have fR11_13 := R1_4.free 1
      have cL0_13 : _ = some (Value.bool (decide (r0 < 0))) := L_5.cell 0
      have fL0_13 := L_5.free 0
      have cL1_13 : _ = some (Value.slice p pn pc) := L_5.cell 1
      have fL1_13 := L_5.free 1
      have cL2_13 : _ = some (Value.bool (decide (x0 < 0))) := L_5.cell 2
      have fL2_13 := L_5.free 2
      have cL3_13 : _ = some (Value.slice q qn qc) := L_5.cell 3
      have fL3_13 := L_5.free 3
      have cL4_13 : _ = some (Value.bool (decide (y0 < 0))) := L_5.cell 4
      have fL4_13 := L_5.free 4
      have cL5_13 : _ = some (Value.slice r rn rc) := L_5.cell 5
      have fL5_13 := L_5.free 5
      have cN0_13 : _ = some (Value.bool (decide (r1 < 0))) := N_6.cell 0
      have fN0_13 := N_6.free 0
      have cN1_13 : _ = some (Value.slice p' p'n p'c) := N_6.cell 1
      have fN1_13 := N_6.free 1
      have cN2_13 : _ = some (Value.bool (decide (x1 < 0))) := N_6.cell 2
      have fN2_13 := N_6.free 2
      have cN3_13 : _ = some (Value.slice q' q'n q'c) := N_6.cell 3
      have fN3_13 := N_6.free 3
      have cN4_13 : _ = some (Value.bool (decide (y1 < 0))) := N_6.cell 4
      have fN4_13 := N_6.free 4
      have cN5_13 : _ = some (Value.slice r' r'n r'c) := N_6.cell 5
      have fN5_13 := N_6.free 5
      go_wp2_with fail
      clear cN0_13 cN1_13 cN2_13 cN3_13 cN4_13 cN5_13
      clear fN0_13 fN1_13 fN2_13 fN3_13 fN4_13 fN5_13
      clear N_6
      clear Op'_10
      clear Oq'_11
      clear Or'_12
      have hLa := L_5.alloc (.cells #[Value.bool false, Value.slice none 0 0] 25)
      have hLb := hLa.alloc (.cells #[Value.bool false, Value.slice none 0 0] 25)
      have hLc := (L_5.alloc (.cells #[Value.bool (decide (x0 < 0)), Value.slice q qn qc] 25)).alloc (.cells #[Value.bool false, Value.slice none 0 0] 25)
      have hLd := (L_5.alloc (.cells #[Value.bool false, Value.slice none 0 0] 25)).alloc (.cells #[Value.bool (decide (x0 < 0)), Value.slice q qn qc] 25)
      have hLac2 : _ = some (Value.bool (decide (x0 < 0))) := hLa.cell 2
      have hLac3 : _ = some (Value.slice q qn qc) := hLa.cell 3
      have hLac4 : _ = some (Value.bool (decide (y0 < 0))) := hLa.cell 4
      have hLac5 : _ = some (Value.slice r rn rc) := hLa.cell 5
      have hLbc2 : _ = some (Value.bool (decide (x0 < 0))) := hLb.cell 2
      have hLbc3 : _ = some (Value.slice q qn qc) := hLb.cell 3
      have hLbc4 : _ = some (Value.bool (decide (y0 < 0))) := hLb.cell 4
      have hLbc5 : _ = some (Value.slice r rn rc) := hLb.cell 5
      have hLcc2 : _ = some (Value.bool (decide (x0 < 0))) := hLc.cell 2
      have hLcc3 : _ = some (Value.slice q qn qc) := hLc.cell 3
      have hLcc4 : _ = some (Value.bool (decide (y0 < 0))) := hLc.cell 4
      have hLcc5 : _ = some (Value.slice r rn rc) := hLc.cell 5
      have hLdc2 : _ = some (Value.bool (decide (x0 < 0))) := hLd.cell 2
      have hLdc3 : _ = some (Value.slice q qn qc) := hLd.cell 3
      have hLdc4 : _ = some (Value.bool (decide (y0 < 0))) := hLd.cell 4
      have hLdc5 : _ = some (Value.slice r rn rc) := hLd.cell 5
      go_region
      clear hLa hLb hLc hLd hLac2 hLac3 hLac4 hLac5 hLbc2 hLbc3 hLbc4 hLbc5 hLcc2 hLcc3 hLcc4 hLcc5 hLdc2 hLdc3 hLdc4 hLdc5
      have hbx := blk_new' w101 #[Value.bool (decide (x0 < 0)), Value.slice q qn qc] 25 (g := w101.heap.size) (by simp)
      have hbB := (Below.refl w101.heap.size w101).alloc (Nat.le_refl _) (.cells #[Value.bool (decide (x0 < 0)), Value.slice q qn qc] 25)
      have hbg := hbx.lt
      clear cXa0_13 cXa1_13 cXb0_13 cXb1_13 cR00_13 fR00_13 cR01_13 fR01_13 cR10_13 fR10_13 cR11_13 fR11_13 cL0_13 fL0_13 cL1_13 fL1_13 cL2_13 fL2_13 cL3_13 fL3_13 cL4_13 fL4_13 cL5_13 fL5_13
      have hstep : Below w101.heap.size w101 (w101.alloc (.cells #[Value.bool (decide (x0 < 0)), Value.slice q qn qc] 25)) := (by first | exact hbB | exact below_drew hbB)
      have Xa_14 := Xa_1.next hstep
      have Xb_15 := Xb_2.next hstep
      have R0_16 := R0_3.next hstep
      have R1_17 := R1_4.next hstep
      have L_18 := L_5.next hstep
      have Op_19 := Op_7.below hstep
      have Oq_20 := Oq_8.below hstep
      have Or_21 := Or_9.below hstep
      have hbel22 := hbel13.next hstep
      have hle22 := hbel22.size
      have hls22 := hstep.size
      clear Xa_1 Xb_2 R0_3 R1_4 L_5 Op_7 Oq_8 Or_9 hbel13 hstep
      have cXa0_22 : _ = some (Value.bool s) := Xa_14.cell 0
      have cXa1_22 : _ = some (Value.slice a n c) := Xa_14.cell 1
      have cXb0_22 : _ = some (Value.bool t) := Xb_15.cell 0
      have cXb1_22 : _ = some (Value.slice b m d) := Xb_15.cell 1
      have cR00_22 : _ = some (Value.bool false) := R0_16.cell 0
      have fR00_22 := R0_16.free 0
      have cR01_22 : _ = some (Value.slice none 0 0) := R0_16.cell 1
      have fR01_22 := R0_16.free 1
      have cR10_22 : _ = some (Value.bool false) := R1_17.cell 0
      have fR10_22 := R1_17.free 0
      have cR11_22 : _ = some (Value.slice none 0 0) := R1_17.cell 1
      have fR11_22 := R1_17.free 1
      have cL0_22 : _ = some (Value.bool (decide (r0 < 0))) := L_18.cell 0
      have fL0_22 := L_18.free 0
      have cL1_22 : _ = some (Value.slice p pn pc) := L_18.cell 1
      have fL1_22 := L_18.free 1
      have cL2_22 : _ = some (Value.bool (decide (x0 < 0))) := L_18.cell 2
      have fL2_22 := L_18.free 2
      have cL3_22 : _ = some (Value.slice q qn qc) := L_18.cell 3
      have fL3_22 := L_18.free 3
      have cL4_22 : _ = some (Value.bool (decide (y0 < 0))) := L_18.cell 4
      have fL4_22 := L_18.free 4
      have cL5_22 : _ = some (Value.slice r rn rc) := L_18.cell 5
      have fL5_22 := L_18.free 5
      have Xx_23 := hbx
      have cXx0_23 : _ = some (Value.bool (decide (x0 < 0))) := Xx_23.cell 0
      have fXx0_23 := Xx_23.free 0
      have cXx1_23 : _ = some (Value.slice q qn qc) := Xx_23.cell 1
      have fXx1_23 := Xx_23.free 1
      clear hbx hbB
      have hbx := blk_new' (w101.alloc (.cells #[Value.bool (decide (x0 < 0)), Value.slice q qn qc] 25)) #[Value.bool (decide (y0 < 0)), Value.slice r rn rc] 25 (g := w101.heap.size + 1) (by simp)
      have hbB := (Below.refl (w101.alloc (.cells #[Value.bool (decide (x0 < 0)), Value.slice q qn qc] 25)).heap.size (w101.alloc (.cells #[Value.bool (decide (x0 < 0)), Value.slice q qn qc] 25))).alloc (Nat.le_refl _) (.cells #[Value.bool (decide (y0 < 0)), Value.slice r rn rc] 25)
      have hbg := hbx.lt
      clear cXa0_22 cXa1_22 cXb0_22 cXb1_22 cR00_22 fR00_22 cR01_22 fR01_22 cR10_22 fR10_22 cR11_22 fR11_22 cL0_22 fL0_22 cL1_22 fL1_22 cL2_22 fL2_22 cL3_22 fL3_22 cL4_22 fL4_22 cL5_22 fL5_22 cXx0_23 fXx0_23 cXx1_23 fXx1_23
      have hstep : Below (w101.alloc (.cells #[Value.bool (decide (x0 < 0)), Value.slice q qn qc] 25)).heap.size (w101.alloc (.cells #[Value.bool (decide (x0 < 0)), Value.slice q qn qc] 25)) ((w101.alloc (.cells #[Value.bool (decide (x0 < 0)), Value.slice q qn qc] 25)).alloc (.cells #[Value.bool (decide (y0 < 0)), Value.slice r rn rc] 25)) := (by first | exact hbB | exact below_drew hbB)
      have Xa_24 := Xa_14.next hstep
      have Xb_25 := Xb_15.next hstep
      have R0_26 := R0_16.next hstep
      have R1_27 := R1_17.next hstep
      have L_28 := L_18.next hstep
      have Xx_29 := Xx_23.next hstep
      have Op_30 := Op_19.below hstep
      have Oq_31 := Oq_20.below hstep
      have Or_32 := Or_21.below hstep
      have hbel33 := hbel22.next hstep
      have hle33 := hbel33.size
      have hls33 := hstep.size
      clear Xa_14 Xb_15 R0_16 R1_17 L_18 Xx_23 Op_19 Oq_20 Or_21 hbel22 hstep
      have cXa0_33 : _ = some (Value.bool s) := Xa_24.cell 0
      have cXa1_33 : _ = some (Value.slice a n c) := Xa_24.cell 1
      have cXb0_33 : _ = some (Value.bool t) := Xb_25.cell 0
      have cXb1_33 : _ = some (Value.slice b m d) := Xb_25.cell 1
      have cR00_33 : _ = some (Value.bool false) := R0_26.cell 0
      have fR00_33 := R0_26.free 0
      have cR01_33 : _ = some (Value.slice none 0 0) := R0_26.cell 1
      have fR01_33 := R0_26.free 1
      have cR10_33 : _ = some (Value.bool false) := R1_27.cell 0
      have fR10_33 := R1_27.free 0
      have cR11_33 : _ = some (Value.slice none 0 0) := R1_27.cell 1
      have fR11_33 := R1_27.free 1
      have cL0_33 : _ = some (Value.bool (decide (r0 < 0))) := L_28.cell 0
      have fL0_33 := L_28.free 0
      have cL1_33 : _ = some (Value.slice p pn pc) := L_28.cell 1
      have fL1_33 := L_28.free 1
      have cL2_33 : _ = some (Value.bool (decide (x0 < 0))) := L_28.cell 2
      have fL2_33 := L_28.free 2
      have cL3_33 : _ = some (Value.slice q qn qc) := L_28.cell 3
      have fL3_33 := L_28.free 3
      have cL4_33 : _ = some (Value.bool (decide (y0 < 0))) := L_28.cell 4
      have fL4_33 := L_28.free 4
      have cL5_33 : _ = some (Value.slice r rn rc) := L_28.cell 5
      have fL5_33 := L_28.free 5
      have cXx0_33 : _ = some (Value.bool (decide (x0 < 0))) := Xx_29.cell 0
      have fXx0_33 := Xx_29.free 0
      have cXx1_33 : _ = some (Value.slice q qn qc) := Xx_29.cell 1
      have fXx1_33 := Xx_29.free 1
      have Xy_34 := hbx
      have cXy0_34 : _ = some (Value.bool (decide (y0 < 0))) := Xy_34.cell 0
      have fXy0_34 := Xy_34.free 0
      have cXy1_34 : _ = some (Value.slice r rn rc) := Xy_34.cell 1
      have fXy1_34 := Xy_34.free 1
      clear hbx hbB
      generalize ((w101.alloc (.cells #[Value.bool (decide (x0 < 0)), Value.slice q qn qc] 25)).alloc (.cells #[Value.bool (decide (y0 < 0)), Value.slice r rn rc] 25)) = v102 at *
      have awpXx : Aw p (w101.heap.size) := ltp.aw (by omega)
      have awpXy : Aw p (w101.heap.size + 1) := ltp.aw (by omega)
      have awqXx : Aw q (w101.heap.size) := ltq.aw (by omega)
      have awqXy : Aw q (w101.heap.size + 1) := ltq.aw (by omega)
      have awrXx : Aw r (w101.heap.size) := ltr.aw (by omega)
      have awrXy : Aw r (w101.heap.size + 1) := ltr.aw (by omega)
      clear cXa0_33 cXa1_33 cXb0_33 cXb1_33 cR00_33 fR00_33 cR01_33 fR01_33 cR10_33 fR10_33 cR11_33 fR11_33 cL0_33 fL0_33 cL1_33 fL1_33 cL2_33 fL2_33 cL3_33 fL3_33 cL4_33 fL4_33 cL5_33 fL5_33 cXx0_33 fXx0_33 cXx1_33 fXx1_33 cXy0_34 fXy0_34 cXy1_34 fXy1_34
      have Xa_F := Xa_24
      clear Xa_24
      have Xb_F := Xb_25
      clear Xb_25
      have R0_F := R0_26
      clear R0_26
      have R1_F := R1_27
      clear R1_27
      have L_F := L_28
      clear L_28
      have Xx_F := Xx_29
      clear Xx_29
      have Xy_F := Xy_34
      clear Xy_34
      have Op_F := Op_30
      clear Op_30
      have Oq_F := Oq_31
      clear Oq_31
      have Or_F := Or_32
      clear Or_32
      have hbelF := hbel33
      clear hbel33
      generalize hgy : w101.heap.size + 1 = gy at *
      generalize hgx : w101.heap.size = gx at *
      have hgxy : gx ≠ gy := by omega
      rotate_left
      clear hLa hLb hLc hLd hLac2 hLac3 hLac4 hLac5 hLbc2 hLbc3 hLbc4 hLbc5 hLcc2 hLcc3 hLcc4 hLcc5 hLdc2 hLdc3 hLdc4 hLdc5
      have hbx := blk_new' w101 #[Value.bool (decide (y0 < 0)), Value.slice r rn rc] 25 (g := w101.heap.size) (by simp)
      have hbB := (Below.refl w101.heap.size w101).alloc (Nat.le_refl _) (.cells #[Value.bool (decide (y0 < 0)), Value.slice r rn rc] 25)
      have hbg := hbx.lt
      clear cXa0_13 cXa1_13 cXb0_13 cXb1_13 cR00_13 fR00_13 cR01_13 fR01_13 cR10_13 fR10_13 cR11_13 fR11_13 cL0_13 fL0_13 cL1_13 fL1_13 cL2_13 fL2_13 cL3_13 fL3_13 cL4_13 fL4_13 cL5_13 fL5_13
      have hstep : Below w101.heap.size w101 (w101.alloc (.cells #[Value.bool (decide (y0 < 0)), Value.slice r rn rc] 25)) := (by first | exact hbB | exact below_drew hbB)
      have Xa_14 := Xa_1.next hstep
      have Xb_15 := Xb_2.next hstep
      have R0_16 := R0_3.next hstep
      have R1_17 := R1_4.next hstep
      have L_18 := L_5.next hstep
      have Op_19 := Op_7.below hstep
      have Oq_20 := Oq_8.below hstep
      have Or_21 := Or_9.below hstep
      have hbel22 := hbel13.next hstep
      have hle22 := hbel22.size
      have hls22 := hstep.size
      clear Xa_1 Xb_2 R0_3 R1_4 L_5 Op_7 Oq_8 Or_9 hbel13 hstep
      have cXa0_22 : _ = some (Value.bool s) := Xa_14.cell 0
      have cXa1_22 : _ = some (Value.slice a n c) := Xa_14.cell 1
      have cXb0_22 : _ = some (Value.bool t) := Xb_15.cell 0
      have cXb1_22 : _ = some (Value.slice b m d) := Xb_15.cell 1
      have cR00_22 : _ = some (Value.bool false) := R0_16.cell 0
      have fR00_22 := R0_16.free 0
      have cR01_22 : _ = some (Value.slice none 0 0) := R0_16.cell 1
      have fR01_22 := R0_16.free 1
      have cR10_22 : _ = some (Value.bool false) := R1_17.cell 0
      have fR10_22 := R1_17.free 0
      have cR11_22 : _ = some (Value.slice none 0 0) := R1_17.cell 1
      have fR11_22 := R1_17.free 1
      have cL0_22 : _ = some (Value.bool (decide (r0 < 0))) := L_18.cell 0
      have fL0_22 := L_18.free 0
      have cL1_22 : _ = some (Value.slice p pn pc) := L_18.cell 1
      have fL1_22 := L_18.free 1
      have cL2_22 : _ = some (Value.bool (decide (x0 < 0))) := L_18.cell 2
      have fL2_22 := L_18.free 2
      have cL3_22 : _ = some (Value.slice q qn qc) := L_18.cell 3
      have fL3_22 := L_18.free 3
      have cL4_22 : _ = some (Value.bool (decide (y0 < 0))) := L_18.cell 4
      have fL4_22 := L_18.free 4
      have cL5_22 : _ = some (Value.slice r rn rc) := L_18.cell 5
      have fL5_22 := L_18.free 5
      have Xy_23 := hbx
      have cXy0_23 : _ = some (Value.bool (decide (y0 < 0))) := Xy_23.cell 0
      have fXy0_23 := Xy_23.free 0
      have cXy1_23 : _ = some (Value.slice r rn rc) := Xy_23.cell 1
      have fXy1_23 := Xy_23.free 1
      clear hbx hbB
      have hbx := blk_new' (w101.alloc (.cells #[Value.bool (decide (y0 < 0)), Value.slice r rn rc] 25)) #[Value.bool (decide (x0 < 0)), Value.slice q qn qc] 25 (g := w101.heap.size + 1) (by simp)
      have hbB := (Below.refl (w101.alloc (.cells #[Value.bool (decide (y0 < 0)), Value.slice r rn rc] 25)).heap.size (w101.alloc (.cells #[Value.bool (decide (y0 < 0)), Value.slice r rn rc] 25))).alloc (Nat.le_refl _) (.cells #[Value.bool (decide (x0 < 0)), Value.slice q qn qc] 25)
      have hbg := hbx.lt
      clear cXa0_22 cXa1_22 cXb0_22 cXb1_22 cR00_22 fR00_22 cR01_22 fR01_22 cR10_22 fR10_22 cR11_22 fR11_22 cL0_22 fL0_22 cL1_22 fL1_22 cL2_22 fL2_22 cL3_22 fL3_22 cL4_22 fL4_22 cL5_22 fL5_22 cXy0_23 fXy0_23 cXy1_23 fXy1_23
      have hstep : Below (w101.alloc (.cells #[Value.bool (decide (y0 < 0)), Value.slice r rn rc] 25)).heap.size (w101.alloc (.cells #[Value.bool (decide (y0 < 0)), Value.slice r rn rc] 25)) ((w101.alloc (.cells #[Value.bool (decide (y0 < 0)), Value.slice r rn rc] 25)).alloc (.cells #[Value.bool (decide (x0 < 0)), Value.slice q qn qc] 25)) := (by first | exact hbB | exact below_drew hbB)
      have Xa_24 := Xa_14.next hstep
      have Xb_25 := Xb_15.next hstep
      have R0_26 := R0_16.next hstep
      have R1_27 := R1_17.next hstep
      have L_28 := L_18.next hstep
      have Xy_29 := Xy_23.next hstep
      have Op_30 := Op_19.below hstep
      have Oq_31 := Oq_20.below hstep
      have Or_32 := Or_21.below hstep
      have hbel33 := hbel22.next hstep
      have hle33 := hbel33.size
      have hls33 := hstep.size
      clear Xa_14 Xb_15 R0_16 R1_17 L_18 Xy_23 Op_19 Oq_20 Or_21 hbel22 hstep
      have cXa0_33 : _ = some (Value.bool s) := Xa_24.cell 0
      have cXa1_33 : _ = some (Value.slice a n c) := Xa_24.cell 1
      have cXb0_33 : _ = some (Value.bool t) := Xb_25.cell 0
      have cXb1_33 : _ = some (Value.slice b m d) := Xb_25.cell 1
      have cR00_33 : _ = some (Value.bool false) := R0_26.cell 0
      have fR00_33 := R0_26.free 0
      have cR01_33 : _ = some (Value.slice none 0 0) := R0_26.cell 1
      have fR01_33 := R0_26.free 1
      have cR10_33 : _ = some (Value.bool false) := R1_27.cell 0
      have fR10_33 := R1_27.free 0
      have cR11_33 : _ = some (Value.slice none 0 0) := R1_27.cell 1
      have fR11_33 := R1_27.free 1
      have cL0_33 : _ = some (Value.bool (decide (r0 < 0))) := L_28.cell 0
      have fL0_33 := L_28.free 0
      have cL1_33 : _ = some (Value.slice p pn pc) := L_28.cell 1
      have fL1_33 := L_28.free 1
      have cL2_33 : _ = some (Value.bool (decide (x0 < 0))) := L_28.cell 2
      have fL2_33 := L_28.free 2
      have cL3_33 : _ = some (Value.slice q qn qc) := L_28.cell 3
      have fL3_33 := L_28.free 3
      have cL4_33 : _ = some (Value.bool (decide (y0 < 0))) := L_28.cell 4
      have fL4_33 := L_28.free 4
      have cL5_33 : _ = some (Value.slice r rn rc) := L_28.cell 5
      have fL5_33 := L_28.free 5
      have cXy0_33 : _ = some (Value.bool (decide (y0 < 0))) := Xy_29.cell 0
      have fXy0_33 := Xy_29.free 0
      have cXy1_33 : _ = some (Value.slice r rn rc) := Xy_29.cell 1
      have fXy1_33 := Xy_29.free 1
      have Xx_34 := hbx
      have cXx0_34 : _ = some (Value.bool (decide (x0 < 0))) := Xx_34.cell 0
      have fXx0_34 := Xx_34.free 0
      have cXx1_34 : _ = some (Value.slice q qn qc) := Xx_34.cell 1
      have fXx1_34 := Xx_34.free 1
      clear hbx hbB
      generalize ((w101.alloc (.cells #[Value.bool (decide (y0 < 0)), Value.slice r rn rc] 25)).alloc (.cells #[Value.bool (decide (x0 < 0)), Value.slice q qn qc] 25)) = v102 at *
      have awpXx : Aw p (w101.heap.size + 1) := ltp.aw (by omega)
      have awpXy : Aw p (w101.heap.size) := ltp.aw (by omega)
      have awqXx : Aw q (w101.heap.size + 1) := ltq.aw (by omega)
      have awqXy : Aw q (w101.heap.size) := ltq.aw (by omega)
      have awrXx : Aw r (w101.heap.size + 1) := ltr.aw (by omega)
      have awrXy : Aw r (w101.heap.size) := ltr.aw (by omega)
      clear cXa0_33 cXa1_33 cXb0_33 cXb1_33 cR00_33 fR00_33 cR01_33 fR01_33 cR10_33 fR10_33 cR11_33 fR11_33 cL0_33 fL0_33 cL1_33 fL1_33 cL2_33 fL2_33 cL3_33 fL3_33 cL4_33 fL4_33 cL5_33 fL5_33 cXy0_33 fXy0_33 cXy1_33 fXy1_33 cXx0_34 fXx0_34 cXx1_34 fXx1_34
      have Xa_F := Xa_24
      clear Xa_24
      have Xb_F := Xb_25
      clear Xb_25
      have R0_F := R0_26
      clear R0_26
      have R1_F := R1_27
      clear R1_27
      have L_F := L_28
      clear L_28
      have Xy_F := Xy_29
      clear Xy_29
      have Xx_F := Xx_34
      clear Xx_34
      have Op_F := Op_30
      clear Op_30
      have Oq_F := Oq_31
      clear Oq_31
      have Or_F := Or_32
      clear Or_32
      have hbelF := hbel33
      clear hbel33
      generalize hgx : w101.heap.size + 1 = gx at *
      generalize hgy : w101.heap.size = gy at *
      have hgxy : gx ≠ gy := by omega
      all_goals
        have cL0_44 : _ = some (Value.bool (decide (r0 < 0))) := L_F.cell 0
        have fL0_44 := L_F.free 0
        have cL1_44 : _ = some (Value.slice p pn pc) := L_F.cell 1
        have fL1_44 := L_F.free 1
        have cL2_44 : _ = some (Value.bool (decide (x0 < 0))) := L_F.cell 2
        have fL2_44 := L_F.free 2
        have cL3_44 : _ = some (Value.slice q qn qc) := L_F.cell 3
        have fL3_44 := L_F.free 3
        have cL4_44 : _ = some (Value.bool (decide (y0 < 0))) := L_F.cell 4
        have fL4_44 := L_F.free 4
        have cL5_44 : _ = some (Value.slice r rn rc) := L_F.cell 5
        have fL5_44 := L_F.free 5
        have cR00_44 : _ = some (Value.bool false) := R0_F.cell 0
        have fR00_44 := R0_F.free 0
        have cR01_44 : _ = some (Value.slice none 0 0) := R0_F.cell 1
        have fR01_44 := R0_F.free 1
        have cR10_44 : _ = some (Value.bool false) := R1_F.cell 0
        have fR10_44 := R1_F.free 0
        have cR11_44 : _ = some (Value.slice none 0 0) := R1_F.cell 1
        have fR11_44 := R1_F.free 1
        have cXa0_44 : _ = some (Value.bool s) := Xa_F.cell 0
        have cXa1_44 : _ = some (Value.slice a n c) := Xa_F.cell 1
        have cXb0_44 : _ = some (Value.bool t) := Xb_F.cell 0
        have cXb1_44 : _ = some (Value.slice b m d) := Xb_F.cell 1
        have cXx0_44 : _ = some (Value.bool (decide (x0 < 0))) := Xx_F.cell 0
        have fXx0_44 := Xx_F.free 0
        have cXx1_44 : _ = some (Value.slice q qn qc) := Xx_F.cell 1
        have fXx1_44 := Xx_F.free 1
        have cXy0_44 : _ = some (Value.bool (decide (y0 < 0))) := Xy_F.cell 0
        have fXy0_44 := Xy_F.free 0
        have cXy1_44 : _ = some (Value.slice r rn rc) := Xy_F.cell 1
        have fXy1_44 := Xy_F.free 1
        obtain ⟨e1, _, e2, e3⟩ := HI.out.done hr1.out
        have E1 := hid e1
        have E2 := hid e2
        have E3 := hid e3
        clear e1 e2 e3 HI HM0
        rcases Int.lt_or_le za 0 with hzaS | hzaS <;> rcases Int.lt_or_le zb 0 with hzbS | hzbS
        · skip
          obtain ⟨nx0, hnx0⟩ : ∃ z, z = -x0 := ⟨_, rfl⟩
          have HNx0 := hid hnx0
          clear hnx0
          obtain ⟨ny0, hny0⟩ : ∃ z, z = -y0 := ⟨_, rfl⟩
          have HNy0 := hid hny0
          clear hny0
          have hba : bzS za x0 = nx0 := (if_pos hzaS).trans HNx0.out.symm
          have hbb : bzS zb y0 = ny0 := (if_pos hzbS).trans HNy0.out.symm
          have HBA := hid hba
          have HBB := hid hbb
          clear hba hbb
          generalize hsa : sgn za = ga at HSA
          generalize hsb : sgn zb = gb at HSB
          have hsa' : ga = -1 := by have := sgn_cases za; omega
          have hsb' : gb = -1 := by have := sgn_cases zb; omega
          clear hsa hsb hzaS hzbS
          subst hsa'
          subst hsb'
          have hRA0 : Rd v102 a n c la := ha.below hbelF
          have hRA1 : Rd v102.drew a n c la := hRA0
          go_wp2_with fail
          refine (HSA.out _ (by first | exact hRA0 | exact hRA1)).mono ?_
          rintro e w104 ⟨rfl, hB⟩
          clear cL0_44 fL0_44 cL1_44 fL1_44 cL2_44 fL2_44 cL3_44 fL3_44 cL4_44 fL4_44 cL5_44 fL5_44 cR00_44 fR00_44 cR01_44 fR01_44 cR10_44 fR10_44 cR11_44 fR11_44 cXa0_44 cXa1_44 cXb0_44 cXb1_44 cXx0_44 fXx0_44 cXx1_44 fXx1_44 cXy0_44 fXy0_44 cXy1_44 fXy1_44
          have hstep : Below v102.heap.size v102 w104 := (by first | exact hB | exact below_drew hB)
          have L_45 := L_F.next hstep
          have R0_46 := R0_F.next hstep
          have R1_47 := R1_F.next hstep
          have Xa_48 := Xa_F.next hstep
          have Xb_49 := Xb_F.next hstep
          have Xx_50 := Xx_F.next hstep
          have Xy_51 := Xy_F.next hstep
          have Op_52 := Op_F.below hstep
          have Oq_53 := Oq_F.below hstep
          have Or_54 := Or_F.below hstep
          have hbel55 := hbelF.next hstep
          have hle55 := hbel55.size
          have hls55 := hstep.size
          clear L_F R0_F R1_F Xa_F Xb_F Xx_F Xy_F Op_F Oq_F Or_F hbelF hstep
          have cL0_55 : _ = some (Value.bool (decide (r0 < 0))) := L_45.cell 0
          have fL0_55 := L_45.free 0
          have cL1_55 : _ = some (Value.slice p pn pc) := L_45.cell 1
          have fL1_55 := L_45.free 1
          have cL2_55 : _ = some (Value.bool (decide (x0 < 0))) := L_45.cell 2
          have fL2_55 := L_45.free 2
          have cL3_55 : _ = some (Value.slice q qn qc) := L_45.cell 3
          have fL3_55 := L_45.free 3
          have cL4_55 : _ = some (Value.bool (decide (y0 < 0))) := L_45.cell 4
          have fL4_55 := L_45.free 4
          have cL5_55 : _ = some (Value.slice r rn rc) := L_45.cell 5
          have fL5_55 := L_45.free 5
          have cR00_55 : _ = some (Value.bool false) := R0_46.cell 0
          have fR00_55 := R0_46.free 0
          have cR01_55 : _ = some (Value.slice none 0 0) := R0_46.cell 1
          have fR01_55 := R0_46.free 1
          have cR10_55 : _ = some (Value.bool false) := R1_47.cell 0
          have fR10_55 := R1_47.free 0
          have cR11_55 : _ = some (Value.slice none 0 0) := R1_47.cell 1
          have fR11_55 := R1_47.free 1
          have cXa0_55 : _ = some (Value.bool s) := Xa_48.cell 0
          have cXa1_55 : _ = some (Value.slice a n c) := Xa_48.cell 1
          have cXb0_55 : _ = some (Value.bool t) := Xb_49.cell 0
          have cXb1_55 : _ = some (Value.slice b m d) := Xb_49.cell 1
          have cXx0_55 : _ = some (Value.bool (decide (x0 < 0))) := Xx_50.cell 0
          have fXx0_55 := Xx_50.free 0
          have cXx1_55 : _ = some (Value.slice q qn qc) := Xx_50.cell 1
          have fXx1_55 := Xx_50.free 1
          have cXy0_55 : _ = some (Value.bool (decide (y0 < 0))) := Xy_51.cell 0
          have fXy0_55 := Xy_51.free 0
          have cXy1_55 : _ = some (Value.slice r rn rc) := Xy_51.cell 1
          have fXy1_55 := Xy_51.free 1
          clear hRA0 hRA1
          go_wp2_with fail
          refine (znegI Oq_53.rd (by omega) HNx0.out).mono ?_
          rintro e w105 ⟨nx, nxn, nxc, rfl, hO, hB⟩
          clear cL0_55 fL0_55 cL1_55 fL1_55 cL2_55 fL2_55 cL3_55 fL3_55 cL4_55 fL4_55 cL5_55 fL5_55 cR00_55 fR00_55 cR01_55 fR01_55 cR10_55 fR10_55 cR11_55 fR11_55 cXa0_55 cXa1_55 cXb0_55 cXb1_55 cXx0_55 fXx0_55 cXx1_55 fXx1_55 cXy0_55 fXy0_55 cXy1_55 fXy1_55
          have hstep : Below w104.heap.size w104 w105 := (by first | exact hB | exact below_drew hB)
          have L_56 := L_45.next hstep
          have R0_57 := R0_46.next hstep
          have R1_58 := R1_47.next hstep
          have Xa_59 := Xa_48.next hstep
          have Xb_60 := Xb_49.next hstep
          have Xx_61 := Xx_50.next hstep
          have Xy_62 := Xy_51.next hstep
          have Op_63 := Op_52.below hstep
          have Oq_64 := Oq_53.below hstep
          have Or_65 := Or_54.below hstep
          have hbel66 := hbel55.next hstep
          have hle66 := hbel66.size
          have hls66 := hstep.size
          clear L_45 R0_46 R1_47 Xa_48 Xb_49 Xx_50 Xy_51 Op_52 Oq_53 Or_54 hbel55 hstep
          have cL0_66 : _ = some (Value.bool (decide (r0 < 0))) := L_56.cell 0
          have fL0_66 := L_56.free 0
          have cL1_66 : _ = some (Value.slice p pn pc) := L_56.cell 1
          have fL1_66 := L_56.free 1
          have cL2_66 : _ = some (Value.bool (decide (x0 < 0))) := L_56.cell 2
          have fL2_66 := L_56.free 2
          have cL3_66 : _ = some (Value.slice q qn qc) := L_56.cell 3
          have fL3_66 := L_56.free 3
          have cL4_66 : _ = some (Value.bool (decide (y0 < 0))) := L_56.cell 4
          have fL4_66 := L_56.free 4
          have cL5_66 : _ = some (Value.slice r rn rc) := L_56.cell 5
          have fL5_66 := L_56.free 5
          have cR00_66 : _ = some (Value.bool false) := R0_57.cell 0
          have fR00_66 := R0_57.free 0
          have cR01_66 : _ = some (Value.slice none 0 0) := R0_57.cell 1
          have fR01_66 := R0_57.free 1
          have cR10_66 : _ = some (Value.bool false) := R1_58.cell 0
          have fR10_66 := R1_58.free 0
          have cR11_66 : _ = some (Value.slice none 0 0) := R1_58.cell 1
          have fR11_66 := R1_58.free 1
          have cXa0_66 : _ = some (Value.bool s) := Xa_59.cell 0
          have cXa1_66 : _ = some (Value.slice a n c) := Xa_59.cell 1
          have cXb0_66 : _ = some (Value.bool t) := Xb_60.cell 0
          have cXb1_66 : _ = some (Value.slice b m d) := Xb_60.cell 1
          have cXx0_66 : _ = some (Value.bool (decide (x0 < 0))) := Xx_61.cell 0
          have fXx0_66 := Xx_61.free 0
          have cXx1_66 : _ = some (Value.slice q qn qc) := Xx_61.cell 1
          have fXx1_66 := Xx_61.free 1
          have cXy0_66 : _ = some (Value.bool (decide (y0 < 0))) := Xy_62.cell 0
          have fXy0_66 := Xy_62.free 0
          have cXy1_66 : _ = some (Value.slice r rn rc) := Xy_62.cell 1
          have fXy1_66 := Xy_62.free 1
          have Onx_67 := hO
          have ltnx := hO.ltOf
          have awnxXx : Aw nx (gx) := hO.awNew (by omega)
          have awnxXy : Aw nx (gy) := hO.awNew (by omega)
          have dfpnx : Diff p nx := ltp.diff hO (by omega)
          have dfnxr : Diff nx r := (ltr.diff hO (by omega)).symm
          clear hO
          go_wp2_with fail
          clear cL0_66 fL0_66 cL1_66 fL1_66 cL2_66 fL2_66 cL3_66 fL3_66 cL4_66 fL4_66 cL5_66 fL5_66 cR00_66 fR00_66 cR01_66 fR01_66 cR10_66 fR10_66 cR11_66 fR11_66 cXa0_66 cXa1_66 cXb0_66 cXb1_66 cXx0_66 fXx0_66 cXx1_66 fXx1_66 cXy0_66 fXy0_66 cXy1_66 fXy1_66
          have hkp : Kp (fun k => k = gx) w105 ((w105.setCell ⟨gx, 0, none⟩ (Value.bool (decide (nx0 < 0)))).setCell ⟨gx, 1, none⟩ (Value.slice nx nxn nxc)) := ((Kp.refl (fun k => k = gx) w105).setCell rfl (Value.bool (decide (nx0 < 0)))).setCell rfl (Value.slice nx nxn nxc)
          have Xx_68 := (show Blk _ _ #[Value.bool (decide (nx0 < 0)), Value.slice nx nxn nxc] from ((Xx_61).setCell (i := 0) (v := Value.bool (decide (nx0 < 0))) (by simp)).setCell (i := 1) (v := Value.slice nx nxn nxc) (by simp))
          have L_69 := L_56.kp hkp (show ¬ (w3.heap.size = gx) by omega)
          have R0_70 := R0_57.kp hkp (show ¬ (w.heap.size + 1 + 1 = gx) by omega)
          have R1_71 := R1_58.kp hkp (show ¬ (w.heap.size + 1 + 1 + 1 = gx) by omega)
          have Xa_72 := Xa_59.kp hkp (show ¬ (w.heap.size = gx) by omega)
          have Xb_73 := Xb_60.kp hkp (show ¬ (w.heap.size + 1 = gx) by omega)
          have Xy_74 := Xy_62.kp hkp (show ¬ (gy = gx) by omega)
          have Op_75 := Op_63.kp hkp (fun g' e => awpXx g' e)
          have Oq_76 := Oq_64.kp hkp (fun g' e => awqXx g' e)
          have Or_77 := Or_65.kp hkp (fun g' e => awrXx g' e)
          have Onx_78 := Onx_67.kp hkp (fun g' e => awnxXx g' e)
          have hbel79 := hbel66.kp hkp (hbel66).size (fun k hk => (show ¬ (k = gx) by omega))
          have hse79 := hkp.size
          clear L_56 R0_57 R1_58 Xa_59 Xb_60 Xx_61 Xy_62 Op_63 Oq_64 Or_65 Onx_67 hbel66 hkp
          generalize ((w105.setCell ⟨gx, 0, none⟩ (Value.bool (decide (nx0 < 0)))).setCell ⟨gx, 1, none⟩ (Value.slice nx nxn nxc)) = v106 at *
          have cL0_79 : _ = some (Value.bool (decide (r0 < 0))) := L_69.cell 0
          have fL0_79 := L_69.free 0
          have cL1_79 : _ = some (Value.slice p pn pc) := L_69.cell 1
          have fL1_79 := L_69.free 1
          have cL2_79 : _ = some (Value.bool (decide (x0 < 0))) := L_69.cell 2
          have fL2_79 := L_69.free 2
          have cL3_79 : _ = some (Value.slice q qn qc) := L_69.cell 3
          have fL3_79 := L_69.free 3
          have cL4_79 : _ = some (Value.bool (decide (y0 < 0))) := L_69.cell 4
          have fL4_79 := L_69.free 4
          have cL5_79 : _ = some (Value.slice r rn rc) := L_69.cell 5
          have fL5_79 := L_69.free 5
          have cR00_79 : _ = some (Value.bool false) := R0_70.cell 0
          have fR00_79 := R0_70.free 0
          have cR01_79 : _ = some (Value.slice none 0 0) := R0_70.cell 1
          have fR01_79 := R0_70.free 1
          have cR10_79 : _ = some (Value.bool false) := R1_71.cell 0
          have fR10_79 := R1_71.free 0
          have cR11_79 : _ = some (Value.slice none 0 0) := R1_71.cell 1
          have fR11_79 := R1_71.free 1
          have cXa0_79 : _ = some (Value.bool s) := Xa_72.cell 0
          have cXa1_79 : _ = some (Value.slice a n c) := Xa_72.cell 1
          have cXb0_79 : _ = some (Value.bool t) := Xb_73.cell 0
          have cXb1_79 : _ = some (Value.slice b m d) := Xb_73.cell 1
          have cXx0_79 : _ = some (Value.bool (decide (nx0 < 0))) := Xx_68.cell 0
          have fXx0_79 := Xx_68.free 0
          have cXx1_79 : _ = some (Value.slice nx nxn nxc) := Xx_68.cell 1
          have fXx1_79 := Xx_68.free 1
          have cXy0_79 : _ = some (Value.bool (decide (y0 < 0))) := Xy_74.cell 0
          have fXy0_79 := Xy_74.free 0
          have cXy1_79 : _ = some (Value.slice r rn rc) := Xy_74.cell 1
          have fXy1_79 := Xy_74.free 1
          go_wp2_with fail
          refine (HSB.out _ (hb.below hbel79)).mono ?_
          rintro e w107 ⟨rfl, hB⟩
          clear cL0_79 fL0_79 cL1_79 fL1_79 cL2_79 fL2_79 cL3_79 fL3_79 cL4_79 fL4_79 cL5_79 fL5_79 cR00_79 fR00_79 cR01_79 fR01_79 cR10_79 fR10_79 cR11_79 fR11_79 cXa0_79 cXa1_79 cXb0_79 cXb1_79 cXx0_79 fXx0_79 cXx1_79 fXx1_79 cXy0_79 fXy0_79 cXy1_79 fXy1_79
          have hstep : Below v106.heap.size v106 w107 := (by first | exact hB | exact below_drew hB)
          have L_80 := L_69.next hstep
          have R0_81 := R0_70.next hstep
          have R1_82 := R1_71.next hstep
          have Xa_83 := Xa_72.next hstep
          have Xb_84 := Xb_73.next hstep
          have Xx_85 := Xx_68.next hstep
          have Xy_86 := Xy_74.next hstep
          have Op_87 := Op_75.below hstep
          have Oq_88 := Oq_76.below hstep
          have Or_89 := Or_77.below hstep
          have Onx_90 := Onx_78.below hstep
          have hbel91 := hbel79.next hstep
          have hle91 := hbel91.size
          have hls91 := hstep.size
          clear L_69 R0_70 R1_71 Xa_72 Xb_73 Xx_68 Xy_74 Op_75 Oq_76 Or_77 Onx_78 hbel79 hstep
          have cL0_91 : _ = some (Value.bool (decide (r0 < 0))) := L_80.cell 0
          have fL0_91 := L_80.free 0
          have cL1_91 : _ = some (Value.slice p pn pc) := L_80.cell 1
          have fL1_91 := L_80.free 1
          have cL2_91 : _ = some (Value.bool (decide (x0 < 0))) := L_80.cell 2
          have fL2_91 := L_80.free 2
          have cL3_91 : _ = some (Value.slice q qn qc) := L_80.cell 3
          have fL3_91 := L_80.free 3
          have cL4_91 : _ = some (Value.bool (decide (y0 < 0))) := L_80.cell 4
          have fL4_91 := L_80.free 4
          have cL5_91 : _ = some (Value.slice r rn rc) := L_80.cell 5
          have fL5_91 := L_80.free 5
          have cR00_91 : _ = some (Value.bool false) := R0_81.cell 0
          have fR00_91 := R0_81.free 0
          have cR01_91 : _ = some (Value.slice none 0 0) := R0_81.cell 1
          have fR01_91 := R0_81.free 1
          have cR10_91 : _ = some (Value.bool false) := R1_82.cell 0
          have fR10_91 := R1_82.free 0
          have cR11_91 : _ = some (Value.slice none 0 0) := R1_82.cell 1
          have fR11_91 := R1_82.free 1
          have cXa0_91 : _ = some (Value.bool s) := Xa_83.cell 0
          have cXa1_91 : _ = some (Value.slice a n c) := Xa_83.cell 1
          have cXb0_91 : _ = some (Value.bool t) := Xb_84.cell 0
          have cXb1_91 : _ = some (Value.slice b m d) := Xb_84.cell 1
          have cXx0_91 : _ = some (Value.bool (decide (nx0 < 0))) := Xx_85.cell 0
          have fXx0_91 := Xx_85.free 0
          have cXx1_91 : _ = some (Value.slice nx nxn nxc) := Xx_85.cell 1
          have fXx1_91 := Xx_85.free 1
          have cXy0_91 : _ = some (Value.bool (decide (y0 < 0))) := Xy_86.cell 0
          have fXy0_91 := Xy_86.free 0
          have cXy1_91 : _ = some (Value.slice r rn rc) := Xy_86.cell 1
          have fXy1_91 := Xy_86.free 1
          go_wp2_with fail
          refine (znegI Or_89.rd (by omega) HNy0.out).mono ?_
          rintro e w108 ⟨ny, nyn, nyc, rfl, hO, hB⟩
          clear cL0_91 fL0_91 cL1_91 fL1_91 cL2_91 fL2_91 cL3_91 fL3_91 cL4_91 fL4_91 cL5_91 fL5_91 cR00_91 fR00_91 cR01_91 fR01_91 cR10_91 fR10_91 cR11_91 fR11_91 cXa0_91 cXa1_91 cXb0_91 cXb1_91 cXx0_91 fXx0_91 cXx1_91 fXx1_91 cXy0_91 fXy0_91 cXy1_91 fXy1_91
          have hstep : Below w107.heap.size w107 w108 := (by first | exact hB | exact below_drew hB)
          have L_92 := L_80.next hstep
          have R0_93 := R0_81.next hstep
          have R1_94 := R1_82.next hstep
          have Xa_95 := Xa_83.next hstep
          have Xb_96 := Xb_84.next hstep
          have Xx_97 := Xx_85.next hstep
          have Xy_98 := Xy_86.next hstep
          have Op_99 := Op_87.below hstep
          have Oq_100 := Oq_88.below hstep
          have Or_101 := Or_89.below hstep
          have Onx_102 := Onx_90.below hstep
          have hbel103 := hbel91.next hstep
          have hle103 := hbel103.size
          have hls103 := hstep.size
          clear L_80 R0_81 R1_82 Xa_83 Xb_84 Xx_85 Xy_86 Op_87 Oq_88 Or_89 Onx_90 hbel91 hstep
          have cL0_103 : _ = some (Value.bool (decide (r0 < 0))) := L_92.cell 0
          have fL0_103 := L_92.free 0
          have cL1_103 : _ = some (Value.slice p pn pc) := L_92.cell 1
          have fL1_103 := L_92.free 1
          have cL2_103 : _ = some (Value.bool (decide (x0 < 0))) := L_92.cell 2
          have fL2_103 := L_92.free 2
          have cL3_103 : _ = some (Value.slice q qn qc) := L_92.cell 3
          have fL3_103 := L_92.free 3
          have cL4_103 : _ = some (Value.bool (decide (y0 < 0))) := L_92.cell 4
          have fL4_103 := L_92.free 4
          have cL5_103 : _ = some (Value.slice r rn rc) := L_92.cell 5
          have fL5_103 := L_92.free 5
          have cR00_103 : _ = some (Value.bool false) := R0_93.cell 0
          have fR00_103 := R0_93.free 0
          have cR01_103 : _ = some (Value.slice none 0 0) := R0_93.cell 1
          have fR01_103 := R0_93.free 1
          have cR10_103 : _ = some (Value.bool false) := R1_94.cell 0
          have fR10_103 := R1_94.free 0
          have cR11_103 : _ = some (Value.slice none 0 0) := R1_94.cell 1
          have fR11_103 := R1_94.free 1
          have cXa0_103 : _ = some (Value.bool s) := Xa_95.cell 0
          have cXa1_103 : _ = some (Value.slice a n c) := Xa_95.cell 1
          have cXb0_103 : _ = some (Value.bool t) := Xb_96.cell 0
          have cXb1_103 : _ = some (Value.slice b m d) := Xb_96.cell 1
          have cXx0_103 : _ = some (Value.bool (decide (nx0 < 0))) := Xx_97.cell 0
          have fXx0_103 := Xx_97.free 0
          have cXx1_103 : _ = some (Value.slice nx nxn nxc) := Xx_97.cell 1
          have fXx1_103 := Xx_97.free 1
          have cXy0_103 : _ = some (Value.bool (decide (y0 < 0))) := Xy_98.cell 0
          have fXy0_103 := Xy_98.free 0
          have cXy1_103 : _ = some (Value.slice r rn rc) := Xy_98.cell 1
          have fXy1_103 := Xy_98.free 1
          have Ony_104 := hO
          have ltny := hO.ltOf
          have awnyXx : Aw ny (gx) := hO.awNew (by omega)
          have awnyXy : Aw ny (gy) := hO.awNew (by omega)
          have dfpny : Diff p ny := ltp.diff hO (by omega)
          have dfnxny : Diff nx ny := ltnx.diff hO (by omega)
          clear hO
          go_wp2_with fail
          clear cL0_103 fL0_103 cL1_103 fL1_103 cL2_103 fL2_103 cL3_103 fL3_103 cL4_103 fL4_103 cL5_103 fL5_103 cR00_103 fR00_103 cR01_103 fR01_103 cR10_103 fR10_103 cR11_103 fR11_103 cXa0_103 cXa1_103 cXb0_103 cXb1_103 cXx0_103 fXx0_103 cXx1_103 fXx1_103 cXy0_103 fXy0_103 cXy1_103 fXy1_103
          have hkp : Kp (fun k => k = gy) w108 ((w108.setCell ⟨gy, 0, none⟩ (Value.bool (decide (ny0 < 0)))).setCell ⟨gy, 1, none⟩ (Value.slice ny nyn nyc)) := ((Kp.refl (fun k => k = gy) w108).setCell rfl (Value.bool (decide (ny0 < 0)))).setCell rfl (Value.slice ny nyn nyc)
          have Xy_105 := (show Blk _ _ #[Value.bool (decide (ny0 < 0)), Value.slice ny nyn nyc] from ((Xy_98).setCell (i := 0) (v := Value.bool (decide (ny0 < 0))) (by simp)).setCell (i := 1) (v := Value.slice ny nyn nyc) (by simp))
          have L_106 := L_92.kp hkp (show ¬ (w3.heap.size = gy) by omega)
          have R0_107 := R0_93.kp hkp (show ¬ (w.heap.size + 1 + 1 = gy) by omega)
          have R1_108 := R1_94.kp hkp (show ¬ (w.heap.size + 1 + 1 + 1 = gy) by omega)
          have Xa_109 := Xa_95.kp hkp (show ¬ (w.heap.size = gy) by omega)
          have Xb_110 := Xb_96.kp hkp (show ¬ (w.heap.size + 1 = gy) by omega)
          have Xx_111 := Xx_97.kp hkp (show ¬ (gx = gy) by omega)
          have Op_112 := Op_99.kp hkp (fun g' e => awpXy g' e)
          have Oq_113 := Oq_100.kp hkp (fun g' e => awqXy g' e)
          have Or_114 := Or_101.kp hkp (fun g' e => awrXy g' e)
          have Onx_115 := Onx_102.kp hkp (fun g' e => awnxXy g' e)
          have Ony_116 := Ony_104.kp hkp (fun g' e => awnyXy g' e)
          have hbel117 := hbel103.kp hkp (hbel103).size (fun k hk => (show ¬ (k = gy) by omega))
          have hse117 := hkp.size
          clear L_92 R0_93 R1_94 Xa_95 Xb_96 Xx_97 Xy_98 Op_99 Oq_100 Or_101 Onx_102 Ony_104 hbel103 hkp
          generalize ((w108.setCell ⟨gy, 0, none⟩ (Value.bool (decide (ny0 < 0)))).setCell ⟨gy, 1, none⟩ (Value.slice ny nyn nyc)) = v109 at *
          have cL0_117 : _ = some (Value.bool (decide (r0 < 0))) := L_106.cell 0
          have fL0_117 := L_106.free 0
          have cL1_117 : _ = some (Value.slice p pn pc) := L_106.cell 1
          have fL1_117 := L_106.free 1
          have cL2_117 : _ = some (Value.bool (decide (x0 < 0))) := L_106.cell 2
          have fL2_117 := L_106.free 2
          have cL3_117 : _ = some (Value.slice q qn qc) := L_106.cell 3
          have fL3_117 := L_106.free 3
          have cL4_117 : _ = some (Value.bool (decide (y0 < 0))) := L_106.cell 4
          have fL4_117 := L_106.free 4
          have cL5_117 : _ = some (Value.slice r rn rc) := L_106.cell 5
          have fL5_117 := L_106.free 5
          have cR00_117 : _ = some (Value.bool false) := R0_107.cell 0
          have fR00_117 := R0_107.free 0
          have cR01_117 : _ = some (Value.slice none 0 0) := R0_107.cell 1
          have fR01_117 := R0_107.free 1
          have cR10_117 : _ = some (Value.bool false) := R1_108.cell 0
          have fR10_117 := R1_108.free 0
          have cR11_117 : _ = some (Value.slice none 0 0) := R1_108.cell 1
          have fR11_117 := R1_108.free 1
          have cXa0_117 : _ = some (Value.bool s) := Xa_109.cell 0
          have cXa1_117 : _ = some (Value.slice a n c) := Xa_109.cell 1
          have cXb0_117 : _ = some (Value.bool t) := Xb_110.cell 0
          have cXb1_117 : _ = some (Value.slice b m d) := Xb_110.cell 1
          have cXx0_117 : _ = some (Value.bool (decide (nx0 < 0))) := Xx_111.cell 0
          have fXx0_117 := Xx_111.free 0
          have cXx1_117 : _ = some (Value.slice nx nxn nxc) := Xx_111.cell 1
          have fXx1_117 := Xx_111.free 1
          have cXy0_117 : _ = some (Value.bool (decide (ny0 < 0))) := Xy_105.cell 0
          have fXy0_117 := Xy_105.free 0
          have cXy1_117 : _ = some (Value.slice ny nyn nyc) := Xy_105.cell 1
          have fXy1_117 := Xy_105.free 1
          go_wp2_with fail
          go_region
          have awpR0 : Aw p (w.heap.size + 1 + 1) := (Op_112.mono (B' := W0.heap.size) (by omega)).awNew (by omega)
          have awqR0 : Aw q (w.heap.size + 1 + 1) := (Oq_113.mono (B' := W0.heap.size) (by omega)).awNew (by omega)
          have awrR0 : Aw r (w.heap.size + 1 + 1) := (Or_114.mono (B' := W0.heap.size) (by omega)).awNew (by omega)
          have awnxR0 : Aw nx (w.heap.size + 1 + 1) := (Onx_115.mono (B' := W0.heap.size) (by omega)).awNew (by omega)
          have awnyR0 : Aw ny (w.heap.size + 1 + 1) := (Ony_116.mono (B' := W0.heap.size) (by omega)).awNew (by omega)
          have awpR1 : Aw p (w.heap.size + 1 + 1 + 1) := (Op_112.mono (B' := W0.heap.size) (by omega)).awNew (by omega)
          have awqR1 : Aw q (w.heap.size + 1 + 1 + 1) := (Oq_113.mono (B' := W0.heap.size) (by omega)).awNew (by omega)
          have awrR1 : Aw r (w.heap.size + 1 + 1 + 1) := (Or_114.mono (B' := W0.heap.size) (by omega)).awNew (by omega)
          have awnxR1 : Aw nx (w.heap.size + 1 + 1 + 1) := (Onx_115.mono (B' := W0.heap.size) (by omega)).awNew (by omega)
          have awnyR1 : Aw ny (w.heap.size + 1 + 1 + 1) := (Ony_116.mono (B' := W0.heap.size) (by omega)).awNew (by omega)
          clear cL0_117 fL0_117 cL1_117 fL1_117 cL2_117 fL2_117 cL3_117 fL3_117 cL4_117 fL4_117 cL5_117 fL5_117 cR00_117 fR00_117 cR01_117 fR01_117 cR10_117 fR10_117 cR11_117 fR11_117 cXa0_117 cXa1_117 cXb0_117 cXb1_117 cXx0_117 fXx0_117 cXx1_117 fXx1_117 cXy0_117 fXy0_117 cXy1_117 fXy1_117
          have hkp : Kp (fun k => k = w.heap.size + 1 + 1) v109 ((v109.setCell ⟨w.heap.size + 1 + 1, 0, none⟩ (Value.bool (decide (nx0 < 0)))).setCell ⟨w.heap.size + 1 + 1, 1, none⟩ (Value.slice nx nxn nxc)) := ((Kp.refl (fun k => k = w.heap.size + 1 + 1) v109).setCell rfl (Value.bool (decide (nx0 < 0)))).setCell rfl (Value.slice nx nxn nxc)
          have R0_118 := (show Blk _ _ #[Value.bool (decide (nx0 < 0)), Value.slice nx nxn nxc] from ((R0_107).setCell (i := 0) (v := Value.bool (decide (nx0 < 0))) (by simp)).setCell (i := 1) (v := Value.slice nx nxn nxc) (by simp))
          have L_119 := L_106.kp hkp (show ¬ (w3.heap.size = w.heap.size + 1 + 1) by omega)
          have R1_120 := R1_108.kp hkp (show ¬ (w.heap.size + 1 + 1 + 1 = w.heap.size + 1 + 1) by omega)
          have Xa_121 := Xa_109.kp hkp (show ¬ (w.heap.size = w.heap.size + 1 + 1) by omega)
          have Xb_122 := Xb_110.kp hkp (show ¬ (w.heap.size + 1 = w.heap.size + 1 + 1) by omega)
          have Xx_123 := Xx_111.kp hkp (show ¬ (gx = w.heap.size + 1 + 1) by omega)
          have Xy_124 := Xy_105.kp hkp (show ¬ (gy = w.heap.size + 1 + 1) by omega)
          have Op_125 := Op_112.kp hkp (fun g' e => awpR0 g' e)
          have Oq_126 := Oq_113.kp hkp (fun g' e => awqR0 g' e)
          have Or_127 := Or_114.kp hkp (fun g' e => awrR0 g' e)
          have Onx_128 := Onx_115.kp hkp (fun g' e => awnxR0 g' e)
          have Ony_129 := Ony_116.kp hkp (fun g' e => awnyR0 g' e)
          have hbel130 := hbel117.kp hkp (hbel117).size (fun k hk => (show ¬ (k = w.heap.size + 1 + 1) by omega))
          have hse130 := hkp.size
          clear L_106 R0_107 R1_108 Xa_109 Xb_110 Xx_111 Xy_105 Op_112 Oq_113 Or_114 Onx_115 Ony_116 hbel117 hkp
          generalize ((v109.setCell ⟨w.heap.size + 1 + 1, 0, none⟩ (Value.bool (decide (nx0 < 0)))).setCell ⟨w.heap.size + 1 + 1, 1, none⟩ (Value.slice nx nxn nxc)) = v110 at *
          have cL0_130 : _ = some (Value.bool (decide (r0 < 0))) := L_119.cell 0
          have fL0_130 := L_119.free 0
          have cL1_130 : _ = some (Value.slice p pn pc) := L_119.cell 1
          have fL1_130 := L_119.free 1
          have cL2_130 : _ = some (Value.bool (decide (x0 < 0))) := L_119.cell 2
          have fL2_130 := L_119.free 2
          have cL3_130 : _ = some (Value.slice q qn qc) := L_119.cell 3
          have fL3_130 := L_119.free 3
          have cL4_130 : _ = some (Value.bool (decide (y0 < 0))) := L_119.cell 4
          have fL4_130 := L_119.free 4
          have cL5_130 : _ = some (Value.slice r rn rc) := L_119.cell 5
          have fL5_130 := L_119.free 5
          have cR00_130 : _ = some (Value.bool (decide (nx0 < 0))) := R0_118.cell 0
          have fR00_130 := R0_118.free 0
          have cR01_130 : _ = some (Value.slice nx nxn nxc) := R0_118.cell 1
          have fR01_130 := R0_118.free 1
          have cR10_130 : _ = some (Value.bool false) := R1_120.cell 0
          have fR10_130 := R1_120.free 0
          have cR11_130 : _ = some (Value.slice none 0 0) := R1_120.cell 1
          have fR11_130 := R1_120.free 1
          have cXa0_130 : _ = some (Value.bool s) := Xa_121.cell 0
          have cXa1_130 : _ = some (Value.slice a n c) := Xa_121.cell 1
          have cXb0_130 : _ = some (Value.bool t) := Xb_122.cell 0
          have cXb1_130 : _ = some (Value.slice b m d) := Xb_122.cell 1
          have cXx0_130 : _ = some (Value.bool (decide (nx0 < 0))) := Xx_123.cell 0
          have fXx0_130 := Xx_123.free 0
          have cXx1_130 : _ = some (Value.slice nx nxn nxc) := Xx_123.cell 1
          have fXx1_130 := Xx_123.free 1
          have cXy0_130 : _ = some (Value.bool (decide (ny0 < 0))) := Xy_124.cell 0
          have fXy0_130 := Xy_124.free 0
          have cXy1_130 : _ = some (Value.slice ny nyn nyc) := Xy_124.cell 1
          have fXy1_130 := Xy_124.free 1
          clear cL0_130 fL0_130 cL1_130 fL1_130 cL2_130 fL2_130 cL3_130 fL3_130 cL4_130 fL4_130 cL5_130 fL5_130 cR00_130 fR00_130 cR01_130 fR01_130 cR10_130 fR10_130 cR11_130 fR11_130 cXa0_130 cXa1_130 cXb0_130 cXb1_130 cXx0_130 fXx0_130 cXx1_130 fXx1_130 cXy0_130 fXy0_130 cXy1_130 fXy1_130
          have hkp : Kp (fun k => k = w.heap.size + 1 + 1 + 1) v110 ((v110.setCell ⟨w.heap.size + 1 + 1 + 1, 0, none⟩ (Value.bool (decide (ny0 < 0)))).setCell ⟨w.heap.size + 1 + 1 + 1, 1, none⟩ (Value.slice ny nyn nyc)) := ((Kp.refl (fun k => k = w.heap.size + 1 + 1 + 1) v110).setCell rfl (Value.bool (decide (ny0 < 0)))).setCell rfl (Value.slice ny nyn nyc)
          have R1_131 := (show Blk _ _ #[Value.bool (decide (ny0 < 0)), Value.slice ny nyn nyc] from ((R1_120).setCell (i := 0) (v := Value.bool (decide (ny0 < 0))) (by simp)).setCell (i := 1) (v := Value.slice ny nyn nyc) (by simp))
          have L_132 := L_119.kp hkp (show ¬ (w3.heap.size = w.heap.size + 1 + 1 + 1) by omega)
          have R0_133 := R0_118.kp hkp (show ¬ (w.heap.size + 1 + 1 = w.heap.size + 1 + 1 + 1) by omega)
          have Xa_134 := Xa_121.kp hkp (show ¬ (w.heap.size = w.heap.size + 1 + 1 + 1) by omega)
          have Xb_135 := Xb_122.kp hkp (show ¬ (w.heap.size + 1 = w.heap.size + 1 + 1 + 1) by omega)
          have Xx_136 := Xx_123.kp hkp (show ¬ (gx = w.heap.size + 1 + 1 + 1) by omega)
          have Xy_137 := Xy_124.kp hkp (show ¬ (gy = w.heap.size + 1 + 1 + 1) by omega)
          have Op_138 := Op_125.kp hkp (fun g' e => awpR1 g' e)
          have Oq_139 := Oq_126.kp hkp (fun g' e => awqR1 g' e)
          have Or_140 := Or_127.kp hkp (fun g' e => awrR1 g' e)
          have Onx_141 := Onx_128.kp hkp (fun g' e => awnxR1 g' e)
          have Ony_142 := Ony_129.kp hkp (fun g' e => awnyR1 g' e)
          have hbel143 := hbel130.kp hkp (hbel130).size (fun k hk => (show ¬ (k = w.heap.size + 1 + 1 + 1) by omega))
          have hse143 := hkp.size
          clear L_119 R0_118 R1_120 Xa_121 Xb_122 Xx_123 Xy_124 Op_125 Oq_126 Or_127 Onx_128 Ony_129 hbel130 hkp
          generalize ((v110.setCell ⟨w.heap.size + 1 + 1 + 1, 0, none⟩ (Value.bool (decide (ny0 < 0)))).setCell ⟨w.heap.size + 1 + 1 + 1, 1, none⟩ (Value.slice ny nyn nyc)) = v111 at *
          have cL0_143 : _ = some (Value.bool (decide (r0 < 0))) := L_132.cell 0
          have fL0_143 := L_132.free 0
          have cL1_143 : _ = some (Value.slice p pn pc) := L_132.cell 1
          have fL1_143 := L_132.free 1
          have cL2_143 : _ = some (Value.bool (decide (x0 < 0))) := L_132.cell 2
          have fL2_143 := L_132.free 2
          have cL3_143 : _ = some (Value.slice q qn qc) := L_132.cell 3
          have fL3_143 := L_132.free 3
          have cL4_143 : _ = some (Value.bool (decide (y0 < 0))) := L_132.cell 4
          have fL4_143 := L_132.free 4
          have cL5_143 : _ = some (Value.slice r rn rc) := L_132.cell 5
          have fL5_143 := L_132.free 5
          have cR00_143 : _ = some (Value.bool (decide (nx0 < 0))) := R0_133.cell 0
          have fR00_143 := R0_133.free 0
          have cR01_143 : _ = some (Value.slice nx nxn nxc) := R0_133.cell 1
          have fR01_143 := R0_133.free 1
          have cR10_143 : _ = some (Value.bool (decide (ny0 < 0))) := R1_131.cell 0
          have fR10_143 := R1_131.free 0
          have cR11_143 : _ = some (Value.slice ny nyn nyc) := R1_131.cell 1
          have fR11_143 := R1_131.free 1
          have cXa0_143 : _ = some (Value.bool s) := Xa_134.cell 0
          have cXa1_143 : _ = some (Value.slice a n c) := Xa_134.cell 1
          have cXb0_143 : _ = some (Value.bool t) := Xb_135.cell 0
          have cXb1_143 : _ = some (Value.slice b m d) := Xb_135.cell 1
          have cXx0_143 : _ = some (Value.bool (decide (nx0 < 0))) := Xx_136.cell 0
          have fXx0_143 := Xx_136.free 0
          have cXx1_143 : _ = some (Value.slice nx nxn nxc) := Xx_136.cell 1
          have fXx1_143 := Xx_136.free 1
          have cXy0_143 : _ = some (Value.bool (decide (ny0 < 0))) := Xy_137.cell 0
          have fXy0_143 := Xy_137.free 0
          have cXy1_143 : _ = some (Value.slice ny nyn nyc) := Xy_137.cell 1
          have fXy1_143 := Xy_137.free 1
          go_wp2
          refine bodyPost_ret (v := .tuple #[.slice p pn pc, .agg #[.bool (decide (nx0 < 0)), .slice nx nxn nxc], .agg #[.bool (decide (ny0 < 0)), .slice ny nyn nyc]]) (by simp [results, Try.results67, go_sem, cR00_143, cR01_143, cR10_143, cR11_143]) rfl ?_
          rw [← E1.out, ← E2.out, ← E3.out, HBA.out, HBB.out]
          exact ⟨p, pn, pc, nx, nxn, nxc, ny, nyn, nyc, rfl, Op_138.mono (by omega), Onx_141.mono (by omega), Ony_142.mono (by omega), dfpnx, dfpny, dfnxny, ⟨hbel143.os, hbel143.tape, hbel143.output, hbel143.size, hbel143.block⟩⟩
        · skip
          obtain ⟨nx0, hnx0⟩ : ∃ z, z = -x0 := ⟨_, rfl⟩
          have HNx0 := hid hnx0
          clear hnx0
          have hba : bzS za x0 = nx0 := (if_pos hzaS).trans HNx0.out.symm
          have hbb : bzS zb y0 = y0 := if_neg (by omega)
          have HBA := hid hba
          have HBB := hid hbb
          clear hba hbb
          generalize hsa : sgn za = ga at HSA
          generalize hsb : sgn zb = gb at HSB
          have hsa' : ga = -1 := by have := sgn_cases za; omega
          have hsb' : 0 ≤ gb ∧ gb ≤ 1 := by have := sgn_cases zb; omega
          clear hsa hsb hzaS hzbS
          subst hsa'
          have dgb : decide (gb < 0) = false := decide_eq_false (by omega)
          have hRA0 : Rd v102 a n c la := ha.below hbelF
          have hRA1 : Rd v102.drew a n c la := hRA0
          go_wp2_with fail
          refine (HSA.out _ (by first | exact hRA0 | exact hRA1)).mono ?_
          rintro e w104 ⟨rfl, hB⟩
          clear cL0_44 fL0_44 cL1_44 fL1_44 cL2_44 fL2_44 cL3_44 fL3_44 cL4_44 fL4_44 cL5_44 fL5_44 cR00_44 fR00_44 cR01_44 fR01_44 cR10_44 fR10_44 cR11_44 fR11_44 cXa0_44 cXa1_44 cXb0_44 cXb1_44 cXx0_44 fXx0_44 cXx1_44 fXx1_44 cXy0_44 fXy0_44 cXy1_44 fXy1_44
          have hstep : Below v102.heap.size v102 w104 := (by first | exact hB | exact below_drew hB)
          have L_45 := L_F.next hstep
          have R0_46 := R0_F.next hstep
          have R1_47 := R1_F.next hstep
          have Xa_48 := Xa_F.next hstep
          have Xb_49 := Xb_F.next hstep
          have Xx_50 := Xx_F.next hstep
          have Xy_51 := Xy_F.next hstep
          have Op_52 := Op_F.below hstep
          have Oq_53 := Oq_F.below hstep
          have Or_54 := Or_F.below hstep
          have hbel55 := hbelF.next hstep
          have hle55 := hbel55.size
          have hls55 := hstep.size
          clear L_F R0_F R1_F Xa_F Xb_F Xx_F Xy_F Op_F Oq_F Or_F hbelF hstep
          have cL0_55 : _ = some (Value.bool (decide (r0 < 0))) := L_45.cell 0
          have fL0_55 := L_45.free 0
          have cL1_55 : _ = some (Value.slice p pn pc) := L_45.cell 1
          have fL1_55 := L_45.free 1
          have cL2_55 : _ = some (Value.bool (decide (x0 < 0))) := L_45.cell 2
          have fL2_55 := L_45.free 2
          have cL3_55 : _ = some (Value.slice q qn qc) := L_45.cell 3
          have fL3_55 := L_45.free 3
          have cL4_55 : _ = some (Value.bool (decide (y0 < 0))) := L_45.cell 4
          have fL4_55 := L_45.free 4
          have cL5_55 : _ = some (Value.slice r rn rc) := L_45.cell 5
          have fL5_55 := L_45.free 5
          have cR00_55 : _ = some (Value.bool false) := R0_46.cell 0
          have fR00_55 := R0_46.free 0
          have cR01_55 : _ = some (Value.slice none 0 0) := R0_46.cell 1
          have fR01_55 := R0_46.free 1
          have cR10_55 : _ = some (Value.bool false) := R1_47.cell 0
          have fR10_55 := R1_47.free 0
          have cR11_55 : _ = some (Value.slice none 0 0) := R1_47.cell 1
          have fR11_55 := R1_47.free 1
          have cXa0_55 : _ = some (Value.bool s) := Xa_48.cell 0
          have cXa1_55 : _ = some (Value.slice a n c) := Xa_48.cell 1
          have cXb0_55 : _ = some (Value.bool t) := Xb_49.cell 0
          have cXb1_55 : _ = some (Value.slice b m d) := Xb_49.cell 1
          have cXx0_55 : _ = some (Value.bool (decide (x0 < 0))) := Xx_50.cell 0
          have fXx0_55 := Xx_50.free 0
          have cXx1_55 : _ = some (Value.slice q qn qc) := Xx_50.cell 1
          have fXx1_55 := Xx_50.free 1
          have cXy0_55 : _ = some (Value.bool (decide (y0 < 0))) := Xy_51.cell 0
          have fXy0_55 := Xy_51.free 0
          have cXy1_55 : _ = some (Value.slice r rn rc) := Xy_51.cell 1
          have fXy1_55 := Xy_51.free 1
          clear hRA0 hRA1
          go_wp2_with fail
          refine (znegI Oq_53.rd (by omega) HNx0.out).mono ?_
          rintro e w105 ⟨nx, nxn, nxc, rfl, hO, hB⟩
          clear cL0_55 fL0_55 cL1_55 fL1_55 cL2_55 fL2_55 cL3_55 fL3_55 cL4_55 fL4_55 cL5_55 fL5_55 cR00_55 fR00_55 cR01_55 fR01_55 cR10_55 fR10_55 cR11_55 fR11_55 cXa0_55 cXa1_55 cXb0_55 cXb1_55 cXx0_55 fXx0_55 cXx1_55 fXx1_55 cXy0_55 fXy0_55 cXy1_55 fXy1_55
          have hstep : Below w104.heap.size w104 w105 := (by first | exact hB | exact below_drew hB)
          have L_56 := L_45.next hstep
          have R0_57 := R0_46.next hstep
          have R1_58 := R1_47.next hstep
          have Xa_59 := Xa_48.next hstep
          have Xb_60 := Xb_49.next hstep
          have Xx_61 := Xx_50.next hstep
          have Xy_62 := Xy_51.next hstep
          have Op_63 := Op_52.below hstep
          have Oq_64 := Oq_53.below hstep
          have Or_65 := Or_54.below hstep
          have hbel66 := hbel55.next hstep
          have hle66 := hbel66.size
          have hls66 := hstep.size
          clear L_45 R0_46 R1_47 Xa_48 Xb_49 Xx_50 Xy_51 Op_52 Oq_53 Or_54 hbel55 hstep
          have cL0_66 : _ = some (Value.bool (decide (r0 < 0))) := L_56.cell 0
          have fL0_66 := L_56.free 0
          have cL1_66 : _ = some (Value.slice p pn pc) := L_56.cell 1
          have fL1_66 := L_56.free 1
          have cL2_66 : _ = some (Value.bool (decide (x0 < 0))) := L_56.cell 2
          have fL2_66 := L_56.free 2
          have cL3_66 : _ = some (Value.slice q qn qc) := L_56.cell 3
          have fL3_66 := L_56.free 3
          have cL4_66 : _ = some (Value.bool (decide (y0 < 0))) := L_56.cell 4
          have fL4_66 := L_56.free 4
          have cL5_66 : _ = some (Value.slice r rn rc) := L_56.cell 5
          have fL5_66 := L_56.free 5
          have cR00_66 : _ = some (Value.bool false) := R0_57.cell 0
          have fR00_66 := R0_57.free 0
          have cR01_66 : _ = some (Value.slice none 0 0) := R0_57.cell 1
          have fR01_66 := R0_57.free 1
          have cR10_66 : _ = some (Value.bool false) := R1_58.cell 0
          have fR10_66 := R1_58.free 0
          have cR11_66 : _ = some (Value.slice none 0 0) := R1_58.cell 1
          have fR11_66 := R1_58.free 1
          have cXa0_66 : _ = some (Value.bool s) := Xa_59.cell 0
          have cXa1_66 : _ = some (Value.slice a n c) := Xa_59.cell 1
          have cXb0_66 : _ = some (Value.bool t) := Xb_60.cell 0
          have cXb1_66 : _ = some (Value.slice b m d) := Xb_60.cell 1
          have cXx0_66 : _ = some (Value.bool (decide (x0 < 0))) := Xx_61.cell 0
          have fXx0_66 := Xx_61.free 0
          have cXx1_66 : _ = some (Value.slice q qn qc) := Xx_61.cell 1
          have fXx1_66 := Xx_61.free 1
          have cXy0_66 : _ = some (Value.bool (decide (y0 < 0))) := Xy_62.cell 0
          have fXy0_66 := Xy_62.free 0
          have cXy1_66 : _ = some (Value.slice r rn rc) := Xy_62.cell 1
          have fXy1_66 := Xy_62.free 1
          have Onx_67 := hO
          have ltnx := hO.ltOf
          have awnxXx : Aw nx (gx) := hO.awNew (by omega)
          have awnxXy : Aw nx (gy) := hO.awNew (by omega)
          have dfpnx : Diff p nx := ltp.diff hO (by omega)
          have dfnxr : Diff nx r := (ltr.diff hO (by omega)).symm
          clear hO
          go_wp2_with fail
          clear cL0_66 fL0_66 cL1_66 fL1_66 cL2_66 fL2_66 cL3_66 fL3_66 cL4_66 fL4_66 cL5_66 fL5_66 cR00_66 fR00_66 cR01_66 fR01_66 cR10_66 fR10_66 cR11_66 fR11_66 cXa0_66 cXa1_66 cXb0_66 cXb1_66 cXx0_66 fXx0_66 cXx1_66 fXx1_66 cXy0_66 fXy0_66 cXy1_66 fXy1_66
          have hkp : Kp (fun k => k = gx) w105 ((w105.setCell ⟨gx, 0, none⟩ (Value.bool (decide (nx0 < 0)))).setCell ⟨gx, 1, none⟩ (Value.slice nx nxn nxc)) := ((Kp.refl (fun k => k = gx) w105).setCell rfl (Value.bool (decide (nx0 < 0)))).setCell rfl (Value.slice nx nxn nxc)
          have Xx_68 := (show Blk _ _ #[Value.bool (decide (nx0 < 0)), Value.slice nx nxn nxc] from ((Xx_61).setCell (i := 0) (v := Value.bool (decide (nx0 < 0))) (by simp)).setCell (i := 1) (v := Value.slice nx nxn nxc) (by simp))
          have L_69 := L_56.kp hkp (show ¬ (w3.heap.size = gx) by omega)
          have R0_70 := R0_57.kp hkp (show ¬ (w.heap.size + 1 + 1 = gx) by omega)
          have R1_71 := R1_58.kp hkp (show ¬ (w.heap.size + 1 + 1 + 1 = gx) by omega)
          have Xa_72 := Xa_59.kp hkp (show ¬ (w.heap.size = gx) by omega)
          have Xb_73 := Xb_60.kp hkp (show ¬ (w.heap.size + 1 = gx) by omega)
          have Xy_74 := Xy_62.kp hkp (show ¬ (gy = gx) by omega)
          have Op_75 := Op_63.kp hkp (fun g' e => awpXx g' e)
          have Oq_76 := Oq_64.kp hkp (fun g' e => awqXx g' e)
          have Or_77 := Or_65.kp hkp (fun g' e => awrXx g' e)
          have Onx_78 := Onx_67.kp hkp (fun g' e => awnxXx g' e)
          have hbel79 := hbel66.kp hkp (hbel66).size (fun k hk => (show ¬ (k = gx) by omega))
          have hse79 := hkp.size
          clear L_56 R0_57 R1_58 Xa_59 Xb_60 Xx_61 Xy_62 Op_63 Oq_64 Or_65 Onx_67 hbel66 hkp
          generalize ((w105.setCell ⟨gx, 0, none⟩ (Value.bool (decide (nx0 < 0)))).setCell ⟨gx, 1, none⟩ (Value.slice nx nxn nxc)) = v106 at *
          have cL0_79 : _ = some (Value.bool (decide (r0 < 0))) := L_69.cell 0
          have fL0_79 := L_69.free 0
          have cL1_79 : _ = some (Value.slice p pn pc) := L_69.cell 1
          have fL1_79 := L_69.free 1
          have cL2_79 : _ = some (Value.bool (decide (x0 < 0))) := L_69.cell 2
          have fL2_79 := L_69.free 2
          have cL3_79 : _ = some (Value.slice q qn qc) := L_69.cell 3
          have fL3_79 := L_69.free 3
          have cL4_79 : _ = some (Value.bool (decide (y0 < 0))) := L_69.cell 4
          have fL4_79 := L_69.free 4
          have cL5_79 : _ = some (Value.slice r rn rc) := L_69.cell 5
          have fL5_79 := L_69.free 5
          have cR00_79 : _ = some (Value.bool false) := R0_70.cell 0
          have fR00_79 := R0_70.free 0
          have cR01_79 : _ = some (Value.slice none 0 0) := R0_70.cell 1
          have fR01_79 := R0_70.free 1
          have cR10_79 : _ = some (Value.bool false) := R1_71.cell 0
          have fR10_79 := R1_71.free 0
          have cR11_79 : _ = some (Value.slice none 0 0) := R1_71.cell 1
          have fR11_79 := R1_71.free 1
          have cXa0_79 : _ = some (Value.bool s) := Xa_72.cell 0
          have cXa1_79 : _ = some (Value.slice a n c) := Xa_72.cell 1
          have cXb0_79 : _ = some (Value.bool t) := Xb_73.cell 0
          have cXb1_79 : _ = some (Value.slice b m d) := Xb_73.cell 1
          have cXx0_79 : _ = some (Value.bool (decide (nx0 < 0))) := Xx_68.cell 0
          have fXx0_79 := Xx_68.free 0
          have cXx1_79 : _ = some (Value.slice nx nxn nxc) := Xx_68.cell 1
          have fXx1_79 := Xx_68.free 1
          have cXy0_79 : _ = some (Value.bool (decide (y0 < 0))) := Xy_74.cell 0
          have fXy0_79 := Xy_74.free 0
          have cXy1_79 : _ = some (Value.slice r rn rc) := Xy_74.cell 1
          have fXy1_79 := Xy_74.free 1
          go_wp2_with fail
          refine (HSB.out _ (hb.below hbel79)).mono ?_
          rintro e w107 ⟨rfl, hB⟩
          clear cL0_79 fL0_79 cL1_79 fL1_79 cL2_79 fL2_79 cL3_79 fL3_79 cL4_79 fL4_79 cL5_79 fL5_79 cR00_79 fR00_79 cR01_79 fR01_79 cR10_79 fR10_79 cR11_79 fR11_79 cXa0_79 cXa1_79 cXb0_79 cXb1_79 cXx0_79 fXx0_79 cXx1_79 fXx1_79 cXy0_79 fXy0_79 cXy1_79 fXy1_79
          have hstep : Below v106.heap.size v106 w107 := (by first | exact hB | exact below_drew hB)
          have L_80 := L_69.next hstep
          have R0_81 := R0_70.next hstep
          have R1_82 := R1_71.next hstep
          have Xa_83 := Xa_72.next hstep
          have Xb_84 := Xb_73.next hstep
          have Xx_85 := Xx_68.next hstep
          have Xy_86 := Xy_74.next hstep
          have Op_87 := Op_75.below hstep
          have Oq_88 := Oq_76.below hstep
          have Or_89 := Or_77.below hstep
          have Onx_90 := Onx_78.below hstep
          have hbel91 := hbel79.next hstep
          have hle91 := hbel91.size
          have hls91 := hstep.size
          clear L_69 R0_70 R1_71 Xa_72 Xb_73 Xx_68 Xy_74 Op_75 Oq_76 Or_77 Onx_78 hbel79 hstep
          have cL0_91 : _ = some (Value.bool (decide (r0 < 0))) := L_80.cell 0
          have fL0_91 := L_80.free 0
          have cL1_91 : _ = some (Value.slice p pn pc) := L_80.cell 1
          have fL1_91 := L_80.free 1
          have cL2_91 : _ = some (Value.bool (decide (x0 < 0))) := L_80.cell 2
          have fL2_91 := L_80.free 2
          have cL3_91 : _ = some (Value.slice q qn qc) := L_80.cell 3
          have fL3_91 := L_80.free 3
          have cL4_91 : _ = some (Value.bool (decide (y0 < 0))) := L_80.cell 4
          have fL4_91 := L_80.free 4
          have cL5_91 : _ = some (Value.slice r rn rc) := L_80.cell 5
          have fL5_91 := L_80.free 5
          have cR00_91 : _ = some (Value.bool false) := R0_81.cell 0
          have fR00_91 := R0_81.free 0
          have cR01_91 : _ = some (Value.slice none 0 0) := R0_81.cell 1
          have fR01_91 := R0_81.free 1
          have cR10_91 : _ = some (Value.bool false) := R1_82.cell 0
          have fR10_91 := R1_82.free 0
          have cR11_91 : _ = some (Value.slice none 0 0) := R1_82.cell 1
          have fR11_91 := R1_82.free 1
          have cXa0_91 : _ = some (Value.bool s) := Xa_83.cell 0
          have cXa1_91 : _ = some (Value.slice a n c) := Xa_83.cell 1
          have cXb0_91 : _ = some (Value.bool t) := Xb_84.cell 0
          have cXb1_91 : _ = some (Value.slice b m d) := Xb_84.cell 1
          have cXx0_91 : _ = some (Value.bool (decide (nx0 < 0))) := Xx_85.cell 0
          have fXx0_91 := Xx_85.free 0
          have cXx1_91 : _ = some (Value.slice nx nxn nxc) := Xx_85.cell 1
          have fXx1_91 := Xx_85.free 1
          have cXy0_91 : _ = some (Value.bool (decide (y0 < 0))) := Xy_86.cell 0
          have fXy0_91 := Xy_86.free 0
          have cXy1_91 : _ = some (Value.slice r rn rc) := Xy_86.cell 1
          have fXy1_91 := Xy_86.free 1
          go_wp2_with fail
          go_region
          have awpR0 : Aw p (w.heap.size + 1 + 1) := (Op_87.mono (B' := W0.heap.size) (by omega)).awNew (by omega)
          have awqR0 : Aw q (w.heap.size + 1 + 1) := (Oq_88.mono (B' := W0.heap.size) (by omega)).awNew (by omega)
          have awrR0 : Aw r (w.heap.size + 1 + 1) := (Or_89.mono (B' := W0.heap.size) (by omega)).awNew (by omega)
          have awnxR0 : Aw nx (w.heap.size + 1 + 1) := (Onx_90.mono (B' := W0.heap.size) (by omega)).awNew (by omega)
          have awpR1 : Aw p (w.heap.size + 1 + 1 + 1) := (Op_87.mono (B' := W0.heap.size) (by omega)).awNew (by omega)
          have awqR1 : Aw q (w.heap.size + 1 + 1 + 1) := (Oq_88.mono (B' := W0.heap.size) (by omega)).awNew (by omega)
          have awrR1 : Aw r (w.heap.size + 1 + 1 + 1) := (Or_89.mono (B' := W0.heap.size) (by omega)).awNew (by omega)
          have awnxR1 : Aw nx (w.heap.size + 1 + 1 + 1) := (Onx_90.mono (B' := W0.heap.size) (by omega)).awNew (by omega)
          clear cL0_91 fL0_91 cL1_91 fL1_91 cL2_91 fL2_91 cL3_91 fL3_91 cL4_91 fL4_91 cL5_91 fL5_91 cR00_91 fR00_91 cR01_91 fR01_91 cR10_91 fR10_91 cR11_91 fR11_91 cXa0_91 cXa1_91 cXb0_91 cXb1_91 cXx0_91 fXx0_91 cXx1_91 fXx1_91 cXy0_91 fXy0_91 cXy1_91 fXy1_91
          have hkp : Kp (fun k => k = w.heap.size + 1 + 1) w107 ((w107.setCell ⟨w.heap.size + 1 + 1, 0, none⟩ (Value.bool (decide (nx0 < 0)))).setCell ⟨w.heap.size + 1 + 1, 1, none⟩ (Value.slice nx nxn nxc)) := ((Kp.refl (fun k => k = w.heap.size + 1 + 1) w107).setCell rfl (Value.bool (decide (nx0 < 0)))).setCell rfl (Value.slice nx nxn nxc)
          have R0_92 := (show Blk _ _ #[Value.bool (decide (nx0 < 0)), Value.slice nx nxn nxc] from ((R0_81).setCell (i := 0) (v := Value.bool (decide (nx0 < 0))) (by simp)).setCell (i := 1) (v := Value.slice nx nxn nxc) (by simp))
          have L_93 := L_80.kp hkp (show ¬ (w3.heap.size = w.heap.size + 1 + 1) by omega)
          have R1_94 := R1_82.kp hkp (show ¬ (w.heap.size + 1 + 1 + 1 = w.heap.size + 1 + 1) by omega)
          have Xa_95 := Xa_83.kp hkp (show ¬ (w.heap.size = w.heap.size + 1 + 1) by omega)
          have Xb_96 := Xb_84.kp hkp (show ¬ (w.heap.size + 1 = w.heap.size + 1 + 1) by omega)
          have Xx_97 := Xx_85.kp hkp (show ¬ (gx = w.heap.size + 1 + 1) by omega)
          have Xy_98 := Xy_86.kp hkp (show ¬ (gy = w.heap.size + 1 + 1) by omega)
          have Op_99 := Op_87.kp hkp (fun g' e => awpR0 g' e)
          have Oq_100 := Oq_88.kp hkp (fun g' e => awqR0 g' e)
          have Or_101 := Or_89.kp hkp (fun g' e => awrR0 g' e)
          have Onx_102 := Onx_90.kp hkp (fun g' e => awnxR0 g' e)
          have hbel103 := hbel91.kp hkp (hbel91).size (fun k hk => (show ¬ (k = w.heap.size + 1 + 1) by omega))
          have hse103 := hkp.size
          clear L_80 R0_81 R1_82 Xa_83 Xb_84 Xx_85 Xy_86 Op_87 Oq_88 Or_89 Onx_90 hbel91 hkp
          generalize ((w107.setCell ⟨w.heap.size + 1 + 1, 0, none⟩ (Value.bool (decide (nx0 < 0)))).setCell ⟨w.heap.size + 1 + 1, 1, none⟩ (Value.slice nx nxn nxc)) = v108 at *
          have cL0_103 : _ = some (Value.bool (decide (r0 < 0))) := L_93.cell 0
          have fL0_103 := L_93.free 0
          have cL1_103 : _ = some (Value.slice p pn pc) := L_93.cell 1
          have fL1_103 := L_93.free 1
          have cL2_103 : _ = some (Value.bool (decide (x0 < 0))) := L_93.cell 2
          have fL2_103 := L_93.free 2
          have cL3_103 : _ = some (Value.slice q qn qc) := L_93.cell 3
          have fL3_103 := L_93.free 3
          have cL4_103 : _ = some (Value.bool (decide (y0 < 0))) := L_93.cell 4
          have fL4_103 := L_93.free 4
          have cL5_103 : _ = some (Value.slice r rn rc) := L_93.cell 5
          have fL5_103 := L_93.free 5
          have cR00_103 : _ = some (Value.bool (decide (nx0 < 0))) := R0_92.cell 0
          have fR00_103 := R0_92.free 0
          have cR01_103 : _ = some (Value.slice nx nxn nxc) := R0_92.cell 1
          have fR01_103 := R0_92.free 1
          have cR10_103 : _ = some (Value.bool false) := R1_94.cell 0
          have fR10_103 := R1_94.free 0
          have cR11_103 : _ = some (Value.slice none 0 0) := R1_94.cell 1
          have fR11_103 := R1_94.free 1
          have cXa0_103 : _ = some (Value.bool s) := Xa_95.cell 0
          have cXa1_103 : _ = some (Value.slice a n c) := Xa_95.cell 1
          have cXb0_103 : _ = some (Value.bool t) := Xb_96.cell 0
          have cXb1_103 : _ = some (Value.slice b m d) := Xb_96.cell 1
          have cXx0_103 : _ = some (Value.bool (decide (nx0 < 0))) := Xx_97.cell 0
          have fXx0_103 := Xx_97.free 0
          have cXx1_103 : _ = some (Value.slice nx nxn nxc) := Xx_97.cell 1
          have fXx1_103 := Xx_97.free 1
          have cXy0_103 : _ = some (Value.bool (decide (y0 < 0))) := Xy_98.cell 0
          have fXy0_103 := Xy_98.free 0
          have cXy1_103 : _ = some (Value.slice r rn rc) := Xy_98.cell 1
          have fXy1_103 := Xy_98.free 1
          clear cL0_103 fL0_103 cL1_103 fL1_103 cL2_103 fL2_103 cL3_103 fL3_103 cL4_103 fL4_103 cL5_103 fL5_103 cR00_103 fR00_103 cR01_103 fR01_103 cR10_103 fR10_103 cR11_103 fR11_103 cXa0_103 cXa1_103 cXb0_103 cXb1_103 cXx0_103 fXx0_103 cXx1_103 fXx1_103 cXy0_103 fXy0_103 cXy1_103 fXy1_103
          have hkp : Kp (fun k => k = w.heap.size + 1 + 1 + 1) v108 ((v108.setCell ⟨w.heap.size + 1 + 1 + 1, 0, none⟩ (Value.bool (decide (y0 < 0)))).setCell ⟨w.heap.size + 1 + 1 + 1, 1, none⟩ (Value.slice r rn rc)) := ((Kp.refl (fun k => k = w.heap.size + 1 + 1 + 1) v108).setCell rfl (Value.bool (decide (y0 < 0)))).setCell rfl (Value.slice r rn rc)
          have R1_104 := (show Blk _ _ #[Value.bool (decide (y0 < 0)), Value.slice r rn rc] from ((R1_94).setCell (i := 0) (v := Value.bool (decide (y0 < 0))) (by simp)).setCell (i := 1) (v := Value.slice r rn rc) (by simp))
          have L_105 := L_93.kp hkp (show ¬ (w3.heap.size = w.heap.size + 1 + 1 + 1) by omega)
          have R0_106 := R0_92.kp hkp (show ¬ (w.heap.size + 1 + 1 = w.heap.size + 1 + 1 + 1) by omega)
          have Xa_107 := Xa_95.kp hkp (show ¬ (w.heap.size = w.heap.size + 1 + 1 + 1) by omega)
          have Xb_108 := Xb_96.kp hkp (show ¬ (w.heap.size + 1 = w.heap.size + 1 + 1 + 1) by omega)
          have Xx_109 := Xx_97.kp hkp (show ¬ (gx = w.heap.size + 1 + 1 + 1) by omega)
          have Xy_110 := Xy_98.kp hkp (show ¬ (gy = w.heap.size + 1 + 1 + 1) by omega)
          have Op_111 := Op_99.kp hkp (fun g' e => awpR1 g' e)
          have Oq_112 := Oq_100.kp hkp (fun g' e => awqR1 g' e)
          have Or_113 := Or_101.kp hkp (fun g' e => awrR1 g' e)
          have Onx_114 := Onx_102.kp hkp (fun g' e => awnxR1 g' e)
          have hbel115 := hbel103.kp hkp (hbel103).size (fun k hk => (show ¬ (k = w.heap.size + 1 + 1 + 1) by omega))
          have hse115 := hkp.size
          clear L_93 R0_92 R1_94 Xa_95 Xb_96 Xx_97 Xy_98 Op_99 Oq_100 Or_101 Onx_102 hbel103 hkp
          generalize ((v108.setCell ⟨w.heap.size + 1 + 1 + 1, 0, none⟩ (Value.bool (decide (y0 < 0)))).setCell ⟨w.heap.size + 1 + 1 + 1, 1, none⟩ (Value.slice r rn rc)) = v109 at *
          have cL0_115 : _ = some (Value.bool (decide (r0 < 0))) := L_105.cell 0
          have fL0_115 := L_105.free 0
          have cL1_115 : _ = some (Value.slice p pn pc) := L_105.cell 1
          have fL1_115 := L_105.free 1
          have cL2_115 : _ = some (Value.bool (decide (x0 < 0))) := L_105.cell 2
          have fL2_115 := L_105.free 2
          have cL3_115 : _ = some (Value.slice q qn qc) := L_105.cell 3
          have fL3_115 := L_105.free 3
          have cL4_115 : _ = some (Value.bool (decide (y0 < 0))) := L_105.cell 4
          have fL4_115 := L_105.free 4
          have cL5_115 : _ = some (Value.slice r rn rc) := L_105.cell 5
          have fL5_115 := L_105.free 5
          have cR00_115 : _ = some (Value.bool (decide (nx0 < 0))) := R0_106.cell 0
          have fR00_115 := R0_106.free 0
          have cR01_115 : _ = some (Value.slice nx nxn nxc) := R0_106.cell 1
          have fR01_115 := R0_106.free 1
          have cR10_115 : _ = some (Value.bool (decide (y0 < 0))) := R1_104.cell 0
          have fR10_115 := R1_104.free 0
          have cR11_115 : _ = some (Value.slice r rn rc) := R1_104.cell 1
          have fR11_115 := R1_104.free 1
          have cXa0_115 : _ = some (Value.bool s) := Xa_107.cell 0
          have cXa1_115 : _ = some (Value.slice a n c) := Xa_107.cell 1
          have cXb0_115 : _ = some (Value.bool t) := Xb_108.cell 0
          have cXb1_115 : _ = some (Value.slice b m d) := Xb_108.cell 1
          have cXx0_115 : _ = some (Value.bool (decide (nx0 < 0))) := Xx_109.cell 0
          have fXx0_115 := Xx_109.free 0
          have cXx1_115 : _ = some (Value.slice nx nxn nxc) := Xx_109.cell 1
          have fXx1_115 := Xx_109.free 1
          have cXy0_115 : _ = some (Value.bool (decide (y0 < 0))) := Xy_110.cell 0
          have fXy0_115 := Xy_110.free 0
          have cXy1_115 : _ = some (Value.slice r rn rc) := Xy_110.cell 1
          have fXy1_115 := Xy_110.free 1
          go_wp2
          refine bodyPost_ret (v := .tuple #[.slice p pn pc, .agg #[.bool (decide (nx0 < 0)), .slice nx nxn nxc], .agg #[.bool (decide (y0 < 0)), .slice r rn rc]]) (by simp [results, Try.results67, go_sem, cR00_115, cR01_115, cR10_115, cR11_115]) rfl ?_
          rw [← E1.out, ← E2.out, ← E3.out, HBA.out, HBB.out]
          exact ⟨p, pn, pc, nx, nxn, nxc, r, rn, rc, rfl, Op_111.mono (by omega), Onx_114.mono (by omega), Or_113.mono (by omega), dfpnx, dfpr, dfnxr, ⟨hbel115.os, hbel115.tape, hbel115.output, hbel115.size, hbel115.block⟩⟩
        · skip
          obtain ⟨ny0, hny0⟩ : ∃ z, z = -y0 := ⟨_, rfl⟩
          have HNy0 := hid hny0
          clear hny0
          have hba : bzS za x0 = x0 := if_neg (by omega)
          have hbb : bzS zb y0 = ny0 := (if_pos hzbS).trans HNy0.out.symm
          have HBA := hid hba
          have HBB := hid hbb
          clear hba hbb
          generalize hsa : sgn za = ga at HSA
          generalize hsb : sgn zb = gb at HSB
          have hsa' : 0 ≤ ga ∧ ga ≤ 1 := by have := sgn_cases za; omega
          have hsb' : gb = -1 := by have := sgn_cases zb; omega
          clear hsa hsb hzaS hzbS
          have dga : decide (ga < 0) = false := decide_eq_false (by omega)
          subst hsb'
          have hRA0 : Rd v102 a n c la := ha.below hbelF
          have hRA1 : Rd v102.drew a n c la := hRA0
          go_wp2_with fail
          refine (HSA.out _ (by first | exact hRA0 | exact hRA1)).mono ?_
          rintro e w104 ⟨rfl, hB⟩
          clear cL0_44 fL0_44 cL1_44 fL1_44 cL2_44 fL2_44 cL3_44 fL3_44 cL4_44 fL4_44 cL5_44 fL5_44 cR00_44 fR00_44 cR01_44 fR01_44 cR10_44 fR10_44 cR11_44 fR11_44 cXa0_44 cXa1_44 cXb0_44 cXb1_44 cXx0_44 fXx0_44 cXx1_44 fXx1_44 cXy0_44 fXy0_44 cXy1_44 fXy1_44
          have hstep : Below v102.heap.size v102 w104 := (by first | exact hB | exact below_drew hB)
          have L_45 := L_F.next hstep
          have R0_46 := R0_F.next hstep
          have R1_47 := R1_F.next hstep
          have Xa_48 := Xa_F.next hstep
          have Xb_49 := Xb_F.next hstep
          have Xx_50 := Xx_F.next hstep
          have Xy_51 := Xy_F.next hstep
          have Op_52 := Op_F.below hstep
          have Oq_53 := Oq_F.below hstep
          have Or_54 := Or_F.below hstep
          have hbel55 := hbelF.next hstep
          have hle55 := hbel55.size
          have hls55 := hstep.size
          clear L_F R0_F R1_F Xa_F Xb_F Xx_F Xy_F Op_F Oq_F Or_F hbelF hstep
          have cL0_55 : _ = some (Value.bool (decide (r0 < 0))) := L_45.cell 0
          have fL0_55 := L_45.free 0
          have cL1_55 : _ = some (Value.slice p pn pc) := L_45.cell 1
          have fL1_55 := L_45.free 1
          have cL2_55 : _ = some (Value.bool (decide (x0 < 0))) := L_45.cell 2
          have fL2_55 := L_45.free 2
          have cL3_55 : _ = some (Value.slice q qn qc) := L_45.cell 3
          have fL3_55 := L_45.free 3
          have cL4_55 : _ = some (Value.bool (decide (y0 < 0))) := L_45.cell 4
          have fL4_55 := L_45.free 4
          have cL5_55 : _ = some (Value.slice r rn rc) := L_45.cell 5
          have fL5_55 := L_45.free 5
          have cR00_55 : _ = some (Value.bool false) := R0_46.cell 0
          have fR00_55 := R0_46.free 0
          have cR01_55 : _ = some (Value.slice none 0 0) := R0_46.cell 1
          have fR01_55 := R0_46.free 1
          have cR10_55 : _ = some (Value.bool false) := R1_47.cell 0
          have fR10_55 := R1_47.free 0
          have cR11_55 : _ = some (Value.slice none 0 0) := R1_47.cell 1
          have fR11_55 := R1_47.free 1
          have cXa0_55 : _ = some (Value.bool s) := Xa_48.cell 0
          have cXa1_55 : _ = some (Value.slice a n c) := Xa_48.cell 1
          have cXb0_55 : _ = some (Value.bool t) := Xb_49.cell 0
          have cXb1_55 : _ = some (Value.slice b m d) := Xb_49.cell 1
          have cXx0_55 : _ = some (Value.bool (decide (x0 < 0))) := Xx_50.cell 0
          have fXx0_55 := Xx_50.free 0
          have cXx1_55 : _ = some (Value.slice q qn qc) := Xx_50.cell 1
          have fXx1_55 := Xx_50.free 1
          have cXy0_55 : _ = some (Value.bool (decide (y0 < 0))) := Xy_51.cell 0
          have fXy0_55 := Xy_51.free 0
          have cXy1_55 : _ = some (Value.slice r rn rc) := Xy_51.cell 1
          have fXy1_55 := Xy_51.free 1
          clear hRA0 hRA1
          go_wp2_with fail
          refine (HSB.out _ (hb.below hbel55)).mono ?_
          rintro e w105 ⟨rfl, hB⟩
          clear cL0_55 fL0_55 cL1_55 fL1_55 cL2_55 fL2_55 cL3_55 fL3_55 cL4_55 fL4_55 cL5_55 fL5_55 cR00_55 fR00_55 cR01_55 fR01_55 cR10_55 fR10_55 cR11_55 fR11_55 cXa0_55 cXa1_55 cXb0_55 cXb1_55 cXx0_55 fXx0_55 cXx1_55 fXx1_55 cXy0_55 fXy0_55 cXy1_55 fXy1_55
          have hstep : Below w104.heap.size w104 w105 := (by first | exact hB | exact below_drew hB)
          have L_56 := L_45.next hstep
          have R0_57 := R0_46.next hstep
          have R1_58 := R1_47.next hstep
          have Xa_59 := Xa_48.next hstep
          have Xb_60 := Xb_49.next hstep
          have Xx_61 := Xx_50.next hstep
          have Xy_62 := Xy_51.next hstep
          have Op_63 := Op_52.below hstep
          have Oq_64 := Oq_53.below hstep
          have Or_65 := Or_54.below hstep
          have hbel66 := hbel55.next hstep
          have hle66 := hbel66.size
          have hls66 := hstep.size
          clear L_45 R0_46 R1_47 Xa_48 Xb_49 Xx_50 Xy_51 Op_52 Oq_53 Or_54 hbel55 hstep
          have cL0_66 : _ = some (Value.bool (decide (r0 < 0))) := L_56.cell 0
          have fL0_66 := L_56.free 0
          have cL1_66 : _ = some (Value.slice p pn pc) := L_56.cell 1
          have fL1_66 := L_56.free 1
          have cL2_66 : _ = some (Value.bool (decide (x0 < 0))) := L_56.cell 2
          have fL2_66 := L_56.free 2
          have cL3_66 : _ = some (Value.slice q qn qc) := L_56.cell 3
          have fL3_66 := L_56.free 3
          have cL4_66 : _ = some (Value.bool (decide (y0 < 0))) := L_56.cell 4
          have fL4_66 := L_56.free 4
          have cL5_66 : _ = some (Value.slice r rn rc) := L_56.cell 5
          have fL5_66 := L_56.free 5
          have cR00_66 : _ = some (Value.bool false) := R0_57.cell 0
          have fR00_66 := R0_57.free 0
          have cR01_66 : _ = some (Value.slice none 0 0) := R0_57.cell 1
          have fR01_66 := R0_57.free 1
          have cR10_66 : _ = some (Value.bool false) := R1_58.cell 0
          have fR10_66 := R1_58.free 0
          have cR11_66 : _ = some (Value.slice none 0 0) := R1_58.cell 1
          have fR11_66 := R1_58.free 1
          have cXa0_66 : _ = some (Value.bool s) := Xa_59.cell 0
          have cXa1_66 : _ = some (Value.slice a n c) := Xa_59.cell 1
          have cXb0_66 : _ = some (Value.bool t) := Xb_60.cell 0
          have cXb1_66 : _ = some (Value.slice b m d) := Xb_60.cell 1
          have cXx0_66 : _ = some (Value.bool (decide (x0 < 0))) := Xx_61.cell 0
          have fXx0_66 := Xx_61.free 0
          have cXx1_66 : _ = some (Value.slice q qn qc) := Xx_61.cell 1
          have fXx1_66 := Xx_61.free 1
          have cXy0_66 : _ = some (Value.bool (decide (y0 < 0))) := Xy_62.cell 0
          have fXy0_66 := Xy_62.free 0
          have cXy1_66 : _ = some (Value.slice r rn rc) := Xy_62.cell 1
          have fXy1_66 := Xy_62.free 1
          go_wp2_with fail
          refine (znegI Or_65.rd (by omega) HNy0.out).mono ?_
          rintro e w106 ⟨ny, nyn, nyc, rfl, hO, hB⟩
          clear cL0_66 fL0_66 cL1_66 fL1_66 cL2_66 fL2_66 cL3_66 fL3_66 cL4_66 fL4_66 cL5_66 fL5_66 cR00_66 fR00_66 cR01_66 fR01_66 cR10_66 fR10_66 cR11_66 fR11_66 cXa0_66 cXa1_66 cXb0_66 cXb1_66 cXx0_66 fXx0_66 cXx1_66 fXx1_66 cXy0_66 fXy0_66 cXy1_66 fXy1_66
          have hstep : Below w105.heap.size w105 w106 := (by first | exact hB | exact below_drew hB)
          have L_67 := L_56.next hstep
          have R0_68 := R0_57.next hstep
          have R1_69 := R1_58.next hstep
          have Xa_70 := Xa_59.next hstep
          have Xb_71 := Xb_60.next hstep
          have Xx_72 := Xx_61.next hstep
          have Xy_73 := Xy_62.next hstep
          have Op_74 := Op_63.below hstep
          have Oq_75 := Oq_64.below hstep
          have Or_76 := Or_65.below hstep
          have hbel77 := hbel66.next hstep
          have hle77 := hbel77.size
          have hls77 := hstep.size
          clear L_56 R0_57 R1_58 Xa_59 Xb_60 Xx_61 Xy_62 Op_63 Oq_64 Or_65 hbel66 hstep
          have cL0_77 : _ = some (Value.bool (decide (r0 < 0))) := L_67.cell 0
          have fL0_77 := L_67.free 0
          have cL1_77 : _ = some (Value.slice p pn pc) := L_67.cell 1
          have fL1_77 := L_67.free 1
          have cL2_77 : _ = some (Value.bool (decide (x0 < 0))) := L_67.cell 2
          have fL2_77 := L_67.free 2
          have cL3_77 : _ = some (Value.slice q qn qc) := L_67.cell 3
          have fL3_77 := L_67.free 3
          have cL4_77 : _ = some (Value.bool (decide (y0 < 0))) := L_67.cell 4
          have fL4_77 := L_67.free 4
          have cL5_77 : _ = some (Value.slice r rn rc) := L_67.cell 5
          have fL5_77 := L_67.free 5
          have cR00_77 : _ = some (Value.bool false) := R0_68.cell 0
          have fR00_77 := R0_68.free 0
          have cR01_77 : _ = some (Value.slice none 0 0) := R0_68.cell 1
          have fR01_77 := R0_68.free 1
          have cR10_77 : _ = some (Value.bool false) := R1_69.cell 0
          have fR10_77 := R1_69.free 0
          have cR11_77 : _ = some (Value.slice none 0 0) := R1_69.cell 1
          have fR11_77 := R1_69.free 1
          have cXa0_77 : _ = some (Value.bool s) := Xa_70.cell 0
          have cXa1_77 : _ = some (Value.slice a n c) := Xa_70.cell 1
          have cXb0_77 : _ = some (Value.bool t) := Xb_71.cell 0
          have cXb1_77 : _ = some (Value.slice b m d) := Xb_71.cell 1
          have cXx0_77 : _ = some (Value.bool (decide (x0 < 0))) := Xx_72.cell 0
          have fXx0_77 := Xx_72.free 0
          have cXx1_77 : _ = some (Value.slice q qn qc) := Xx_72.cell 1
          have fXx1_77 := Xx_72.free 1
          have cXy0_77 : _ = some (Value.bool (decide (y0 < 0))) := Xy_73.cell 0
          have fXy0_77 := Xy_73.free 0
          have cXy1_77 : _ = some (Value.slice r rn rc) := Xy_73.cell 1
          have fXy1_77 := Xy_73.free 1
          have Ony_78 := hO
          have ltny := hO.ltOf
          have awnyXx : Aw ny (gx) := hO.awNew (by omega)
          have awnyXy : Aw ny (gy) := hO.awNew (by omega)
          have dfpny : Diff p ny := ltp.diff hO (by omega)
          have dfqny : Diff q ny := ltq.diff hO (by omega)
          clear hO
          go_wp2_with fail
          clear cL0_77 fL0_77 cL1_77 fL1_77 cL2_77 fL2_77 cL3_77 fL3_77 cL4_77 fL4_77 cL5_77 fL5_77 cR00_77 fR00_77 cR01_77 fR01_77 cR10_77 fR10_77 cR11_77 fR11_77 cXa0_77 cXa1_77 cXb0_77 cXb1_77 cXx0_77 fXx0_77 cXx1_77 fXx1_77 cXy0_77 fXy0_77 cXy1_77 fXy1_77
          have hkp : Kp (fun k => k = gy) w106 ((w106.setCell ⟨gy, 0, none⟩ (Value.bool (decide (ny0 < 0)))).setCell ⟨gy, 1, none⟩ (Value.slice ny nyn nyc)) := ((Kp.refl (fun k => k = gy) w106).setCell rfl (Value.bool (decide (ny0 < 0)))).setCell rfl (Value.slice ny nyn nyc)
          have Xy_79 := (show Blk _ _ #[Value.bool (decide (ny0 < 0)), Value.slice ny nyn nyc] from ((Xy_73).setCell (i := 0) (v := Value.bool (decide (ny0 < 0))) (by simp)).setCell (i := 1) (v := Value.slice ny nyn nyc) (by simp))
          have L_80 := L_67.kp hkp (show ¬ (w3.heap.size = gy) by omega)
          have R0_81 := R0_68.kp hkp (show ¬ (w.heap.size + 1 + 1 = gy) by omega)
          have R1_82 := R1_69.kp hkp (show ¬ (w.heap.size + 1 + 1 + 1 = gy) by omega)
          have Xa_83 := Xa_70.kp hkp (show ¬ (w.heap.size = gy) by omega)
          have Xb_84 := Xb_71.kp hkp (show ¬ (w.heap.size + 1 = gy) by omega)
          have Xx_85 := Xx_72.kp hkp (show ¬ (gx = gy) by omega)
          have Op_86 := Op_74.kp hkp (fun g' e => awpXy g' e)
          have Oq_87 := Oq_75.kp hkp (fun g' e => awqXy g' e)
          have Or_88 := Or_76.kp hkp (fun g' e => awrXy g' e)
          have Ony_89 := Ony_78.kp hkp (fun g' e => awnyXy g' e)
          have hbel90 := hbel77.kp hkp (hbel77).size (fun k hk => (show ¬ (k = gy) by omega))
          have hse90 := hkp.size
          clear L_67 R0_68 R1_69 Xa_70 Xb_71 Xx_72 Xy_73 Op_74 Oq_75 Or_76 Ony_78 hbel77 hkp
          generalize ((w106.setCell ⟨gy, 0, none⟩ (Value.bool (decide (ny0 < 0)))).setCell ⟨gy, 1, none⟩ (Value.slice ny nyn nyc)) = v107 at *
          have cL0_90 : _ = some (Value.bool (decide (r0 < 0))) := L_80.cell 0
          have fL0_90 := L_80.free 0
          have cL1_90 : _ = some (Value.slice p pn pc) := L_80.cell 1
          have fL1_90 := L_80.free 1
          have cL2_90 : _ = some (Value.bool (decide (x0 < 0))) := L_80.cell 2
          have fL2_90 := L_80.free 2
          have cL3_90 : _ = some (Value.slice q qn qc) := L_80.cell 3
          have fL3_90 := L_80.free 3
          have cL4_90 : _ = some (Value.bool (decide (y0 < 0))) := L_80.cell 4
          have fL4_90 := L_80.free 4
          have cL5_90 : _ = some (Value.slice r rn rc) := L_80.cell 5
          have fL5_90 := L_80.free 5
          have cR00_90 : _ = some (Value.bool false) := R0_81.cell 0
          have fR00_90 := R0_81.free 0
          have cR01_90 : _ = some (Value.slice none 0 0) := R0_81.cell 1
          have fR01_90 := R0_81.free 1
          have cR10_90 : _ = some (Value.bool false) := R1_82.cell 0
          have fR10_90 := R1_82.free 0
          have cR11_90 : _ = some (Value.slice none 0 0) := R1_82.cell 1
          have fR11_90 := R1_82.free 1
          have cXa0_90 : _ = some (Value.bool s) := Xa_83.cell 0
          have cXa1_90 : _ = some (Value.slice a n c) := Xa_83.cell 1
          have cXb0_90 : _ = some (Value.bool t) := Xb_84.cell 0
          have cXb1_90 : _ = some (Value.slice b m d) := Xb_84.cell 1
          have cXx0_90 : _ = some (Value.bool (decide (x0 < 0))) := Xx_85.cell 0
          have fXx0_90 := Xx_85.free 0
          have cXx1_90 : _ = some (Value.slice q qn qc) := Xx_85.cell 1
          have fXx1_90 := Xx_85.free 1
          have cXy0_90 : _ = some (Value.bool (decide (ny0 < 0))) := Xy_79.cell 0
          have fXy0_90 := Xy_79.free 0
          have cXy1_90 : _ = some (Value.slice ny nyn nyc) := Xy_79.cell 1
          have fXy1_90 := Xy_79.free 1
          go_wp2_with fail
          go_region
          have awpR0 : Aw p (w.heap.size + 1 + 1) := (Op_86.mono (B' := W0.heap.size) (by omega)).awNew (by omega)
          have awqR0 : Aw q (w.heap.size + 1 + 1) := (Oq_87.mono (B' := W0.heap.size) (by omega)).awNew (by omega)
          have awrR0 : Aw r (w.heap.size + 1 + 1) := (Or_88.mono (B' := W0.heap.size) (by omega)).awNew (by omega)
          have awnyR0 : Aw ny (w.heap.size + 1 + 1) := (Ony_89.mono (B' := W0.heap.size) (by omega)).awNew (by omega)
          have awpR1 : Aw p (w.heap.size + 1 + 1 + 1) := (Op_86.mono (B' := W0.heap.size) (by omega)).awNew (by omega)
          have awqR1 : Aw q (w.heap.size + 1 + 1 + 1) := (Oq_87.mono (B' := W0.heap.size) (by omega)).awNew (by omega)
          have awrR1 : Aw r (w.heap.size + 1 + 1 + 1) := (Or_88.mono (B' := W0.heap.size) (by omega)).awNew (by omega)
          have awnyR1 : Aw ny (w.heap.size + 1 + 1 + 1) := (Ony_89.mono (B' := W0.heap.size) (by omega)).awNew (by omega)
          clear cL0_90 fL0_90 cL1_90 fL1_90 cL2_90 fL2_90 cL3_90 fL3_90 cL4_90 fL4_90 cL5_90 fL5_90 cR00_90 fR00_90 cR01_90 fR01_90 cR10_90 fR10_90 cR11_90 fR11_90 cXa0_90 cXa1_90 cXb0_90 cXb1_90 cXx0_90 fXx0_90 cXx1_90 fXx1_90 cXy0_90 fXy0_90 cXy1_90 fXy1_90
          have hkp : Kp (fun k => k = w.heap.size + 1 + 1) v107 ((v107.setCell ⟨w.heap.size + 1 + 1, 0, none⟩ (Value.bool (decide (x0 < 0)))).setCell ⟨w.heap.size + 1 + 1, 1, none⟩ (Value.slice q qn qc)) := ((Kp.refl (fun k => k = w.heap.size + 1 + 1) v107).setCell rfl (Value.bool (decide (x0 < 0)))).setCell rfl (Value.slice q qn qc)
          have R0_91 := (show Blk _ _ #[Value.bool (decide (x0 < 0)), Value.slice q qn qc] from ((R0_81).setCell (i := 0) (v := Value.bool (decide (x0 < 0))) (by simp)).setCell (i := 1) (v := Value.slice q qn qc) (by simp))
          have L_92 := L_80.kp hkp (show ¬ (w3.heap.size = w.heap.size + 1 + 1) by omega)
          have R1_93 := R1_82.kp hkp (show ¬ (w.heap.size + 1 + 1 + 1 = w.heap.size + 1 + 1) by omega)
          have Xa_94 := Xa_83.kp hkp (show ¬ (w.heap.size = w.heap.size + 1 + 1) by omega)
          have Xb_95 := Xb_84.kp hkp (show ¬ (w.heap.size + 1 = w.heap.size + 1 + 1) by omega)
          have Xx_96 := Xx_85.kp hkp (show ¬ (gx = w.heap.size + 1 + 1) by omega)
          have Xy_97 := Xy_79.kp hkp (show ¬ (gy = w.heap.size + 1 + 1) by omega)
          have Op_98 := Op_86.kp hkp (fun g' e => awpR0 g' e)
          have Oq_99 := Oq_87.kp hkp (fun g' e => awqR0 g' e)
          have Or_100 := Or_88.kp hkp (fun g' e => awrR0 g' e)
          have Ony_101 := Ony_89.kp hkp (fun g' e => awnyR0 g' e)
          have hbel102 := hbel90.kp hkp (hbel90).size (fun k hk => (show ¬ (k = w.heap.size + 1 + 1) by omega))
          have hse102 := hkp.size
          clear L_80 R0_81 R1_82 Xa_83 Xb_84 Xx_85 Xy_79 Op_86 Oq_87 Or_88 Ony_89 hbel90 hkp
          generalize ((v107.setCell ⟨w.heap.size + 1 + 1, 0, none⟩ (Value.bool (decide (x0 < 0)))).setCell ⟨w.heap.size + 1 + 1, 1, none⟩ (Value.slice q qn qc)) = v108 at *
          have cL0_102 : _ = some (Value.bool (decide (r0 < 0))) := L_92.cell 0
          have fL0_102 := L_92.free 0
          have cL1_102 : _ = some (Value.slice p pn pc) := L_92.cell 1
          have fL1_102 := L_92.free 1
          have cL2_102 : _ = some (Value.bool (decide (x0 < 0))) := L_92.cell 2
          have fL2_102 := L_92.free 2
          have cL3_102 : _ = some (Value.slice q qn qc) := L_92.cell 3
          have fL3_102 := L_92.free 3
          have cL4_102 : _ = some (Value.bool (decide (y0 < 0))) := L_92.cell 4
          have fL4_102 := L_92.free 4
          have cL5_102 : _ = some (Value.slice r rn rc) := L_92.cell 5
          have fL5_102 := L_92.free 5
          have cR00_102 : _ = some (Value.bool (decide (x0 < 0))) := R0_91.cell 0
          have fR00_102 := R0_91.free 0
          have cR01_102 : _ = some (Value.slice q qn qc) := R0_91.cell 1
          have fR01_102 := R0_91.free 1
          have cR10_102 : _ = some (Value.bool false) := R1_93.cell 0
          have fR10_102 := R1_93.free 0
          have cR11_102 : _ = some (Value.slice none 0 0) := R1_93.cell 1
          have fR11_102 := R1_93.free 1
          have cXa0_102 : _ = some (Value.bool s) := Xa_94.cell 0
          have cXa1_102 : _ = some (Value.slice a n c) := Xa_94.cell 1
          have cXb0_102 : _ = some (Value.bool t) := Xb_95.cell 0
          have cXb1_102 : _ = some (Value.slice b m d) := Xb_95.cell 1
          have cXx0_102 : _ = some (Value.bool (decide (x0 < 0))) := Xx_96.cell 0
          have fXx0_102 := Xx_96.free 0
          have cXx1_102 : _ = some (Value.slice q qn qc) := Xx_96.cell 1
          have fXx1_102 := Xx_96.free 1
          have cXy0_102 : _ = some (Value.bool (decide (ny0 < 0))) := Xy_97.cell 0
          have fXy0_102 := Xy_97.free 0
          have cXy1_102 : _ = some (Value.slice ny nyn nyc) := Xy_97.cell 1
          have fXy1_102 := Xy_97.free 1
          clear cL0_102 fL0_102 cL1_102 fL1_102 cL2_102 fL2_102 cL3_102 fL3_102 cL4_102 fL4_102 cL5_102 fL5_102 cR00_102 fR00_102 cR01_102 fR01_102 cR10_102 fR10_102 cR11_102 fR11_102 cXa0_102 cXa1_102 cXb0_102 cXb1_102 cXx0_102 fXx0_102 cXx1_102 fXx1_102 cXy0_102 fXy0_102 cXy1_102 fXy1_102
          have hkp : Kp (fun k => k = w.heap.size + 1 + 1 + 1) v108 ((v108.setCell ⟨w.heap.size + 1 + 1 + 1, 0, none⟩ (Value.bool (decide (ny0 < 0)))).setCell ⟨w.heap.size + 1 + 1 + 1, 1, none⟩ (Value.slice ny nyn nyc)) := ((Kp.refl (fun k => k = w.heap.size + 1 + 1 + 1) v108).setCell rfl (Value.bool (decide (ny0 < 0)))).setCell rfl (Value.slice ny nyn nyc)
          have R1_103 := (show Blk _ _ #[Value.bool (decide (ny0 < 0)), Value.slice ny nyn nyc] from ((R1_93).setCell (i := 0) (v := Value.bool (decide (ny0 < 0))) (by simp)).setCell (i := 1) (v := Value.slice ny nyn nyc) (by simp))
          have L_104 := L_92.kp hkp (show ¬ (w3.heap.size = w.heap.size + 1 + 1 + 1) by omega)
          have R0_105 := R0_91.kp hkp (show ¬ (w.heap.size + 1 + 1 = w.heap.size + 1 + 1 + 1) by omega)
          have Xa_106 := Xa_94.kp hkp (show ¬ (w.heap.size = w.heap.size + 1 + 1 + 1) by omega)
          have Xb_107 := Xb_95.kp hkp (show ¬ (w.heap.size + 1 = w.heap.size + 1 + 1 + 1) by omega)
          have Xx_108 := Xx_96.kp hkp (show ¬ (gx = w.heap.size + 1 + 1 + 1) by omega)
          have Xy_109 := Xy_97.kp hkp (show ¬ (gy = w.heap.size + 1 + 1 + 1) by omega)
          have Op_110 := Op_98.kp hkp (fun g' e => awpR1 g' e)
          have Oq_111 := Oq_99.kp hkp (fun g' e => awqR1 g' e)
          have Or_112 := Or_100.kp hkp (fun g' e => awrR1 g' e)
          have Ony_113 := Ony_101.kp hkp (fun g' e => awnyR1 g' e)
          have hbel114 := hbel102.kp hkp (hbel102).size (fun k hk => (show ¬ (k = w.heap.size + 1 + 1 + 1) by omega))
          have hse114 := hkp.size
          clear L_92 R0_91 R1_93 Xa_94 Xb_95 Xx_96 Xy_97 Op_98 Oq_99 Or_100 Ony_101 hbel102 hkp
          generalize ((v108.setCell ⟨w.heap.size + 1 + 1 + 1, 0, none⟩ (Value.bool (decide (ny0 < 0)))).setCell ⟨w.heap.size + 1 + 1 + 1, 1, none⟩ (Value.slice ny nyn nyc)) = v109 at *
          have cL0_114 : _ = some (Value.bool (decide (r0 < 0))) := L_104.cell 0
          have fL0_114 := L_104.free 0
          have cL1_114 : _ = some (Value.slice p pn pc) := L_104.cell 1
          have fL1_114 := L_104.free 1
          have cL2_114 : _ = some (Value.bool (decide (x0 < 0))) := L_104.cell 2
          have fL2_114 := L_104.free 2
          have cL3_114 : _ = some (Value.slice q qn qc) := L_104.cell 3
          have fL3_114 := L_104.free 3
          have cL4_114 : _ = some (Value.bool (decide (y0 < 0))) := L_104.cell 4
          have fL4_114 := L_104.free 4
          have cL5_114 : _ = some (Value.slice r rn rc) := L_104.cell 5
          have fL5_114 := L_104.free 5
          have cR00_114 : _ = some (Value.bool (decide (x0 < 0))) := R0_105.cell 0
          have fR00_114 := R0_105.free 0
          have cR01_114 : _ = some (Value.slice q qn qc) := R0_105.cell 1
          have fR01_114 := R0_105.free 1
          have cR10_114 : _ = some (Value.bool (decide (ny0 < 0))) := R1_103.cell 0
          have fR10_114 := R1_103.free 0
          have cR11_114 : _ = some (Value.slice ny nyn nyc) := R1_103.cell 1
          have fR11_114 := R1_103.free 1
          have cXa0_114 : _ = some (Value.bool s) := Xa_106.cell 0
          have cXa1_114 : _ = some (Value.slice a n c) := Xa_106.cell 1
          have cXb0_114 : _ = some (Value.bool t) := Xb_107.cell 0
          have cXb1_114 : _ = some (Value.slice b m d) := Xb_107.cell 1
          have cXx0_114 : _ = some (Value.bool (decide (x0 < 0))) := Xx_108.cell 0
          have fXx0_114 := Xx_108.free 0
          have cXx1_114 : _ = some (Value.slice q qn qc) := Xx_108.cell 1
          have fXx1_114 := Xx_108.free 1
          have cXy0_114 : _ = some (Value.bool (decide (ny0 < 0))) := Xy_109.cell 0
          have fXy0_114 := Xy_109.free 0
          have cXy1_114 : _ = some (Value.slice ny nyn nyc) := Xy_109.cell 1
          have fXy1_114 := Xy_109.free 1
          go_wp2
          refine bodyPost_ret (v := .tuple #[.slice p pn pc, .agg #[.bool (decide (x0 < 0)), .slice q qn qc], .agg #[.bool (decide (ny0 < 0)), .slice ny nyn nyc]]) (by simp [results, Try.results67, go_sem, cR00_114, cR01_114, cR10_114, cR11_114]) rfl ?_
          rw [← E1.out, ← E2.out, ← E3.out, HBA.out, HBB.out]
          exact ⟨p, pn, pc, q, qn, qc, ny, nyn, nyc, rfl, Op_110.mono (by omega), Oq_111.mono (by omega), Ony_113.mono (by omega), dfpq, dfpny, dfqny, ⟨hbel114.os, hbel114.tape, hbel114.output, hbel114.size, hbel114.block⟩⟩
        · skip
          have hba : bzS za x0 = x0 := if_neg (by omega)
          have hbb : bzS zb y0 = y0 := if_neg (by omega)
          have HBA := hid hba
          have HBB := hid hbb
          clear hba hbb
          generalize hsa : sgn za = ga at HSA
          generalize hsb : sgn zb = gb at HSB
          have hsa' : 0 ≤ ga ∧ ga ≤ 1 := by have := sgn_cases za; omega
          have hsb' : 0 ≤ gb ∧ gb ≤ 1 := by have := sgn_cases zb; omega
          clear hsa hsb hzaS hzbS
          have dga : decide (ga < 0) = false := decide_eq_false (by omega)
          have dgb : decide (gb < 0) = false := decide_eq_false (by omega)
          have hRA0 : Rd v102 a n c la := ha.below hbelF
          have hRA1 : Rd v102.drew a n c la := hRA0
          go_wp2_with fail
          refine (HSA.out _ (by first | exact hRA0 | exact hRA1)).mono ?_
          rintro e w104 ⟨rfl, hB⟩
          clear cL0_44 fL0_44 cL1_44 fL1_44 cL2_44 fL2_44 cL3_44 fL3_44 cL4_44 fL4_44 cL5_44 fL5_44 cR00_44 fR00_44 cR01_44 fR01_44 cR10_44 fR10_44 cR11_44 fR11_44 cXa0_44 cXa1_44 cXb0_44 cXb1_44 cXx0_44 fXx0_44 cXx1_44 fXx1_44 cXy0_44 fXy0_44 cXy1_44 fXy1_44
          have hstep : Below v102.heap.size v102 w104 := (by first | exact hB | exact below_drew hB)
          have L_45 := L_F.next hstep
          have R0_46 := R0_F.next hstep
          have R1_47 := R1_F.next hstep
          have Xa_48 := Xa_F.next hstep
          have Xb_49 := Xb_F.next hstep
          have Xx_50 := Xx_F.next hstep
          have Xy_51 := Xy_F.next hstep
          have Op_52 := Op_F.below hstep
          have Oq_53 := Oq_F.below hstep
          have Or_54 := Or_F.below hstep
          have hbel55 := hbelF.next hstep
          have hle55 := hbel55.size
          have hls55 := hstep.size
          clear L_F R0_F R1_F Xa_F Xb_F Xx_F Xy_F Op_F Oq_F Or_F hbelF hstep
          have cL0_55 : _ = some (Value.bool (decide (r0 < 0))) := L_45.cell 0
          have fL0_55 := L_45.free 0
          have cL1_55 : _ = some (Value.slice p pn pc) := L_45.cell 1
          have fL1_55 := L_45.free 1
          have cL2_55 : _ = some (Value.bool (decide (x0 < 0))) := L_45.cell 2
          have fL2_55 := L_45.free 2
          have cL3_55 : _ = some (Value.slice q qn qc) := L_45.cell 3
          have fL3_55 := L_45.free 3
          have cL4_55 : _ = some (Value.bool (decide (y0 < 0))) := L_45.cell 4
          have fL4_55 := L_45.free 4
          have cL5_55 : _ = some (Value.slice r rn rc) := L_45.cell 5
          have fL5_55 := L_45.free 5
          have cR00_55 : _ = some (Value.bool false) := R0_46.cell 0
          have fR00_55 := R0_46.free 0
          have cR01_55 : _ = some (Value.slice none 0 0) := R0_46.cell 1
          have fR01_55 := R0_46.free 1
          have cR10_55 : _ = some (Value.bool false) := R1_47.cell 0
          have fR10_55 := R1_47.free 0
          have cR11_55 : _ = some (Value.slice none 0 0) := R1_47.cell 1
          have fR11_55 := R1_47.free 1
          have cXa0_55 : _ = some (Value.bool s) := Xa_48.cell 0
          have cXa1_55 : _ = some (Value.slice a n c) := Xa_48.cell 1
          have cXb0_55 : _ = some (Value.bool t) := Xb_49.cell 0
          have cXb1_55 : _ = some (Value.slice b m d) := Xb_49.cell 1
          have cXx0_55 : _ = some (Value.bool (decide (x0 < 0))) := Xx_50.cell 0
          have fXx0_55 := Xx_50.free 0
          have cXx1_55 : _ = some (Value.slice q qn qc) := Xx_50.cell 1
          have fXx1_55 := Xx_50.free 1
          have cXy0_55 : _ = some (Value.bool (decide (y0 < 0))) := Xy_51.cell 0
          have fXy0_55 := Xy_51.free 0
          have cXy1_55 : _ = some (Value.slice r rn rc) := Xy_51.cell 1
          have fXy1_55 := Xy_51.free 1
          clear hRA0 hRA1
          go_wp2_with fail
          refine (HSB.out _ (hb.below hbel55)).mono ?_
          rintro e w105 ⟨rfl, hB⟩
          clear cL0_55 fL0_55 cL1_55 fL1_55 cL2_55 fL2_55 cL3_55 fL3_55 cL4_55 fL4_55 cL5_55 fL5_55 cR00_55 fR00_55 cR01_55 fR01_55 cR10_55 fR10_55 cR11_55 fR11_55 cXa0_55 cXa1_55 cXb0_55 cXb1_55 cXx0_55 fXx0_55 cXx1_55 fXx1_55 cXy0_55 fXy0_55 cXy1_55 fXy1_55
          have hstep : Below w104.heap.size w104 w105 := (by first | exact hB | exact below_drew hB)
          have L_56 := L_45.next hstep
          have R0_57 := R0_46.next hstep
          have R1_58 := R1_47.next hstep
          have Xa_59 := Xa_48.next hstep
          have Xb_60 := Xb_49.next hstep
          have Xx_61 := Xx_50.next hstep
          have Xy_62 := Xy_51.next hstep
          have Op_63 := Op_52.below hstep
          have Oq_64 := Oq_53.below hstep
          have Or_65 := Or_54.below hstep
          have hbel66 := hbel55.next hstep
          have hle66 := hbel66.size
          have hls66 := hstep.size
          clear L_45 R0_46 R1_47 Xa_48 Xb_49 Xx_50 Xy_51 Op_52 Oq_53 Or_54 hbel55 hstep
          have cL0_66 : _ = some (Value.bool (decide (r0 < 0))) := L_56.cell 0
          have fL0_66 := L_56.free 0
          have cL1_66 : _ = some (Value.slice p pn pc) := L_56.cell 1
          have fL1_66 := L_56.free 1
          have cL2_66 : _ = some (Value.bool (decide (x0 < 0))) := L_56.cell 2
          have fL2_66 := L_56.free 2
          have cL3_66 : _ = some (Value.slice q qn qc) := L_56.cell 3
          have fL3_66 := L_56.free 3
          have cL4_66 : _ = some (Value.bool (decide (y0 < 0))) := L_56.cell 4
          have fL4_66 := L_56.free 4
          have cL5_66 : _ = some (Value.slice r rn rc) := L_56.cell 5
          have fL5_66 := L_56.free 5
          have cR00_66 : _ = some (Value.bool false) := R0_57.cell 0
          have fR00_66 := R0_57.free 0
          have cR01_66 : _ = some (Value.slice none 0 0) := R0_57.cell 1
          have fR01_66 := R0_57.free 1
          have cR10_66 : _ = some (Value.bool false) := R1_58.cell 0
          have fR10_66 := R1_58.free 0
          have cR11_66 : _ = some (Value.slice none 0 0) := R1_58.cell 1
          have fR11_66 := R1_58.free 1
          have cXa0_66 : _ = some (Value.bool s) := Xa_59.cell 0
          have cXa1_66 : _ = some (Value.slice a n c) := Xa_59.cell 1
          have cXb0_66 : _ = some (Value.bool t) := Xb_60.cell 0
          have cXb1_66 : _ = some (Value.slice b m d) := Xb_60.cell 1
          have cXx0_66 : _ = some (Value.bool (decide (x0 < 0))) := Xx_61.cell 0
          have fXx0_66 := Xx_61.free 0
          have cXx1_66 : _ = some (Value.slice q qn qc) := Xx_61.cell 1
          have fXx1_66 := Xx_61.free 1
          have cXy0_66 : _ = some (Value.bool (decide (y0 < 0))) := Xy_62.cell 0
          have fXy0_66 := Xy_62.free 0
          have cXy1_66 : _ = some (Value.slice r rn rc) := Xy_62.cell 1
          have fXy1_66 := Xy_62.free 1
          go_wp2_with fail
          go_region
          have awpR0 : Aw p (w.heap.size + 1 + 1) := (Op_63.mono (B' := W0.heap.size) (by omega)).awNew (by omega)
          have awqR0 : Aw q (w.heap.size + 1 + 1) := (Oq_64.mono (B' := W0.heap.size) (by omega)).awNew (by omega)
          have awrR0 : Aw r (w.heap.size + 1 + 1) := (Or_65.mono (B' := W0.heap.size) (by omega)).awNew (by omega)
          have awpR1 : Aw p (w.heap.size + 1 + 1 + 1) := (Op_63.mono (B' := W0.heap.size) (by omega)).awNew (by omega)
          have awqR1 : Aw q (w.heap.size + 1 + 1 + 1) := (Oq_64.mono (B' := W0.heap.size) (by omega)).awNew (by omega)
          have awrR1 : Aw r (w.heap.size + 1 + 1 + 1) := (Or_65.mono (B' := W0.heap.size) (by omega)).awNew (by omega)
          clear cL0_66 fL0_66 cL1_66 fL1_66 cL2_66 fL2_66 cL3_66 fL3_66 cL4_66 fL4_66 cL5_66 fL5_66 cR00_66 fR00_66 cR01_66 fR01_66 cR10_66 fR10_66 cR11_66 fR11_66 cXa0_66 cXa1_66 cXb0_66 cXb1_66 cXx0_66 fXx0_66 cXx1_66 fXx1_66 cXy0_66 fXy0_66 cXy1_66 fXy1_66
          have hkp : Kp (fun k => k = w.heap.size + 1 + 1) w105 ((w105.setCell ⟨w.heap.size + 1 + 1, 0, none⟩ (Value.bool (decide (x0 < 0)))).setCell ⟨w.heap.size + 1 + 1, 1, none⟩ (Value.slice q qn qc)) := ((Kp.refl (fun k => k = w.heap.size + 1 + 1) w105).setCell rfl (Value.bool (decide (x0 < 0)))).setCell rfl (Value.slice q qn qc)
          have R0_67 := (show Blk _ _ #[Value.bool (decide (x0 < 0)), Value.slice q qn qc] from ((R0_57).setCell (i := 0) (v := Value.bool (decide (x0 < 0))) (by simp)).setCell (i := 1) (v := Value.slice q qn qc) (by simp))
          have L_68 := L_56.kp hkp (show ¬ (w3.heap.size = w.heap.size + 1 + 1) by omega)
          have R1_69 := R1_58.kp hkp (show ¬ (w.heap.size + 1 + 1 + 1 = w.heap.size + 1 + 1) by omega)
          have Xa_70 := Xa_59.kp hkp (show ¬ (w.heap.size = w.heap.size + 1 + 1) by omega)
          have Xb_71 := Xb_60.kp hkp (show ¬ (w.heap.size + 1 = w.heap.size + 1 + 1) by omega)
          have Xx_72 := Xx_61.kp hkp (show ¬ (gx = w.heap.size + 1 + 1) by omega)
          have Xy_73 := Xy_62.kp hkp (show ¬ (gy = w.heap.size + 1 + 1) by omega)
          have Op_74 := Op_63.kp hkp (fun g' e => awpR0 g' e)
          have Oq_75 := Oq_64.kp hkp (fun g' e => awqR0 g' e)
          have Or_76 := Or_65.kp hkp (fun g' e => awrR0 g' e)
          have hbel77 := hbel66.kp hkp (hbel66).size (fun k hk => (show ¬ (k = w.heap.size + 1 + 1) by omega))
          have hse77 := hkp.size
          clear L_56 R0_57 R1_58 Xa_59 Xb_60 Xx_61 Xy_62 Op_63 Oq_64 Or_65 hbel66 hkp
          generalize ((w105.setCell ⟨w.heap.size + 1 + 1, 0, none⟩ (Value.bool (decide (x0 < 0)))).setCell ⟨w.heap.size + 1 + 1, 1, none⟩ (Value.slice q qn qc)) = v106 at *
          have cL0_77 : _ = some (Value.bool (decide (r0 < 0))) := L_68.cell 0
          have fL0_77 := L_68.free 0
          have cL1_77 : _ = some (Value.slice p pn pc) := L_68.cell 1
          have fL1_77 := L_68.free 1
          have cL2_77 : _ = some (Value.bool (decide (x0 < 0))) := L_68.cell 2
          have fL2_77 := L_68.free 2
          have cL3_77 : _ = some (Value.slice q qn qc) := L_68.cell 3
          have fL3_77 := L_68.free 3
          have cL4_77 : _ = some (Value.bool (decide (y0 < 0))) := L_68.cell 4
          have fL4_77 := L_68.free 4
          have cL5_77 : _ = some (Value.slice r rn rc) := L_68.cell 5
          have fL5_77 := L_68.free 5
          have cR00_77 : _ = some (Value.bool (decide (x0 < 0))) := R0_67.cell 0
          have fR00_77 := R0_67.free 0
          have cR01_77 : _ = some (Value.slice q qn qc) := R0_67.cell 1
          have fR01_77 := R0_67.free 1
          have cR10_77 : _ = some (Value.bool false) := R1_69.cell 0
          have fR10_77 := R1_69.free 0
          have cR11_77 : _ = some (Value.slice none 0 0) := R1_69.cell 1
          have fR11_77 := R1_69.free 1
          have cXa0_77 : _ = some (Value.bool s) := Xa_70.cell 0
          have cXa1_77 : _ = some (Value.slice a n c) := Xa_70.cell 1
          have cXb0_77 : _ = some (Value.bool t) := Xb_71.cell 0
          have cXb1_77 : _ = some (Value.slice b m d) := Xb_71.cell 1
          have cXx0_77 : _ = some (Value.bool (decide (x0 < 0))) := Xx_72.cell 0
          have fXx0_77 := Xx_72.free 0
          have cXx1_77 : _ = some (Value.slice q qn qc) := Xx_72.cell 1
          have fXx1_77 := Xx_72.free 1
          have cXy0_77 : _ = some (Value.bool (decide (y0 < 0))) := Xy_73.cell 0
          have fXy0_77 := Xy_73.free 0
          have cXy1_77 : _ = some (Value.slice r rn rc) := Xy_73.cell 1
          have fXy1_77 := Xy_73.free 1
          clear cL0_77 fL0_77 cL1_77 fL1_77 cL2_77 fL2_77 cL3_77 fL3_77 cL4_77 fL4_77 cL5_77 fL5_77 cR00_77 fR00_77 cR01_77 fR01_77 cR10_77 fR10_77 cR11_77 fR11_77 cXa0_77 cXa1_77 cXb0_77 cXb1_77 cXx0_77 fXx0_77 cXx1_77 fXx1_77 cXy0_77 fXy0_77 cXy1_77 fXy1_77
          have hkp : Kp (fun k => k = w.heap.size + 1 + 1 + 1) v106 ((v106.setCell ⟨w.heap.size + 1 + 1 + 1, 0, none⟩ (Value.bool (decide (y0 < 0)))).setCell ⟨w.heap.size + 1 + 1 + 1, 1, none⟩ (Value.slice r rn rc)) := ((Kp.refl (fun k => k = w.heap.size + 1 + 1 + 1) v106).setCell rfl (Value.bool (decide (y0 < 0)))).setCell rfl (Value.slice r rn rc)
          have R1_78 := (show Blk _ _ #[Value.bool (decide (y0 < 0)), Value.slice r rn rc] from ((R1_69).setCell (i := 0) (v := Value.bool (decide (y0 < 0))) (by simp)).setCell (i := 1) (v := Value.slice r rn rc) (by simp))
          have L_79 := L_68.kp hkp (show ¬ (w3.heap.size = w.heap.size + 1 + 1 + 1) by omega)
          have R0_80 := R0_67.kp hkp (show ¬ (w.heap.size + 1 + 1 = w.heap.size + 1 + 1 + 1) by omega)
          have Xa_81 := Xa_70.kp hkp (show ¬ (w.heap.size = w.heap.size + 1 + 1 + 1) by omega)
          have Xb_82 := Xb_71.kp hkp (show ¬ (w.heap.size + 1 = w.heap.size + 1 + 1 + 1) by omega)
          have Xx_83 := Xx_72.kp hkp (show ¬ (gx = w.heap.size + 1 + 1 + 1) by omega)
          have Xy_84 := Xy_73.kp hkp (show ¬ (gy = w.heap.size + 1 + 1 + 1) by omega)
          have Op_85 := Op_74.kp hkp (fun g' e => awpR1 g' e)
          have Oq_86 := Oq_75.kp hkp (fun g' e => awqR1 g' e)
          have Or_87 := Or_76.kp hkp (fun g' e => awrR1 g' e)
          have hbel88 := hbel77.kp hkp (hbel77).size (fun k hk => (show ¬ (k = w.heap.size + 1 + 1 + 1) by omega))
          have hse88 := hkp.size
          clear L_68 R0_67 R1_69 Xa_70 Xb_71 Xx_72 Xy_73 Op_74 Oq_75 Or_76 hbel77 hkp
          generalize ((v106.setCell ⟨w.heap.size + 1 + 1 + 1, 0, none⟩ (Value.bool (decide (y0 < 0)))).setCell ⟨w.heap.size + 1 + 1 + 1, 1, none⟩ (Value.slice r rn rc)) = v107 at *
          have cL0_88 : _ = some (Value.bool (decide (r0 < 0))) := L_79.cell 0
          have fL0_88 := L_79.free 0
          have cL1_88 : _ = some (Value.slice p pn pc) := L_79.cell 1
          have fL1_88 := L_79.free 1
          have cL2_88 : _ = some (Value.bool (decide (x0 < 0))) := L_79.cell 2
          have fL2_88 := L_79.free 2
          have cL3_88 : _ = some (Value.slice q qn qc) := L_79.cell 3
          have fL3_88 := L_79.free 3
          have cL4_88 : _ = some (Value.bool (decide (y0 < 0))) := L_79.cell 4
          have fL4_88 := L_79.free 4
          have cL5_88 : _ = some (Value.slice r rn rc) := L_79.cell 5
          have fL5_88 := L_79.free 5
          have cR00_88 : _ = some (Value.bool (decide (x0 < 0))) := R0_80.cell 0
          have fR00_88 := R0_80.free 0
          have cR01_88 : _ = some (Value.slice q qn qc) := R0_80.cell 1
          have fR01_88 := R0_80.free 1
          have cR10_88 : _ = some (Value.bool (decide (y0 < 0))) := R1_78.cell 0
          have fR10_88 := R1_78.free 0
          have cR11_88 : _ = some (Value.slice r rn rc) := R1_78.cell 1
          have fR11_88 := R1_78.free 1
          have cXa0_88 : _ = some (Value.bool s) := Xa_81.cell 0
          have cXa1_88 : _ = some (Value.slice a n c) := Xa_81.cell 1
          have cXb0_88 : _ = some (Value.bool t) := Xb_82.cell 0
          have cXb1_88 : _ = some (Value.slice b m d) := Xb_82.cell 1
          have cXx0_88 : _ = some (Value.bool (decide (x0 < 0))) := Xx_83.cell 0
          have fXx0_88 := Xx_83.free 0
          have cXx1_88 : _ = some (Value.slice q qn qc) := Xx_83.cell 1
          have fXx1_88 := Xx_83.free 1
          have cXy0_88 : _ = some (Value.bool (decide (y0 < 0))) := Xy_84.cell 0
          have fXy0_88 := Xy_84.free 0
          have cXy1_88 : _ = some (Value.slice r rn rc) := Xy_84.cell 1
          have fXy1_88 := Xy_84.free 1
          go_wp2
          refine bodyPost_ret (v := .tuple #[.slice p pn pc, .agg #[.bool (decide (x0 < 0)), .slice q qn qc], .agg #[.bool (decide (y0 < 0)), .slice r rn rc]]) (by simp [results, Try.results67, go_sem, cR00_88, cR01_88, cR10_88, cR11_88]) rfl ?_
          rw [← E1.out, ← E2.out, ← E3.out, HBA.out, HBB.out]
          exact ⟨p, pn, pc, q, qn, qc, r, rn, rc, rfl, Op_85.mono (by omega), Oq_86.mono (by omega), Or_87.mono (by omega), dfpq, dfpr, dfqr, ⟨hbel88.os, hbel88.tape, hbel88.output, hbel88.size, hbel88.block⟩⟩
    · skip
      go_wp2_with fail
      refine (zsignI1 Op'_0.rd (by omega) hr1p).mono ?_
      rintro e w101 ⟨rfl, hB⟩
      clear cXa0_0 cXa1_0 cXb0_0 cXb1_0 cR00_0 fR00_0 cR01_0 fR01_0 cR10_0 fR10_0 cR11_0 fR11_0 cL0_0 fL0_0 cL1_0 fL1_0 cL2_0 fL2_0 cL3_0 fL3_0 cL4_0 fL4_0 cL5_0 fL5_0 cN0_0 fN0_0 cN1_0 fN1_0 cN2_0 fN2_0 cN3_0 fN3_0 cN4_0 fN4_0 cN5_0 fN5_0
      have hstep : Below wr.heap.size wr w101 := (by first | exact hB | exact below_drew hB)
      have Xa_1 := Xa_0.next hstep
      have Xb_2 := Xb_0.next hstep
      have R0_3 := R0_0.next hstep
      have R1_4 := R1_0.next hstep
      have L_5 := L_0.next hstep
      have N_6 := N_0.next hstep
      have Op_7 := Op_0.below hstep
      have Oq_8 := Oq_0.below hstep
      have Or_9 := Or_0.below hstep
      have Op'_10 := Op'_0.below hstep
      have Oq'_11 := Oq'_0.below hstep
      have Or'_12 := Or'_0.below hstep
      have hbel13 := hbel0.next hstep
      have hle13 := hbel13.size
      have hls13 := hstep.size
      clear Xa_0 Xb_0 R0_0 R1_0 L_0 N_0 Op_0 Oq_0 Or_0 Op'_0 Oq'_0 Or'_0 hbel0 hstep
      have cXa0_13 : _ = some (Value.bool s) := Xa_1.cell 0
      have cXa1_13 : _ = some (Value.slice a n c) := Xa_1.cell 1
      have cXb0_13 : _ = some (Value.bool t) := Xb_2.cell 0
      have cXb1_13 : _ = some (Value.slice b m d) := Xb_2.cell 1
      have cR00_13 : _ = some (Value.bool false) := R0_3.cell 0
      have fR00_13 := R0_3.free 0
      have cR01_13 : _ = some (Value.slice none 0 0) := R0_3.cell 1
      have fR01_13 := R0_3.free 1
      have cR10_13 : _ = some (Value.bool false) := R1_4.cell 0
      have fR10_13 := R1_4.free 0
      have cR11_13 : _ = some (Value.slice none 0 0) := R1_4.cell 1
      have fR11_13 := R1_4.free 1
      have cL0_13 : _ = some (Value.bool (decide (r0 < 0))) := L_5.cell 0
      have fL0_13 := L_5.free 0
      have cL1_13 : _ = some (Value.slice p pn pc) := L_5.cell 1
      have fL1_13 := L_5.free 1
      have cL2_13 : _ = some (Value.bool (decide (x0 < 0))) := L_5.cell 2
      have fL2_13 := L_5.free 2
      have cL3_13 : _ = some (Value.slice q qn qc) := L_5.cell 3
      have fL3_13 := L_5.free 3
      have cL4_13 : _ = some (Value.bool (decide (y0 < 0))) := L_5.cell 4
      have fL4_13 := L_5.free 4
      have cL5_13 : _ = some (Value.slice r rn rc) := L_5.cell 5
      have fL5_13 := L_5.free 5
      have cN0_13 : _ = some (Value.bool (decide (r1 < 0))) := N_6.cell 0
      have fN0_13 := N_6.free 0
      have cN1_13 : _ = some (Value.slice p' p'n p'c) := N_6.cell 1
      have fN1_13 := N_6.free 1
      have cN2_13 : _ = some (Value.bool (decide (x1 < 0))) := N_6.cell 2
      have fN2_13 := N_6.free 2
      have cN3_13 : _ = some (Value.slice q' q'n q'c) := N_6.cell 3
      have fN3_13 := N_6.free 3
      have cN4_13 : _ = some (Value.bool (decide (y1 < 0))) := N_6.cell 4
      have fN4_13 := N_6.free 4
      have cN5_13 : _ = some (Value.slice r' r'n r'c) := N_6.cell 5
      have fN5_13 := N_6.free 5
      obtain ⟨t0, ht0⟩ : ∃ t0 : Int, t0 = ((r0.natAbs / r1.natAbs : Nat) : Int) := ⟨_, rfl⟩
      obtain ⟨t1, ht1⟩ : ∃ t1 : Int, t1 = ((r0.natAbs % r1.natAbs : Nat) : Int) := ⟨_, rfl⟩
      have HT0 := hid ht0
      have HT1 := hid ht1
      clear ht0 ht1
      have HI' := hid (HI.out.step (show r1 ≠ 0 by have := hr1p.out; omega) HT0.out)
      have HP := hid (HI.out.prods (show r1 ≠ 0 by have := hr1p.out; omega) HT0.out)
      go_wp2_with fail
      refine (zquoI Op_7.rd (by omega) Op'_10.rd (by omega) HI.out.p0 hr1p.out HT0.out HT1.out).mono ?_
      rintro e w102 ⟨z, zn, zc, u, un, uc, rfl, hO, hO2, hDf, hB⟩
      clear cXa0_13 cXa1_13 cXb0_13 cXb1_13 cR00_13 fR00_13 cR01_13 fR01_13 cR10_13 fR10_13 cR11_13 fR11_13 cL0_13 fL0_13 cL1_13 fL1_13 cL2_13 fL2_13 cL3_13 fL3_13 cL4_13 fL4_13 cL5_13 fL5_13 cN0_13 fN0_13 cN1_13 fN1_13 cN2_13 fN2_13 cN3_13 fN3_13 cN4_13 fN4_13 cN5_13 fN5_13
      have hstep : Below w101.heap.size w101 w102 := (by first | exact hB | exact below_drew hB)
      have Xa_14 := Xa_1.next hstep
      have Xb_15 := Xb_2.next hstep
      have R0_16 := R0_3.next hstep
      have R1_17 := R1_4.next hstep
      have L_18 := L_5.next hstep
      have N_19 := N_6.next hstep
      have Op_20 := Op_7.below hstep
      have Oq_21 := Oq_8.below hstep
      have Or_22 := Or_9.below hstep
      have Op'_23 := Op'_10.below hstep
      have Oq'_24 := Oq'_11.below hstep
      have Or'_25 := Or'_12.below hstep
      have hbel26 := hbel13.next hstep
      have hle26 := hbel26.size
      have hls26 := hstep.size
      clear Xa_1 Xb_2 R0_3 R1_4 L_5 N_6 Op_7 Oq_8 Or_9 Op'_10 Oq'_11 Or'_12 hbel13 hstep
      have cXa0_26 : _ = some (Value.bool s) := Xa_14.cell 0
      have cXa1_26 : _ = some (Value.slice a n c) := Xa_14.cell 1
      have cXb0_26 : _ = some (Value.bool t) := Xb_15.cell 0
      have cXb1_26 : _ = some (Value.slice b m d) := Xb_15.cell 1
      have cR00_26 : _ = some (Value.bool false) := R0_16.cell 0
      have fR00_26 := R0_16.free 0
      have cR01_26 : _ = some (Value.slice none 0 0) := R0_16.cell 1
      have fR01_26 := R0_16.free 1
      have cR10_26 : _ = some (Value.bool false) := R1_17.cell 0
      have fR10_26 := R1_17.free 0
      have cR11_26 : _ = some (Value.slice none 0 0) := R1_17.cell 1
      have fR11_26 := R1_17.free 1
      have cL0_26 : _ = some (Value.bool (decide (r0 < 0))) := L_18.cell 0
      have fL0_26 := L_18.free 0
      have cL1_26 : _ = some (Value.slice p pn pc) := L_18.cell 1
      have fL1_26 := L_18.free 1
      have cL2_26 : _ = some (Value.bool (decide (x0 < 0))) := L_18.cell 2
      have fL2_26 := L_18.free 2
      have cL3_26 : _ = some (Value.slice q qn qc) := L_18.cell 3
      have fL3_26 := L_18.free 3
      have cL4_26 : _ = some (Value.bool (decide (y0 < 0))) := L_18.cell 4
      have fL4_26 := L_18.free 4
      have cL5_26 : _ = some (Value.slice r rn rc) := L_18.cell 5
      have fL5_26 := L_18.free 5
      have cN0_26 : _ = some (Value.bool (decide (r1 < 0))) := N_19.cell 0
      have fN0_26 := N_19.free 0
      have cN1_26 : _ = some (Value.slice p' p'n p'c) := N_19.cell 1
      have fN1_26 := N_19.free 1
      have cN2_26 : _ = some (Value.bool (decide (x1 < 0))) := N_19.cell 2
      have fN2_26 := N_19.free 2
      have cN3_26 : _ = some (Value.slice q' q'n q'c) := N_19.cell 3
      have fN3_26 := N_19.free 3
      have cN4_26 : _ = some (Value.bool (decide (y1 < 0))) := N_19.cell 4
      have fN4_26 := N_19.free 4
      have cN5_26 : _ = some (Value.slice r' r'n r'c) := N_19.cell 5
      have fN5_26 := N_19.free 5
      have Oz_27 := hO
      have ltz := hO.ltOf
      have Ou_28 := hO2
      have ltu := hO2.ltOf
      have awzL : Aw z (w3.heap.size) := hO.awNew (by omega)
      have awzN : Aw z (w7.heap.size) := hO.awNew (by omega)
      have awuL : Aw u (w3.heap.size) := hO2.awNew (by omega)
      have awuN : Aw u (w7.heap.size) := hO2.awNew (by omega)
      have hzn : zn ≤ 4194304 := by rw [← hK]; exact len_le (l := la) hO.len ((HM.out _ (.inl HP.out.1)).out)
      clear hO hO2 hB hDf
      have hbx := blk_new' w102 #[Value.bool (decide (t0 < 0)), Value.slice z zn zc] 25 (g := w102.heap.size) (by simp)
      have hbB := (Below.refl w102.heap.size w102).alloc (Nat.le_refl _) (.cells #[Value.bool (decide (t0 < 0)), Value.slice z zn zc] 25)
      have hbg := hbx.lt
      clear cXa0_26 cXa1_26 cXb0_26 cXb1_26 cR00_26 fR00_26 cR01_26 fR01_26 cR10_26 fR10_26 cR11_26 fR11_26 cL0_26 fL0_26 cL1_26 fL1_26 cL2_26 fL2_26 cL3_26 fL3_26 cL4_26 fL4_26 cL5_26 fL5_26 cN0_26 fN0_26 cN1_26 fN1_26 cN2_26 fN2_26 cN3_26 fN3_26 cN4_26 fN4_26 cN5_26 fN5_26
      have hstep : Below w102.heap.size w102 (w102.alloc (.cells #[Value.bool (decide (t0 < 0)), Value.slice z zn zc] 25)) := (by first | exact hbB | exact below_drew hbB)
      have Xa_29 := Xa_14.next hstep
      have Xb_30 := Xb_15.next hstep
      have R0_31 := R0_16.next hstep
      have R1_32 := R1_17.next hstep
      have L_33 := L_18.next hstep
      have N_34 := N_19.next hstep
      have Op_35 := Op_20.below hstep
      have Oq_36 := Oq_21.below hstep
      have Or_37 := Or_22.below hstep
      have Op'_38 := Op'_23.below hstep
      have Oq'_39 := Oq'_24.below hstep
      have Or'_40 := Or'_25.below hstep
      have Oz_41 := Oz_27.below hstep
      have Ou_42 := Ou_28.below hstep
      have hbel43 := hbel26.next hstep
      have hle43 := hbel43.size
      have hls43 := hstep.size
      clear Xa_14 Xb_15 R0_16 R1_17 L_18 N_19 Op_20 Oq_21 Or_22 Op'_23 Oq'_24 Or'_25 Oz_27 Ou_28 hbel26 hstep
      have cXa0_43 : _ = some (Value.bool s) := Xa_29.cell 0
      have cXa1_43 : _ = some (Value.slice a n c) := Xa_29.cell 1
      have cXb0_43 : _ = some (Value.bool t) := Xb_30.cell 0
      have cXb1_43 : _ = some (Value.slice b m d) := Xb_30.cell 1
      have cR00_43 : _ = some (Value.bool false) := R0_31.cell 0
      have fR00_43 := R0_31.free 0
      have cR01_43 : _ = some (Value.slice none 0 0) := R0_31.cell 1
      have fR01_43 := R0_31.free 1
      have cR10_43 : _ = some (Value.bool false) := R1_32.cell 0
      have fR10_43 := R1_32.free 0
      have cR11_43 : _ = some (Value.slice none 0 0) := R1_32.cell 1
      have fR11_43 := R1_32.free 1
      have cL0_43 : _ = some (Value.bool (decide (r0 < 0))) := L_33.cell 0
      have fL0_43 := L_33.free 0
      have cL1_43 : _ = some (Value.slice p pn pc) := L_33.cell 1
      have fL1_43 := L_33.free 1
      have cL2_43 : _ = some (Value.bool (decide (x0 < 0))) := L_33.cell 2
      have fL2_43 := L_33.free 2
      have cL3_43 : _ = some (Value.slice q qn qc) := L_33.cell 3
      have fL3_43 := L_33.free 3
      have cL4_43 : _ = some (Value.bool (decide (y0 < 0))) := L_33.cell 4
      have fL4_43 := L_33.free 4
      have cL5_43 : _ = some (Value.slice r rn rc) := L_33.cell 5
      have fL5_43 := L_33.free 5
      have cN0_43 : _ = some (Value.bool (decide (r1 < 0))) := N_34.cell 0
      have fN0_43 := N_34.free 0
      have cN1_43 : _ = some (Value.slice p' p'n p'c) := N_34.cell 1
      have fN1_43 := N_34.free 1
      have cN2_43 : _ = some (Value.bool (decide (x1 < 0))) := N_34.cell 2
      have fN2_43 := N_34.free 2
      have cN3_43 : _ = some (Value.slice q' q'n q'c) := N_34.cell 3
      have fN3_43 := N_34.free 3
      have cN4_43 : _ = some (Value.bool (decide (y1 < 0))) := N_34.cell 4
      have fN4_43 := N_34.free 4
      have cN5_43 : _ = some (Value.slice r' r'n r'c) := N_34.cell 5
      have fN5_43 := N_34.free 5
      have Xz_44 := hbx
      have cXz0_44 : _ = some (Value.bool (decide (t0 < 0))) := Xz_44.cell 0
      have cXz1_44 : _ = some (Value.slice z zn zc) := Xz_44.cell 1
      clear hbx hbB
      have hbx := blk_new' (w102.alloc (.cells #[Value.bool (decide (t0 < 0)), Value.slice z zn zc] 25)) #[Value.bool (decide (t1 < 0)), Value.slice u un uc] 25 (g := w102.heap.size + 1) (by simp)
      have hbB := (Below.refl (w102.alloc (.cells #[Value.bool (decide (t0 < 0)), Value.slice z zn zc] 25)).heap.size (w102.alloc (.cells #[Value.bool (decide (t0 < 0)), Value.slice z zn zc] 25))).alloc (Nat.le_refl _) (.cells #[Value.bool (decide (t1 < 0)), Value.slice u un uc] 25)
      have hbg := hbx.lt
      clear cXa0_43 cXa1_43 cXb0_43 cXb1_43 cR00_43 fR00_43 cR01_43 fR01_43 cR10_43 fR10_43 cR11_43 fR11_43 cL0_43 fL0_43 cL1_43 fL1_43 cL2_43 fL2_43 cL3_43 fL3_43 cL4_43 fL4_43 cL5_43 fL5_43 cN0_43 fN0_43 cN1_43 fN1_43 cN2_43 fN2_43 cN3_43 fN3_43 cN4_43 fN4_43 cN5_43 fN5_43 cXz0_44 cXz1_44
      have hstep : Below (w102.alloc (.cells #[Value.bool (decide (t0 < 0)), Value.slice z zn zc] 25)).heap.size (w102.alloc (.cells #[Value.bool (decide (t0 < 0)), Value.slice z zn zc] 25)) ((w102.alloc (.cells #[Value.bool (decide (t0 < 0)), Value.slice z zn zc] 25)).alloc (.cells #[Value.bool (decide (t1 < 0)), Value.slice u un uc] 25)) := (by first | exact hbB | exact below_drew hbB)
      have Xa_45 := Xa_29.next hstep
      have Xb_46 := Xb_30.next hstep
      have R0_47 := R0_31.next hstep
      have R1_48 := R1_32.next hstep
      have L_49 := L_33.next hstep
      have N_50 := N_34.next hstep
      have Xz_51 := Xz_44.next hstep
      have Op_52 := Op_35.below hstep
      have Oq_53 := Oq_36.below hstep
      have Or_54 := Or_37.below hstep
      have Op'_55 := Op'_38.below hstep
      have Oq'_56 := Oq'_39.below hstep
      have Or'_57 := Or'_40.below hstep
      have Oz_58 := Oz_41.below hstep
      have Ou_59 := Ou_42.below hstep
      have hbel60 := hbel43.next hstep
      have hle60 := hbel60.size
      have hls60 := hstep.size
      clear Xa_29 Xb_30 R0_31 R1_32 L_33 N_34 Xz_44 Op_35 Oq_36 Or_37 Op'_38 Oq'_39 Or'_40 Oz_41 Ou_42 hbel43 hstep
      have cXa0_60 : _ = some (Value.bool s) := Xa_45.cell 0
      have cXa1_60 : _ = some (Value.slice a n c) := Xa_45.cell 1
      have cXb0_60 : _ = some (Value.bool t) := Xb_46.cell 0
      have cXb1_60 : _ = some (Value.slice b m d) := Xb_46.cell 1
      have cR00_60 : _ = some (Value.bool false) := R0_47.cell 0
      have fR00_60 := R0_47.free 0
      have cR01_60 : _ = some (Value.slice none 0 0) := R0_47.cell 1
      have fR01_60 := R0_47.free 1
      have cR10_60 : _ = some (Value.bool false) := R1_48.cell 0
      have fR10_60 := R1_48.free 0
      have cR11_60 : _ = some (Value.slice none 0 0) := R1_48.cell 1
      have fR11_60 := R1_48.free 1
      have cL0_60 : _ = some (Value.bool (decide (r0 < 0))) := L_49.cell 0
      have fL0_60 := L_49.free 0
      have cL1_60 : _ = some (Value.slice p pn pc) := L_49.cell 1
      have fL1_60 := L_49.free 1
      have cL2_60 : _ = some (Value.bool (decide (x0 < 0))) := L_49.cell 2
      have fL2_60 := L_49.free 2
      have cL3_60 : _ = some (Value.slice q qn qc) := L_49.cell 3
      have fL3_60 := L_49.free 3
      have cL4_60 : _ = some (Value.bool (decide (y0 < 0))) := L_49.cell 4
      have fL4_60 := L_49.free 4
      have cL5_60 : _ = some (Value.slice r rn rc) := L_49.cell 5
      have fL5_60 := L_49.free 5
      have cN0_60 : _ = some (Value.bool (decide (r1 < 0))) := N_50.cell 0
      have fN0_60 := N_50.free 0
      have cN1_60 : _ = some (Value.slice p' p'n p'c) := N_50.cell 1
      have fN1_60 := N_50.free 1
      have cN2_60 : _ = some (Value.bool (decide (x1 < 0))) := N_50.cell 2
      have fN2_60 := N_50.free 2
      have cN3_60 : _ = some (Value.slice q' q'n q'c) := N_50.cell 3
      have fN3_60 := N_50.free 3
      have cN4_60 : _ = some (Value.bool (decide (y1 < 0))) := N_50.cell 4
      have fN4_60 := N_50.free 4
      have cN5_60 : _ = some (Value.slice r' r'n r'c) := N_50.cell 5
      have fN5_60 := N_50.free 5
      have cXz0_60 : _ = some (Value.bool (decide (t0 < 0))) := Xz_51.cell 0
      have cXz1_60 : _ = some (Value.slice z zn zc) := Xz_51.cell 1
      have Xu_61 := hbx
      have cXu0_61 : _ = some (Value.bool (decide (t1 < 0))) := Xu_61.cell 0
      have cXu1_61 : _ = some (Value.slice u un uc) := Xu_61.cell 1
      clear hbx hbB
      have hv2 : ((w102.alloc (.cells #[Value.bool (decide (t0 < 0)), Value.slice z zn zc] 25)).alloc (.cells #[Value.bool (decide (t1 < 0)), Value.slice u un uc] 25)).heap.size = w102.heap.size + 1 + 1 := by simp
      go_wp2_with fail
      generalize ((w102.alloc (.cells #[Value.bool (decide (t0 < 0)), Value.slice z zn zc] 25)).alloc (.cells #[Value.bool (decide (t1 < 0)), Value.slice u un uc] 25)) = v103 at *
      have hbx := blk_new' v103 #[Value.bool (decide (r0 < 0)), Value.slice p pn pc, Value.bool (decide (x0 < 0)), Value.slice q qn qc, Value.bool (decide (y0 < 0)), Value.slice r rn rc] 120 (g := w102.heap.size + 1 + 1) hv2
      have hbB := (Below.refl v103.heap.size v103).alloc (Nat.le_refl _) (.cells #[Value.bool (decide (r0 < 0)), Value.slice p pn pc, Value.bool (decide (x0 < 0)), Value.slice q qn qc, Value.bool (decide (y0 < 0)), Value.slice r rn rc] 120)
      have hbg := hbx.lt
      clear cXa0_60 cXa1_60 cXb0_60 cXb1_60 cR00_60 fR00_60 cR01_60 fR01_60 cR10_60 fR10_60 cR11_60 fR11_60 cL0_60 fL0_60 cL1_60 fL1_60 cL2_60 fL2_60 cL3_60 fL3_60 cL4_60 fL4_60 cL5_60 fL5_60 cN0_60 fN0_60 cN1_60 fN1_60 cN2_60 fN2_60 cN3_60 fN3_60 cN4_60 fN4_60 cN5_60 fN5_60 cXz0_60 cXz1_60 cXu0_61 cXu1_61
      have hstep : Below v103.heap.size v103 (v103.alloc (.cells #[Value.bool (decide (r0 < 0)), Value.slice p pn pc, Value.bool (decide (x0 < 0)), Value.slice q qn qc, Value.bool (decide (y0 < 0)), Value.slice r rn rc] 120)) := (by first | exact hbB | exact below_drew hbB)
      have Xa_62 := Xa_45.next hstep
      have Xb_63 := Xb_46.next hstep
      have R0_64 := R0_47.next hstep
      have R1_65 := R1_48.next hstep
      have L_66 := L_49.next hstep
      have N_67 := N_50.next hstep
      have Xz_68 := Xz_51.next hstep
      have Xu_69 := Xu_61.next hstep
      have Op_70 := Op_52.below hstep
      have Oq_71 := Oq_53.below hstep
      have Or_72 := Or_54.below hstep
      have Op'_73 := Op'_55.below hstep
      have Oq'_74 := Oq'_56.below hstep
      have Or'_75 := Or'_57.below hstep
      have Oz_76 := Oz_58.below hstep
      have Ou_77 := Ou_59.below hstep
      have hbel78 := hbel60.next hstep
      have hle78 := hbel78.size
      have hls78 := hstep.size
      clear Xa_45 Xb_46 R0_47 R1_48 L_49 N_50 Xz_51 Xu_61 Op_52 Oq_53 Or_54 Op'_55 Oq'_56 Or'_57 Oz_58 Ou_59 hbel60 hstep
      have cXa0_78 : _ = some (Value.bool s) := Xa_62.cell 0
      have cXa1_78 : _ = some (Value.slice a n c) := Xa_62.cell 1
      have cXb0_78 : _ = some (Value.bool t) := Xb_63.cell 0
      have cXb1_78 : _ = some (Value.slice b m d) := Xb_63.cell 1
      have cR00_78 : _ = some (Value.bool false) := R0_64.cell 0
      have fR00_78 := R0_64.free 0
      have cR01_78 : _ = some (Value.slice none 0 0) := R0_64.cell 1
      have fR01_78 := R0_64.free 1
      have cR10_78 : _ = some (Value.bool false) := R1_65.cell 0
      have fR10_78 := R1_65.free 0
      have cR11_78 : _ = some (Value.slice none 0 0) := R1_65.cell 1
      have fR11_78 := R1_65.free 1
      have cL0_78 : _ = some (Value.bool (decide (r0 < 0))) := L_66.cell 0
      have fL0_78 := L_66.free 0
      have cL1_78 : _ = some (Value.slice p pn pc) := L_66.cell 1
      have fL1_78 := L_66.free 1
      have cL2_78 : _ = some (Value.bool (decide (x0 < 0))) := L_66.cell 2
      have fL2_78 := L_66.free 2
      have cL3_78 : _ = some (Value.slice q qn qc) := L_66.cell 3
      have fL3_78 := L_66.free 3
      have cL4_78 : _ = some (Value.bool (decide (y0 < 0))) := L_66.cell 4
      have fL4_78 := L_66.free 4
      have cL5_78 : _ = some (Value.slice r rn rc) := L_66.cell 5
      have fL5_78 := L_66.free 5
      have cN0_78 : _ = some (Value.bool (decide (r1 < 0))) := N_67.cell 0
      have fN0_78 := N_67.free 0
      have cN1_78 : _ = some (Value.slice p' p'n p'c) := N_67.cell 1
      have fN1_78 := N_67.free 1
      have cN2_78 : _ = some (Value.bool (decide (x1 < 0))) := N_67.cell 2
      have fN2_78 := N_67.free 2
      have cN3_78 : _ = some (Value.slice q' q'n q'c) := N_67.cell 3
      have fN3_78 := N_67.free 3
      have cN4_78 : _ = some (Value.bool (decide (y1 < 0))) := N_67.cell 4
      have fN4_78 := N_67.free 4
      have cN5_78 : _ = some (Value.slice r' r'n r'c) := N_67.cell 5
      have fN5_78 := N_67.free 5
      have cXz0_78 : _ = some (Value.bool (decide (t0 < 0))) := Xz_68.cell 0
      have cXz1_78 : _ = some (Value.slice z zn zc) := Xz_68.cell 1
      have cXu0_78 : _ = some (Value.bool (decide (t1 < 0))) := Xu_69.cell 0
      have cXu1_78 : _ = some (Value.slice u un uc) := Xu_69.cell 1
      have M_79 := hbx
      have cM0_79 : _ = some (Value.bool (decide (r0 < 0))) := M_79.cell 0
      have fM0_79 := M_79.free 0
      have cM1_79 : _ = some (Value.slice p pn pc) := M_79.cell 1
      have fM1_79 := M_79.free 1
      have cM2_79 : _ = some (Value.bool (decide (x0 < 0))) := M_79.cell 2
      have fM2_79 := M_79.free 2
      have cM3_79 : _ = some (Value.slice q qn qc) := M_79.cell 3
      have fM3_79 := M_79.free 3
      have cM4_79 : _ = some (Value.bool (decide (y0 < 0))) := M_79.cell 4
      have fM4_79 := M_79.free 4
      have cM5_79 : _ = some (Value.slice r rn rc) := M_79.cell 5
      have fM5_79 := M_79.free 5
      clear hbx hbB
      generalize (v103.alloc (.cells #[Value.bool (decide (r0 < 0)), Value.slice p pn pc, Value.bool (decide (x0 < 0)), Value.slice q qn qc, Value.bool (decide (y0 < 0)), Value.slice r rn rc] 120)) = v105 at *
      have awpM : Aw p (w102.heap.size + 1 + 1) := ltp.aw (by omega)
      have awqM : Aw q (w102.heap.size + 1 + 1) := ltq.aw (by omega)
      have awrM : Aw r (w102.heap.size + 1 + 1) := ltr.aw (by omega)
      have awp'M : Aw p' (w102.heap.size + 1 + 1) := ltp'.aw (by omega)
      have awq'M : Aw q' (w102.heap.size + 1 + 1) := ltq'.aw (by omega)
      have awr'M : Aw r' (w102.heap.size + 1 + 1) := ltr'.aw (by omega)
      have awzM : Aw z (w102.heap.size + 1 + 1) := ltz.aw (by omega)
      have awuM : Aw u (w102.heap.size + 1 + 1) := ltu.aw (by omega)
      refine wp_loop_rounds 4 ?_
      rw [rounds_succ]
      go_wp2_with fail
      have KL0_0 : _ = some (Value.bool (decide (r0 < 0))) := L_66.cell 0
      have KL1_0 : _ = some (Value.slice p pn pc) := L_66.cell 1
      have KL2_0 : _ = some (Value.bool (decide (x0 < 0))) := L_66.cell 2
      have KL3_0 : _ = some (Value.slice q qn qc) := L_66.cell 3
      have KL4_0 : _ = some (Value.bool (decide (y0 < 0))) := L_66.cell 4
      have KL5_0 : _ = some (Value.slice r rn rc) := L_66.cell 5
      have KN0_0 : _ = some (Value.bool (decide (r1 < 0))) := N_67.cell 0
      have KN1_0 : _ = some (Value.slice p' p'n p'c) := N_67.cell 1
      have KN2_0 : _ = some (Value.bool (decide (x1 < 0))) := N_67.cell 2
      have KN3_0 : _ = some (Value.slice q' q'n q'c) := N_67.cell 3
      have KN4_0 : _ = some (Value.bool (decide (y1 < 0))) := N_67.cell 4
      have KN5_0 : _ = some (Value.slice r' r'n r'c) := N_67.cell 5
      have KXz0_0 : _ = some (Value.bool (decide (t0 < 0))) := Xz_68.cell 0
      have KXz1_0 : _ = some (Value.slice z zn zc) := Xz_68.cell 1
      have L_h0 := L_66
      have N_h0 := N_67
      have Xz_h0 := Xz_68
      have acc0 : Below v105.heap.size v105 v105 := Below.refl _ _
      go_region_held3 (fun w' => w'.cell? ⟨w3.heap.size, 0, none⟩ = some (Value.bool (decide (r0 < 0))) ∧ w'.cell? ⟨w3.heap.size, 1, none⟩ = some (Value.slice p pn pc) ∧ w'.cell? ⟨w3.heap.size, 2, none⟩ = some (Value.bool (decide (x0 < 0))) ∧ w'.cell? ⟨w3.heap.size, 3, none⟩ = some (Value.slice q qn qc) ∧ w'.cell? ⟨w3.heap.size, 4, none⟩ = some (Value.bool (decide (y0 < 0))) ∧ w'.cell? ⟨w3.heap.size, 5, none⟩ = some (Value.slice r rn rc) ∧ w'.cell? ⟨w7.heap.size, 0, none⟩ = some (Value.bool (decide (r1 < 0))) ∧ w'.cell? ⟨w7.heap.size, 1, none⟩ = some (Value.slice p' p'n p'c) ∧ w'.cell? ⟨w7.heap.size, 2, none⟩ = some (Value.bool (decide (x1 < 0))) ∧ w'.cell? ⟨w7.heap.size, 3, none⟩ = some (Value.slice q' q'n q'c) ∧ w'.cell? ⟨w7.heap.size, 4, none⟩ = some (Value.bool (decide (y1 < 0))) ∧ w'.cell? ⟨w7.heap.size, 5, none⟩ = some (Value.slice r' r'n r'c) ∧ w'.cell? ⟨w102.heap.size, 0, none⟩ = some (Value.bool (decide (t0 < 0))) ∧ w'.cell? ⟨w102.heap.size, 1, none⟩ = some (Value.slice z zn zc))
        (first | exact ⟨KL0_0, KL1_0, KL2_0, KL3_0, KL4_0, KL5_0, KN0_0, KN1_0, KN2_0, KN3_0, KN4_0, KN5_0, KXz0_0, KXz1_0⟩ | exact ⟨KL0_1, KL1_1, KL2_1, KL3_1, KL4_1, KL5_1, KN0_1, KN1_1, KN2_1, KN3_1, KN4_1, KN5_1, KXz0_1, KXz1_1⟩ | exact ⟨KL0_2, KL1_2, KL2_2, KL3_2, KL4_2, KL5_2, KN0_2, KN1_2, KN2_2, KN3_2, KN4_2, KN5_2, KXz0_2, KXz1_2⟩ | exact ⟨(cell_setAny (by omega) _ _).trans (KL0_2), (cell_setAny (by omega) _ _).trans (KL1_2), (cell_setAny (by omega) _ _).trans (KL2_2), (cell_setAny (by omega) _ _).trans (KL3_2), (cell_setAny (by omega) _ _).trans (KL4_2), (cell_setAny (by omega) _ _).trans (KL5_2), (cell_setAny (by omega) _ _).trans (KN0_2), (cell_setAny (by omega) _ _).trans (KN1_2), (cell_setAny (by omega) _ _).trans (KN2_2), (cell_setAny (by omega) _ _).trans (KN3_2), (cell_setAny (by omega) _ _).trans (KN4_2), (cell_setAny (by omega) _ _).trans (KN5_2), (cell_setAny (by omega) _ _).trans (KXz0_2), (cell_setAny (by omega) _ _).trans (KXz1_2)⟩ | go_keep)
        (first
          | (go_at_call 65; ((with_reducible refine (zmulI (show Rd _ z zn zc (lm t0.natAbs) from (Oz_76.below (by first | exact acc0 | exact (acc0).drew)).rd) hzn (show Rd _ p' p'n p'c (lm r1.natAbs) from (Op'_73.below (by first | exact acc0 | exact (acc0).drew)).rd) hlp').mono ?_); (rintro e w106 ⟨k0, k0n, k0c, rfl, hO1, hB⟩; have hst1 : Below v105.heap.size v105 w106 := (by first | exact hB | exact below_drew hB); have acc1 := acc0.next hst1; have L_h1 := L_h0.next hst1; have N_h1 := N_h0.next hst1; have Xz_h1 := Xz_h0.next hst1; have KL0_1 : _ = some (Value.bool (decide (r0 < 0))) := L_h1.cell 0; have KL1_1 : _ = some (Value.slice p pn pc) := L_h1.cell 1; have KL2_1 : _ = some (Value.bool (decide (x0 < 0))) := L_h1.cell 2; have KL3_1 : _ = some (Value.slice q qn qc) := L_h1.cell 3; have KL4_1 : _ = some (Value.bool (decide (y0 < 0))) := L_h1.cell 4; have KL5_1 : _ = some (Value.slice r rn rc) := L_h1.cell 5; have KN0_1 : _ = some (Value.bool (decide (r1 < 0))) := N_h1.cell 0; have KN1_1 : _ = some (Value.slice p' p'n p'c) := N_h1.cell 1; have KN2_1 : _ = some (Value.bool (decide (x1 < 0))) := N_h1.cell 2; have KN3_1 : _ = some (Value.slice q' q'n q'c) := N_h1.cell 3; have KN4_1 : _ = some (Value.bool (decide (y1 < 0))) := N_h1.cell 4; have KN5_1 : _ = some (Value.slice r' r'n r'c) := N_h1.cell 5; have KXz0_1 : _ = some (Value.bool (decide (t0 < 0))) := Xz_h1.cell 0; have KXz1_1 : _ = some (Value.slice z zn zc) := Xz_h1.cell 1; have R0_h1 := R0_64.next hst1; have R1_h1 := R1_65.next hst1; have L_h1 := L_66.next hst1; have N_h1 := N_67.next hst1; have M_h1 := M_79.next hst1; have hkn0 : k0n ≤ 4194304 := (by rw [← hK]; exact len_le (l := la) hO1.len ((HM.out _ (.inl HP.out.2.1)).out)); have hza0 := acc1.size)))
          | (go_at_call 46; ((with_reducible refine (zsubI (show Rd _ p pn pc (lm r0.natAbs) from (Op_70.below (by first | exact acc1 | exact (acc1).drew)).rd) hlp (show Rd _ k0 k0n k0c (lm (t0 * r1).natAbs) from hO1.rd) hkn0).mono ?_); (rintro e w107 ⟨f0, f0n, f0c, rfl, hO2, hB⟩; have hst2 : Below w106.heap.size w106 w107 := (by first | exact hB | exact below_drew hB); have acc2 := acc1.next hst2; have L_h2 := L_h1.next hst2; have N_h2 := N_h1.next hst2; have Xz_h2 := Xz_h1.next hst2; have KL0_2 : _ = some (Value.bool (decide (r0 < 0))) := L_h2.cell 0; have KL1_2 : _ = some (Value.slice p pn pc) := L_h2.cell 1; have KL2_2 : _ = some (Value.bool (decide (x0 < 0))) := L_h2.cell 2; have KL3_2 : _ = some (Value.slice q qn qc) := L_h2.cell 3; have KL4_2 : _ = some (Value.bool (decide (y0 < 0))) := L_h2.cell 4; have KL5_2 : _ = some (Value.slice r rn rc) := L_h2.cell 5; have KN0_2 : _ = some (Value.bool (decide (r1 < 0))) := N_h2.cell 0; have KN1_2 : _ = some (Value.slice p' p'n p'c) := N_h2.cell 1; have KN2_2 : _ = some (Value.bool (decide (x1 < 0))) := N_h2.cell 2; have KN3_2 : _ = some (Value.slice q' q'n q'c) := N_h2.cell 3; have KN4_2 : _ = some (Value.bool (decide (y1 < 0))) := N_h2.cell 4; have KN5_2 : _ = some (Value.slice r' r'n r'c) := N_h2.cell 5; have KXz0_2 : _ = some (Value.bool (decide (t0 < 0))) := Xz_h2.cell 0; have KXz1_2 : _ = some (Value.slice z zn zc) := Xz_h2.cell 1; have R0_h2 := R0_h1.next hst2; have LR00 : _ = some (Value.bool false) := R0_h2.cell 0; have MR00 := R0_h2.free 0; have LR01 : _ = some (Value.slice none 0 0) := R0_h2.cell 1; have MR01 := R0_h2.free 1; have R1_h2 := R1_h1.next hst2; have LR10 : _ = some (Value.bool false) := R1_h2.cell 0; have MR10 := R1_h2.free 0; have LR11 : _ = some (Value.slice none 0 0) := R1_h2.cell 1; have MR11 := R1_h2.free 1; have L_h2 := L_h1.next hst2; have LL0 : _ = some (Value.bool (decide (r0 < 0))) := L_h2.cell 0; have ML0 := L_h2.free 0; have LL1 : _ = some (Value.slice p pn pc) := L_h2.cell 1; have ML1 := L_h2.free 1; have LL2 : _ = some (Value.bool (decide (x0 < 0))) := L_h2.cell 2; have ML2 := L_h2.free 2; have LL3 : _ = some (Value.slice q qn qc) := L_h2.cell 3; have ML3 := L_h2.free 3; have LL4 : _ = some (Value.bool (decide (y0 < 0))) := L_h2.cell 4; have ML4 := L_h2.free 4; have LL5 : _ = some (Value.slice r rn rc) := L_h2.cell 5; have ML5 := L_h2.free 5; have N_h2 := N_h1.next hst2; have LN0 : _ = some (Value.bool (decide (r1 < 0))) := N_h2.cell 0; have MN0 := N_h2.free 0; have LN1 : _ = some (Value.slice p' p'n p'c) := N_h2.cell 1; have MN1 := N_h2.free 1; have LN2 : _ = some (Value.bool (decide (x1 < 0))) := N_h2.cell 2; have MN2 := N_h2.free 2; have LN3 : _ = some (Value.slice q' q'n q'c) := N_h2.cell 3; have MN3 := N_h2.free 3; have LN4 : _ = some (Value.bool (decide (y1 < 0))) := N_h2.cell 4; have MN4 := N_h2.free 4; have LN5 : _ = some (Value.slice r' r'n r'c) := N_h2.cell 5; have MN5 := N_h2.free 5; have M_h2 := M_h1.next hst2; have LM0 : _ = some (Value.bool (decide (r0 < 0))) := M_h2.cell 0; have MM0 := M_h2.free 0; have LM1 : _ = some (Value.slice p pn pc) := M_h2.cell 1; have MM1 := M_h2.free 1; have LM2 : _ = some (Value.bool (decide (x0 < 0))) := M_h2.cell 2; have MM2 := M_h2.free 2; have LM3 : _ = some (Value.slice q qn qc) := M_h2.cell 3; have MM3 := M_h2.free 3; have LM4 : _ = some (Value.bool (decide (y0 < 0))) := M_h2.cell 4; have MM4 := M_h2.free 4; have LM5 : _ = some (Value.slice r rn rc) := M_h2.cell 5; have MM5 := M_h2.free 5))))
      clear cXa0_78 cXa1_78 cXb0_78 cXb1_78 cR00_78 fR00_78 cR01_78 fR01_78 cR10_78 fR10_78 cR11_78 fR11_78 cL0_78 fL0_78 cL1_78 fL1_78 cL2_78 fL2_78 cL3_78 fL3_78 cL4_78 fL4_78 cL5_78 fL5_78 cN0_78 fN0_78 cN1_78 fN1_78 cN2_78 fN2_78 cN3_78 fN3_78 cN4_78 fN4_78 cN5_78 fN5_78 cXz0_78 cXz1_78 cXu0_78 cXu1_78 cM0_79 fM0_79 cM1_79 fM1_79 cM2_79 fM2_79 cM3_79 fM3_79 cM4_79 fM4_79 cM5_79 fM5_79
      have hstep : Below v105.heap.size v105 w107 := (by first | exact acc2 | exact below_drew acc2)
      have Xa_80 := Xa_62.next hstep
      have Xb_81 := Xb_63.next hstep
      have R0_82 := R0_64.next hstep
      have R1_83 := R1_65.next hstep
      have L_84 := L_66.next hstep
      have N_85 := N_67.next hstep
      have Xz_86 := Xz_68.next hstep
      have Xu_87 := Xu_69.next hstep
      have M_88 := M_79.next hstep
      have Op_89 := Op_70.below hstep
      have Oq_90 := Oq_71.below hstep
      have Or_91 := Or_72.below hstep
      have Op'_92 := Op'_73.below hstep
      have Oq'_93 := Oq'_74.below hstep
      have Or'_94 := Or'_75.below hstep
      have Oz_95 := Oz_76.below hstep
      have Ou_96 := Ou_77.below hstep
      have hbel97 := hbel78.next hstep
      have hle97 := hbel97.size
      have hls97 := hstep.size
      clear Xa_62 Xb_63 R0_64 R1_65 L_66 N_67 Xz_68 Xu_69 M_79 Op_70 Oq_71 Or_72 Op'_73 Oq'_74 Or'_75 Oz_76 Ou_77 hbel78 hstep
      have cXa0_97 : _ = some (Value.bool s) := Xa_80.cell 0
      have cXa1_97 : _ = some (Value.slice a n c) := Xa_80.cell 1
      have cXb0_97 : _ = some (Value.bool t) := Xb_81.cell 0
      have cXb1_97 : _ = some (Value.slice b m d) := Xb_81.cell 1
      have cR00_97 : _ = some (Value.bool false) := R0_82.cell 0
      have fR00_97 := R0_82.free 0
      have cR01_97 : _ = some (Value.slice none 0 0) := R0_82.cell 1
      have fR01_97 := R0_82.free 1
      have cR10_97 : _ = some (Value.bool false) := R1_83.cell 0
      have fR10_97 := R1_83.free 0
      have cR11_97 : _ = some (Value.slice none 0 0) := R1_83.cell 1
      have fR11_97 := R1_83.free 1
      have cL0_97 : _ = some (Value.bool (decide (r0 < 0))) := L_84.cell 0
      have fL0_97 := L_84.free 0
      have cL1_97 : _ = some (Value.slice p pn pc) := L_84.cell 1
      have fL1_97 := L_84.free 1
      have cL2_97 : _ = some (Value.bool (decide (x0 < 0))) := L_84.cell 2
      have fL2_97 := L_84.free 2
      have cL3_97 : _ = some (Value.slice q qn qc) := L_84.cell 3
      have fL3_97 := L_84.free 3
      have cL4_97 : _ = some (Value.bool (decide (y0 < 0))) := L_84.cell 4
      have fL4_97 := L_84.free 4
      have cL5_97 : _ = some (Value.slice r rn rc) := L_84.cell 5
      have fL5_97 := L_84.free 5
      have cN0_97 : _ = some (Value.bool (decide (r1 < 0))) := N_85.cell 0
      have fN0_97 := N_85.free 0
      have cN1_97 : _ = some (Value.slice p' p'n p'c) := N_85.cell 1
      have fN1_97 := N_85.free 1
      have cN2_97 : _ = some (Value.bool (decide (x1 < 0))) := N_85.cell 2
      have fN2_97 := N_85.free 2
      have cN3_97 : _ = some (Value.slice q' q'n q'c) := N_85.cell 3
      have fN3_97 := N_85.free 3
      have cN4_97 : _ = some (Value.bool (decide (y1 < 0))) := N_85.cell 4
      have fN4_97 := N_85.free 4
      have cN5_97 : _ = some (Value.slice r' r'n r'c) := N_85.cell 5
      have fN5_97 := N_85.free 5
      have cXz0_97 : _ = some (Value.bool (decide (t0 < 0))) := Xz_86.cell 0
      have cXz1_97 : _ = some (Value.slice z zn zc) := Xz_86.cell 1
      have cXu0_97 : _ = some (Value.bool (decide (t1 < 0))) := Xu_87.cell 0
      have cXu1_97 : _ = some (Value.slice u un uc) := Xu_87.cell 1
      have cM0_97 : _ = some (Value.bool (decide (r0 < 0))) := M_88.cell 0
      have fM0_97 := M_88.free 0
      have cM1_97 : _ = some (Value.slice p pn pc) := M_88.cell 1
      have fM1_97 := M_88.free 1
      have cM2_97 : _ = some (Value.bool (decide (x0 < 0))) := M_88.cell 2
      have fM2_97 := M_88.free 2
      have cM3_97 : _ = some (Value.slice q qn qc) := M_88.cell 3
      have fM3_97 := M_88.free 3
      have cM4_97 : _ = some (Value.bool (decide (y0 < 0))) := M_88.cell 4
      have fM4_97 := M_88.free 4
      have cM5_97 : _ = some (Value.slice r rn rc) := M_88.cell 5
      have fM5_97 := M_88.free 5
      clear acc0 acc1 acc2 hst1 hst2 KL0_0 KL1_0 KL2_0 KL3_0 KL4_0 KL5_0 KN0_0 KN1_0 KN2_0 KN3_0 KN4_0 KN5_0 KXz0_0 KXz1_0 KL0_1 KL1_1 KL2_1 KL3_1 KL4_1 KL5_1 KN0_1 KN1_1 KN2_1 KN3_1 KN4_1 KN5_1 KXz0_1 KXz1_1 KL0_2 KL1_2 KL2_2 KL3_2 KL4_2 KL5_2 KN0_2 KN1_2 KN2_2 KN3_2 KN4_2 KN5_2 KXz0_2 KXz1_2 L_h0 L_h1 L_h2 N_h0 N_h1 N_h2 Xz_h0 Xz_h1 Xz_h2
      clear R0_h1 R0_h2 R1_h1 R1_h2 L_h1 L_h2 N_h1 N_h2 M_h1 M_h2 LR00 MR00 LR01 MR01 LR10 MR10 LR11 MR11 LL0 ML0 LL1 ML1 LL2 ML2 LL3 ML3 LL4 ML4 LL5 ML5 LN0 MN0 LN1 MN1 LN2 MN2 LN3 MN3 LN4 MN4 LN5 MN5 LM0 MM0 LM1 MM1 LM2 MM2 LM3 MM3 LM4 MM4 LM5 MM5
      have Of0_98 := hO2
      have ltf0 := hO2.ltOf
      have awf0L : Aw f0 (w3.heap.size) := hO2.awNew (by first | omega | (simp only [World.drew]; omega))
      have awf0N : Aw f0 (w7.heap.size) := hO2.awNew (by first | omega | (simp only [World.drew]; omega))
      have awf0M : Aw f0 (w102.heap.size + 1 + 1) := hO2.awNew (by first | omega | (simp only [World.drew]; omega))
      clear hO1 hO2
      clear cXa0_97 cXa1_97 cXb0_97 cXb1_97 cR00_97 fR00_97 cR01_97 fR01_97 cR10_97 fR10_97 cR11_97 fR11_97 cL0_97 fL0_97 cL1_97 fL1_97 cL2_97 fL2_97 cL3_97 fL3_97 cL4_97 fL4_97 cL5_97 fL5_97 cN0_97 fN0_97 cN1_97 fN1_97 cN2_97 fN2_97 cN3_97 fN3_97 cN4_97 fN4_97 cN5_97 fN5_97 cXz0_97 cXz1_97 cXu0_97 cXu1_97 cM0_97 fM0_97 cM1_97 fM1_97 cM2_97 fM2_97 cM3_97 fM3_97 cM4_97 fM4_97 cM5_97 fM5_97
      have hkp : Kp (fun k => k = w102.heap.size + 1 + 1) w107 ((w107.setCell ⟨w102.heap.size + 1 + 1, 0, none⟩ (Value.bool (decide (r0 - t0 * r1 < 0)))).setCell ⟨w102.heap.size + 1 + 1, 1, none⟩ (Value.slice f0 f0n f0c)) := ((Kp.refl (fun k => k = w102.heap.size + 1 + 1) w107).setCell rfl (Value.bool (decide (r0 - t0 * r1 < 0)))).setCell rfl (Value.slice f0 f0n f0c)
      have M_99 := (show Blk _ _ #[Value.bool (decide (r0 - t0 * r1 < 0)), Value.slice f0 f0n f0c, Value.bool (decide (x0 < 0)), Value.slice q qn qc, Value.bool (decide (y0 < 0)), Value.slice r rn rc] from ((M_88).setCell (i := 0) (v := Value.bool (decide (r0 - t0 * r1 < 0))) (by simp)).setCell (i := 1) (v := Value.slice f0 f0n f0c) (by simp))
      have Xa_100 := Xa_80.kp hkp (show ¬ (w.heap.size = w102.heap.size + 1 + 1) by omega)
      have Xb_101 := Xb_81.kp hkp (show ¬ (w.heap.size + 1 = w102.heap.size + 1 + 1) by omega)
      have R0_102 := R0_82.kp hkp (show ¬ (w.heap.size + 1 + 1 = w102.heap.size + 1 + 1) by omega)
      have R1_103 := R1_83.kp hkp (show ¬ (w.heap.size + 1 + 1 + 1 = w102.heap.size + 1 + 1) by omega)
      have L_104 := L_84.kp hkp (show ¬ (w3.heap.size = w102.heap.size + 1 + 1) by omega)
      have N_105 := N_85.kp hkp (show ¬ (w7.heap.size = w102.heap.size + 1 + 1) by omega)
      have Xz_106 := Xz_86.kp hkp (show ¬ (w102.heap.size = w102.heap.size + 1 + 1) by omega)
      have Xu_107 := Xu_87.kp hkp (show ¬ (w102.heap.size + 1 = w102.heap.size + 1 + 1) by omega)
      have Op_108 := Op_89.kp hkp (fun g' e => awpM g' e)
      have Oq_109 := Oq_90.kp hkp (fun g' e => awqM g' e)
      have Or_110 := Or_91.kp hkp (fun g' e => awrM g' e)
      have Op'_111 := Op'_92.kp hkp (fun g' e => awp'M g' e)
      have Oq'_112 := Oq'_93.kp hkp (fun g' e => awq'M g' e)
      have Or'_113 := Or'_94.kp hkp (fun g' e => awr'M g' e)
      have Oz_114 := Oz_95.kp hkp (fun g' e => awzM g' e)
      have Ou_115 := Ou_96.kp hkp (fun g' e => awuM g' e)
      have Of0_116 := Of0_98.kp hkp (fun g' e => awf0M g' e)
      have hbel117 := hbel97.kp hkp (hbel97).size (fun k hk => (show ¬ (k = w102.heap.size + 1 + 1) by omega))
      have hse117 := hkp.size
      clear Xa_80 Xb_81 R0_82 R1_83 L_84 N_85 Xz_86 Xu_87 M_88 Op_89 Oq_90 Or_91 Op'_92 Oq'_93 Or'_94 Oz_95 Ou_96 Of0_98 hbel97 hkp
      generalize ((w107.setCell ⟨w102.heap.size + 1 + 1, 0, none⟩ (Value.bool (decide (r0 - t0 * r1 < 0)))).setCell ⟨w102.heap.size + 1 + 1, 1, none⟩ (Value.slice f0 f0n f0c)) = v108 at *
      have cXa0_117 : _ = some (Value.bool s) := Xa_100.cell 0
      have cXa1_117 : _ = some (Value.slice a n c) := Xa_100.cell 1
      have cXb0_117 : _ = some (Value.bool t) := Xb_101.cell 0
      have cXb1_117 : _ = some (Value.slice b m d) := Xb_101.cell 1
      have cR00_117 : _ = some (Value.bool false) := R0_102.cell 0
      have fR00_117 := R0_102.free 0
      have cR01_117 : _ = some (Value.slice none 0 0) := R0_102.cell 1
      have fR01_117 := R0_102.free 1
      have cR10_117 : _ = some (Value.bool false) := R1_103.cell 0
      have fR10_117 := R1_103.free 0
      have cR11_117 : _ = some (Value.slice none 0 0) := R1_103.cell 1
      have fR11_117 := R1_103.free 1
      have cL0_117 : _ = some (Value.bool (decide (r0 < 0))) := L_104.cell 0
      have fL0_117 := L_104.free 0
      have cL1_117 : _ = some (Value.slice p pn pc) := L_104.cell 1
      have fL1_117 := L_104.free 1
      have cL2_117 : _ = some (Value.bool (decide (x0 < 0))) := L_104.cell 2
      have fL2_117 := L_104.free 2
      have cL3_117 : _ = some (Value.slice q qn qc) := L_104.cell 3
      have fL3_117 := L_104.free 3
      have cL4_117 : _ = some (Value.bool (decide (y0 < 0))) := L_104.cell 4
      have fL4_117 := L_104.free 4
      have cL5_117 : _ = some (Value.slice r rn rc) := L_104.cell 5
      have fL5_117 := L_104.free 5
      have cN0_117 : _ = some (Value.bool (decide (r1 < 0))) := N_105.cell 0
      have fN0_117 := N_105.free 0
      have cN1_117 : _ = some (Value.slice p' p'n p'c) := N_105.cell 1
      have fN1_117 := N_105.free 1
      have cN2_117 : _ = some (Value.bool (decide (x1 < 0))) := N_105.cell 2
      have fN2_117 := N_105.free 2
      have cN3_117 : _ = some (Value.slice q' q'n q'c) := N_105.cell 3
      have fN3_117 := N_105.free 3
      have cN4_117 : _ = some (Value.bool (decide (y1 < 0))) := N_105.cell 4
      have fN4_117 := N_105.free 4
      have cN5_117 : _ = some (Value.slice r' r'n r'c) := N_105.cell 5
      have fN5_117 := N_105.free 5
      have cXz0_117 : _ = some (Value.bool (decide (t0 < 0))) := Xz_106.cell 0
      have cXz1_117 : _ = some (Value.slice z zn zc) := Xz_106.cell 1
      have cXu0_117 : _ = some (Value.bool (decide (t1 < 0))) := Xu_107.cell 0
      have cXu1_117 : _ = some (Value.slice u un uc) := Xu_107.cell 1
      have cM0_117 : _ = some (Value.bool (decide (r0 - t0 * r1 < 0))) := M_99.cell 0
      have fM0_117 := M_99.free 0
      have cM1_117 : _ = some (Value.slice f0 f0n f0c) := M_99.cell 1
      have fM1_117 := M_99.free 1
      have cM2_117 : _ = some (Value.bool (decide (x0 < 0))) := M_99.cell 2
      have fM2_117 := M_99.free 2
      have cM3_117 : _ = some (Value.slice q qn qc) := M_99.cell 3
      have fM3_117 := M_99.free 3
      have cM4_117 : _ = some (Value.bool (decide (y0 < 0))) := M_99.cell 4
      have fM4_117 := M_99.free 4
      have cM5_117 : _ = some (Value.slice r rn rc) := M_99.cell 5
      have fM5_117 := M_99.free 5
      go_wp2_with fail
      rw [rounds_succ]
      go_wp2_with fail
      have KL0_0 : _ = some (Value.bool (decide (r0 < 0))) := L_104.cell 0
      have KL1_0 : _ = some (Value.slice p pn pc) := L_104.cell 1
      have KL2_0 : _ = some (Value.bool (decide (x0 < 0))) := L_104.cell 2
      have KL3_0 : _ = some (Value.slice q qn qc) := L_104.cell 3
      have KL4_0 : _ = some (Value.bool (decide (y0 < 0))) := L_104.cell 4
      have KL5_0 : _ = some (Value.slice r rn rc) := L_104.cell 5
      have KN0_0 : _ = some (Value.bool (decide (r1 < 0))) := N_105.cell 0
      have KN1_0 : _ = some (Value.slice p' p'n p'c) := N_105.cell 1
      have KN2_0 : _ = some (Value.bool (decide (x1 < 0))) := N_105.cell 2
      have KN3_0 : _ = some (Value.slice q' q'n q'c) := N_105.cell 3
      have KN4_0 : _ = some (Value.bool (decide (y1 < 0))) := N_105.cell 4
      have KN5_0 : _ = some (Value.slice r' r'n r'c) := N_105.cell 5
      have KXz0_0 : _ = some (Value.bool (decide (t0 < 0))) := Xz_106.cell 0
      have KXz1_0 : _ = some (Value.slice z zn zc) := Xz_106.cell 1
      have L_h0 := L_104
      have N_h0 := N_105
      have Xz_h0 := Xz_106
      have acc0 : Below v108.heap.size v108 v108 := Below.refl _ _
      go_region_held3 (fun w' => w'.cell? ⟨w3.heap.size, 0, none⟩ = some (Value.bool (decide (r0 < 0))) ∧ w'.cell? ⟨w3.heap.size, 1, none⟩ = some (Value.slice p pn pc) ∧ w'.cell? ⟨w3.heap.size, 2, none⟩ = some (Value.bool (decide (x0 < 0))) ∧ w'.cell? ⟨w3.heap.size, 3, none⟩ = some (Value.slice q qn qc) ∧ w'.cell? ⟨w3.heap.size, 4, none⟩ = some (Value.bool (decide (y0 < 0))) ∧ w'.cell? ⟨w3.heap.size, 5, none⟩ = some (Value.slice r rn rc) ∧ w'.cell? ⟨w7.heap.size, 0, none⟩ = some (Value.bool (decide (r1 < 0))) ∧ w'.cell? ⟨w7.heap.size, 1, none⟩ = some (Value.slice p' p'n p'c) ∧ w'.cell? ⟨w7.heap.size, 2, none⟩ = some (Value.bool (decide (x1 < 0))) ∧ w'.cell? ⟨w7.heap.size, 3, none⟩ = some (Value.slice q' q'n q'c) ∧ w'.cell? ⟨w7.heap.size, 4, none⟩ = some (Value.bool (decide (y1 < 0))) ∧ w'.cell? ⟨w7.heap.size, 5, none⟩ = some (Value.slice r' r'n r'c) ∧ w'.cell? ⟨w102.heap.size, 0, none⟩ = some (Value.bool (decide (t0 < 0))) ∧ w'.cell? ⟨w102.heap.size, 1, none⟩ = some (Value.slice z zn zc))
        (first | exact ⟨KL0_0, KL1_0, KL2_0, KL3_0, KL4_0, KL5_0, KN0_0, KN1_0, KN2_0, KN3_0, KN4_0, KN5_0, KXz0_0, KXz1_0⟩ | exact ⟨KL0_1, KL1_1, KL2_1, KL3_1, KL4_1, KL5_1, KN0_1, KN1_1, KN2_1, KN3_1, KN4_1, KN5_1, KXz0_1, KXz1_1⟩ | exact ⟨KL0_2, KL1_2, KL2_2, KL3_2, KL4_2, KL5_2, KN0_2, KN1_2, KN2_2, KN3_2, KN4_2, KN5_2, KXz0_2, KXz1_2⟩ | exact ⟨(cell_setAny (by omega) _ _).trans (KL0_2), (cell_setAny (by omega) _ _).trans (KL1_2), (cell_setAny (by omega) _ _).trans (KL2_2), (cell_setAny (by omega) _ _).trans (KL3_2), (cell_setAny (by omega) _ _).trans (KL4_2), (cell_setAny (by omega) _ _).trans (KL5_2), (cell_setAny (by omega) _ _).trans (KN0_2), (cell_setAny (by omega) _ _).trans (KN1_2), (cell_setAny (by omega) _ _).trans (KN2_2), (cell_setAny (by omega) _ _).trans (KN3_2), (cell_setAny (by omega) _ _).trans (KN4_2), (cell_setAny (by omega) _ _).trans (KN5_2), (cell_setAny (by omega) _ _).trans (KXz0_2), (cell_setAny (by omega) _ _).trans (KXz1_2)⟩ | go_keep)
        (first
          | (go_at_call 65; ((with_reducible refine (zmulI (show Rd _ z zn zc (lm t0.natAbs) from (Oz_114.below (by first | exact acc0 | exact (acc0).drew)).rd) hzn (show Rd _ q' q'n q'c (lm x1.natAbs) from (Oq'_112.below (by first | exact acc0 | exact (acc0).drew)).rd) hlq').mono ?_); (rintro e w109 ⟨k1, k1n, k1c, rfl, hO1, hB⟩; have hst1 : Below v108.heap.size v108 w109 := (by first | exact hB | exact below_drew hB); have acc1 := acc0.next hst1; have L_h1 := L_h0.next hst1; have N_h1 := N_h0.next hst1; have Xz_h1 := Xz_h0.next hst1; have KL0_1 : _ = some (Value.bool (decide (r0 < 0))) := L_h1.cell 0; have KL1_1 : _ = some (Value.slice p pn pc) := L_h1.cell 1; have KL2_1 : _ = some (Value.bool (decide (x0 < 0))) := L_h1.cell 2; have KL3_1 : _ = some (Value.slice q qn qc) := L_h1.cell 3; have KL4_1 : _ = some (Value.bool (decide (y0 < 0))) := L_h1.cell 4; have KL5_1 : _ = some (Value.slice r rn rc) := L_h1.cell 5; have KN0_1 : _ = some (Value.bool (decide (r1 < 0))) := N_h1.cell 0; have KN1_1 : _ = some (Value.slice p' p'n p'c) := N_h1.cell 1; have KN2_1 : _ = some (Value.bool (decide (x1 < 0))) := N_h1.cell 2; have KN3_1 : _ = some (Value.slice q' q'n q'c) := N_h1.cell 3; have KN4_1 : _ = some (Value.bool (decide (y1 < 0))) := N_h1.cell 4; have KN5_1 : _ = some (Value.slice r' r'n r'c) := N_h1.cell 5; have KXz0_1 : _ = some (Value.bool (decide (t0 < 0))) := Xz_h1.cell 0; have KXz1_1 : _ = some (Value.slice z zn zc) := Xz_h1.cell 1; have R0_h1 := R0_102.next hst1; have R1_h1 := R1_103.next hst1; have L_h1 := L_104.next hst1; have N_h1 := N_105.next hst1; have M_h1 := M_99.next hst1; have hkn1 : k1n ≤ 4194304 := (by rw [← hK]; exact len_le (l := la) hO1.len ((HM.out _ (.inr (.inl HP.out.2.2.1))).out)); have hza1 := acc1.size)))
          | (go_at_call 46; ((with_reducible refine (zsubI (show Rd _ q qn qc (lm x0.natAbs) from (Oq_109.below (by first | exact acc1 | exact (acc1).drew)).rd) hlq (show Rd _ k1 k1n k1c (lm (t0 * x1).natAbs) from hO1.rd) hkn1).mono ?_); (rintro e w110 ⟨f1, f1n, f1c, rfl, hO2, hB⟩; have hst2 : Below w109.heap.size w109 w110 := (by first | exact hB | exact below_drew hB); have acc2 := acc1.next hst2; have L_h2 := L_h1.next hst2; have N_h2 := N_h1.next hst2; have Xz_h2 := Xz_h1.next hst2; have KL0_2 : _ = some (Value.bool (decide (r0 < 0))) := L_h2.cell 0; have KL1_2 : _ = some (Value.slice p pn pc) := L_h2.cell 1; have KL2_2 : _ = some (Value.bool (decide (x0 < 0))) := L_h2.cell 2; have KL3_2 : _ = some (Value.slice q qn qc) := L_h2.cell 3; have KL4_2 : _ = some (Value.bool (decide (y0 < 0))) := L_h2.cell 4; have KL5_2 : _ = some (Value.slice r rn rc) := L_h2.cell 5; have KN0_2 : _ = some (Value.bool (decide (r1 < 0))) := N_h2.cell 0; have KN1_2 : _ = some (Value.slice p' p'n p'c) := N_h2.cell 1; have KN2_2 : _ = some (Value.bool (decide (x1 < 0))) := N_h2.cell 2; have KN3_2 : _ = some (Value.slice q' q'n q'c) := N_h2.cell 3; have KN4_2 : _ = some (Value.bool (decide (y1 < 0))) := N_h2.cell 4; have KN5_2 : _ = some (Value.slice r' r'n r'c) := N_h2.cell 5; have KXz0_2 : _ = some (Value.bool (decide (t0 < 0))) := Xz_h2.cell 0; have KXz1_2 : _ = some (Value.slice z zn zc) := Xz_h2.cell 1; have R0_h2 := R0_h1.next hst2; have LR00 : _ = some (Value.bool false) := R0_h2.cell 0; have MR00 := R0_h2.free 0; have LR01 : _ = some (Value.slice none 0 0) := R0_h2.cell 1; have MR01 := R0_h2.free 1; have R1_h2 := R1_h1.next hst2; have LR10 : _ = some (Value.bool false) := R1_h2.cell 0; have MR10 := R1_h2.free 0; have LR11 : _ = some (Value.slice none 0 0) := R1_h2.cell 1; have MR11 := R1_h2.free 1; have L_h2 := L_h1.next hst2; have LL0 : _ = some (Value.bool (decide (r0 < 0))) := L_h2.cell 0; have ML0 := L_h2.free 0; have LL1 : _ = some (Value.slice p pn pc) := L_h2.cell 1; have ML1 := L_h2.free 1; have LL2 : _ = some (Value.bool (decide (x0 < 0))) := L_h2.cell 2; have ML2 := L_h2.free 2; have LL3 : _ = some (Value.slice q qn qc) := L_h2.cell 3; have ML3 := L_h2.free 3; have LL4 : _ = some (Value.bool (decide (y0 < 0))) := L_h2.cell 4; have ML4 := L_h2.free 4; have LL5 : _ = some (Value.slice r rn rc) := L_h2.cell 5; have ML5 := L_h2.free 5; have N_h2 := N_h1.next hst2; have LN0 : _ = some (Value.bool (decide (r1 < 0))) := N_h2.cell 0; have MN0 := N_h2.free 0; have LN1 : _ = some (Value.slice p' p'n p'c) := N_h2.cell 1; have MN1 := N_h2.free 1; have LN2 : _ = some (Value.bool (decide (x1 < 0))) := N_h2.cell 2; have MN2 := N_h2.free 2; have LN3 : _ = some (Value.slice q' q'n q'c) := N_h2.cell 3; have MN3 := N_h2.free 3; have LN4 : _ = some (Value.bool (decide (y1 < 0))) := N_h2.cell 4; have MN4 := N_h2.free 4; have LN5 : _ = some (Value.slice r' r'n r'c) := N_h2.cell 5; have MN5 := N_h2.free 5; have M_h2 := M_h1.next hst2; have LM0 : _ = some (Value.bool (decide (r0 - t0 * r1 < 0))) := M_h2.cell 0; have MM0 := M_h2.free 0; have LM1 : _ = some (Value.slice f0 f0n f0c) := M_h2.cell 1; have MM1 := M_h2.free 1; have LM2 : _ = some (Value.bool (decide (x0 < 0))) := M_h2.cell 2; have MM2 := M_h2.free 2; have LM3 : _ = some (Value.slice q qn qc) := M_h2.cell 3; have MM3 := M_h2.free 3; have LM4 : _ = some (Value.bool (decide (y0 < 0))) := M_h2.cell 4; have MM4 := M_h2.free 4; have LM5 : _ = some (Value.slice r rn rc) := M_h2.cell 5; have MM5 := M_h2.free 5))))
      clear cXa0_117 cXa1_117 cXb0_117 cXb1_117 cR00_117 fR00_117 cR01_117 fR01_117 cR10_117 fR10_117 cR11_117 fR11_117 cL0_117 fL0_117 cL1_117 fL1_117 cL2_117 fL2_117 cL3_117 fL3_117 cL4_117 fL4_117 cL5_117 fL5_117 cN0_117 fN0_117 cN1_117 fN1_117 cN2_117 fN2_117 cN3_117 fN3_117 cN4_117 fN4_117 cN5_117 fN5_117 cXz0_117 cXz1_117 cXu0_117 cXu1_117 cM0_117 fM0_117 cM1_117 fM1_117 cM2_117 fM2_117 cM3_117 fM3_117 cM4_117 fM4_117 cM5_117 fM5_117
      have hstep : Below v108.heap.size v108 w110 := (by first | exact acc2 | exact below_drew acc2)
      have Xa_118 := Xa_100.next hstep
      have Xb_119 := Xb_101.next hstep
      have R0_120 := R0_102.next hstep
      have R1_121 := R1_103.next hstep
      have L_122 := L_104.next hstep
      have N_123 := N_105.next hstep
      have Xz_124 := Xz_106.next hstep
      have Xu_125 := Xu_107.next hstep
      have M_126 := M_99.next hstep
      have Op_127 := Op_108.below hstep
      have Oq_128 := Oq_109.below hstep
      have Or_129 := Or_110.below hstep
      have Op'_130 := Op'_111.below hstep
      have Oq'_131 := Oq'_112.below hstep
      have Or'_132 := Or'_113.below hstep
      have Oz_133 := Oz_114.below hstep
      have Ou_134 := Ou_115.below hstep
      have Of0_135 := Of0_116.below hstep
      have hbel136 := hbel117.next hstep
      have hle136 := hbel136.size
      have hls136 := hstep.size
      clear Xa_100 Xb_101 R0_102 R1_103 L_104 N_105 Xz_106 Xu_107 M_99 Op_108 Oq_109 Or_110 Op'_111 Oq'_112 Or'_113 Oz_114 Ou_115 Of0_116 hbel117 hstep
      have cXa0_136 : _ = some (Value.bool s) := Xa_118.cell 0
      have cXa1_136 : _ = some (Value.slice a n c) := Xa_118.cell 1
      have cXb0_136 : _ = some (Value.bool t) := Xb_119.cell 0
      have cXb1_136 : _ = some (Value.slice b m d) := Xb_119.cell 1
      have cR00_136 : _ = some (Value.bool false) := R0_120.cell 0
      have fR00_136 := R0_120.free 0
      have cR01_136 : _ = some (Value.slice none 0 0) := R0_120.cell 1
      have fR01_136 := R0_120.free 1
      have cR10_136 : _ = some (Value.bool false) := R1_121.cell 0
      have fR10_136 := R1_121.free 0
      have cR11_136 : _ = some (Value.slice none 0 0) := R1_121.cell 1
      have fR11_136 := R1_121.free 1
      have cL0_136 : _ = some (Value.bool (decide (r0 < 0))) := L_122.cell 0
      have fL0_136 := L_122.free 0
      have cL1_136 : _ = some (Value.slice p pn pc) := L_122.cell 1
      have fL1_136 := L_122.free 1
      have cL2_136 : _ = some (Value.bool (decide (x0 < 0))) := L_122.cell 2
      have fL2_136 := L_122.free 2
      have cL3_136 : _ = some (Value.slice q qn qc) := L_122.cell 3
      have fL3_136 := L_122.free 3
      have cL4_136 : _ = some (Value.bool (decide (y0 < 0))) := L_122.cell 4
      have fL4_136 := L_122.free 4
      have cL5_136 : _ = some (Value.slice r rn rc) := L_122.cell 5
      have fL5_136 := L_122.free 5
      have cN0_136 : _ = some (Value.bool (decide (r1 < 0))) := N_123.cell 0
      have fN0_136 := N_123.free 0
      have cN1_136 : _ = some (Value.slice p' p'n p'c) := N_123.cell 1
      have fN1_136 := N_123.free 1
      have cN2_136 : _ = some (Value.bool (decide (x1 < 0))) := N_123.cell 2
      have fN2_136 := N_123.free 2
      have cN3_136 : _ = some (Value.slice q' q'n q'c) := N_123.cell 3
      have fN3_136 := N_123.free 3
      have cN4_136 : _ = some (Value.bool (decide (y1 < 0))) := N_123.cell 4
      have fN4_136 := N_123.free 4
      have cN5_136 : _ = some (Value.slice r' r'n r'c) := N_123.cell 5
      have fN5_136 := N_123.free 5
      have cXz0_136 : _ = some (Value.bool (decide (t0 < 0))) := Xz_124.cell 0
      have cXz1_136 : _ = some (Value.slice z zn zc) := Xz_124.cell 1
      have cXu0_136 : _ = some (Value.bool (decide (t1 < 0))) := Xu_125.cell 0
      have cXu1_136 : _ = some (Value.slice u un uc) := Xu_125.cell 1
      have cM0_136 : _ = some (Value.bool (decide (r0 - t0 * r1 < 0))) := M_126.cell 0
      have fM0_136 := M_126.free 0
      have cM1_136 : _ = some (Value.slice f0 f0n f0c) := M_126.cell 1
      have fM1_136 := M_126.free 1
      have cM2_136 : _ = some (Value.bool (decide (x0 < 0))) := M_126.cell 2
      have fM2_136 := M_126.free 2
      have cM3_136 : _ = some (Value.slice q qn qc) := M_126.cell 3
      have fM3_136 := M_126.free 3
      have cM4_136 : _ = some (Value.bool (decide (y0 < 0))) := M_126.cell 4
      have fM4_136 := M_126.free 4
      have cM5_136 : _ = some (Value.slice r rn rc) := M_126.cell 5
      have fM5_136 := M_126.free 5
      clear acc0 acc1 acc2 hst1 hst2 KL0_0 KL1_0 KL2_0 KL3_0 KL4_0 KL5_0 KN0_0 KN1_0 KN2_0 KN3_0 KN4_0 KN5_0 KXz0_0 KXz1_0 KL0_1 KL1_1 KL2_1 KL3_1 KL4_1 KL5_1 KN0_1 KN1_1 KN2_1 KN3_1 KN4_1 KN5_1 KXz0_1 KXz1_1 KL0_2 KL1_2 KL2_2 KL3_2 KL4_2 KL5_2 KN0_2 KN1_2 KN2_2 KN3_2 KN4_2 KN5_2 KXz0_2 KXz1_2 L_h0 L_h1 L_h2 N_h0 N_h1 N_h2 Xz_h0 Xz_h1 Xz_h2
      clear R0_h1 R0_h2 R1_h1 R1_h2 L_h1 L_h2 N_h1 N_h2 M_h1 M_h2 LR00 MR00 LR01 MR01 LR10 MR10 LR11 MR11 LL0 ML0 LL1 ML1 LL2 ML2 LL3 ML3 LL4 ML4 LL5 ML5 LN0 MN0 LN1 MN1 LN2 MN2 LN3 MN3 LN4 MN4 LN5 MN5 LM0 MM0 LM1 MM1 LM2 MM2 LM3 MM3 LM4 MM4 LM5 MM5
      have Of1_137 := hO2
      have ltf1 := hO2.ltOf
      have awf1L : Aw f1 (w3.heap.size) := hO2.awNew (by first | omega | (simp only [World.drew]; omega))
      have awf1N : Aw f1 (w7.heap.size) := hO2.awNew (by first | omega | (simp only [World.drew]; omega))
      have awf1M : Aw f1 (w102.heap.size + 1 + 1) := hO2.awNew (by first | omega | (simp only [World.drew]; omega))
      have dff0f1 : Diff f0 f1 := ltf0.diff hO2 (by first | omega | (simp only [World.drew]; omega))
      clear hO1 hO2
      clear cXa0_136 cXa1_136 cXb0_136 cXb1_136 cR00_136 fR00_136 cR01_136 fR01_136 cR10_136 fR10_136 cR11_136 fR11_136 cL0_136 fL0_136 cL1_136 fL1_136 cL2_136 fL2_136 cL3_136 fL3_136 cL4_136 fL4_136 cL5_136 fL5_136 cN0_136 fN0_136 cN1_136 fN1_136 cN2_136 fN2_136 cN3_136 fN3_136 cN4_136 fN4_136 cN5_136 fN5_136 cXz0_136 cXz1_136 cXu0_136 cXu1_136 cM0_136 fM0_136 cM1_136 fM1_136 cM2_136 fM2_136 cM3_136 fM3_136 cM4_136 fM4_136 cM5_136 fM5_136
      have hkp : Kp (fun k => k = w102.heap.size + 1 + 1) w110 ((w110.setCell ⟨w102.heap.size + 1 + 1, 2, none⟩ (Value.bool (decide (x0 - t0 * x1 < 0)))).setCell ⟨w102.heap.size + 1 + 1, 3, none⟩ (Value.slice f1 f1n f1c)) := ((Kp.refl (fun k => k = w102.heap.size + 1 + 1) w110).setCell rfl (Value.bool (decide (x0 - t0 * x1 < 0)))).setCell rfl (Value.slice f1 f1n f1c)
      have M_138 := (show Blk _ _ #[Value.bool (decide (r0 - t0 * r1 < 0)), Value.slice f0 f0n f0c, Value.bool (decide (x0 - t0 * x1 < 0)), Value.slice f1 f1n f1c, Value.bool (decide (y0 < 0)), Value.slice r rn rc] from ((M_126).setCell (i := 2) (v := Value.bool (decide (x0 - t0 * x1 < 0))) (by simp)).setCell (i := 3) (v := Value.slice f1 f1n f1c) (by simp))
      have Xa_139 := Xa_118.kp hkp (show ¬ (w.heap.size = w102.heap.size + 1 + 1) by omega)
      have Xb_140 := Xb_119.kp hkp (show ¬ (w.heap.size + 1 = w102.heap.size + 1 + 1) by omega)
      have R0_141 := R0_120.kp hkp (show ¬ (w.heap.size + 1 + 1 = w102.heap.size + 1 + 1) by omega)
      have R1_142 := R1_121.kp hkp (show ¬ (w.heap.size + 1 + 1 + 1 = w102.heap.size + 1 + 1) by omega)
      have L_143 := L_122.kp hkp (show ¬ (w3.heap.size = w102.heap.size + 1 + 1) by omega)
      have N_144 := N_123.kp hkp (show ¬ (w7.heap.size = w102.heap.size + 1 + 1) by omega)
      have Xz_145 := Xz_124.kp hkp (show ¬ (w102.heap.size = w102.heap.size + 1 + 1) by omega)
      have Xu_146 := Xu_125.kp hkp (show ¬ (w102.heap.size + 1 = w102.heap.size + 1 + 1) by omega)
      have Op_147 := Op_127.kp hkp (fun g' e => awpM g' e)
      have Oq_148 := Oq_128.kp hkp (fun g' e => awqM g' e)
      have Or_149 := Or_129.kp hkp (fun g' e => awrM g' e)
      have Op'_150 := Op'_130.kp hkp (fun g' e => awp'M g' e)
      have Oq'_151 := Oq'_131.kp hkp (fun g' e => awq'M g' e)
      have Or'_152 := Or'_132.kp hkp (fun g' e => awr'M g' e)
      have Oz_153 := Oz_133.kp hkp (fun g' e => awzM g' e)
      have Ou_154 := Ou_134.kp hkp (fun g' e => awuM g' e)
      have Of0_155 := Of0_135.kp hkp (fun g' e => awf0M g' e)
      have Of1_156 := Of1_137.kp hkp (fun g' e => awf1M g' e)
      have hbel157 := hbel136.kp hkp (hbel136).size (fun k hk => (show ¬ (k = w102.heap.size + 1 + 1) by omega))
      have hse157 := hkp.size
      clear Xa_118 Xb_119 R0_120 R1_121 L_122 N_123 Xz_124 Xu_125 M_126 Op_127 Oq_128 Or_129 Op'_130 Oq'_131 Or'_132 Oz_133 Ou_134 Of0_135 Of1_137 hbel136 hkp
      generalize ((w110.setCell ⟨w102.heap.size + 1 + 1, 2, none⟩ (Value.bool (decide (x0 - t0 * x1 < 0)))).setCell ⟨w102.heap.size + 1 + 1, 3, none⟩ (Value.slice f1 f1n f1c)) = v111 at *
      have cXa0_157 : _ = some (Value.bool s) := Xa_139.cell 0
      have cXa1_157 : _ = some (Value.slice a n c) := Xa_139.cell 1
      have cXb0_157 : _ = some (Value.bool t) := Xb_140.cell 0
      have cXb1_157 : _ = some (Value.slice b m d) := Xb_140.cell 1
      have cR00_157 : _ = some (Value.bool false) := R0_141.cell 0
      have fR00_157 := R0_141.free 0
      have cR01_157 : _ = some (Value.slice none 0 0) := R0_141.cell 1
      have fR01_157 := R0_141.free 1
      have cR10_157 : _ = some (Value.bool false) := R1_142.cell 0
      have fR10_157 := R1_142.free 0
      have cR11_157 : _ = some (Value.slice none 0 0) := R1_142.cell 1
      have fR11_157 := R1_142.free 1
      have cL0_157 : _ = some (Value.bool (decide (r0 < 0))) := L_143.cell 0
      have fL0_157 := L_143.free 0
      have cL1_157 : _ = some (Value.slice p pn pc) := L_143.cell 1
      have fL1_157 := L_143.free 1
      have cL2_157 : _ = some (Value.bool (decide (x0 < 0))) := L_143.cell 2
      have fL2_157 := L_143.free 2
      have cL3_157 : _ = some (Value.slice q qn qc) := L_143.cell 3
      have fL3_157 := L_143.free 3
      have cL4_157 : _ = some (Value.bool (decide (y0 < 0))) := L_143.cell 4
      have fL4_157 := L_143.free 4
      have cL5_157 : _ = some (Value.slice r rn rc) := L_143.cell 5
      have fL5_157 := L_143.free 5
      have cN0_157 : _ = some (Value.bool (decide (r1 < 0))) := N_144.cell 0
      have fN0_157 := N_144.free 0
      have cN1_157 : _ = some (Value.slice p' p'n p'c) := N_144.cell 1
      have fN1_157 := N_144.free 1
      have cN2_157 : _ = some (Value.bool (decide (x1 < 0))) := N_144.cell 2
      have fN2_157 := N_144.free 2
      have cN3_157 : _ = some (Value.slice q' q'n q'c) := N_144.cell 3
      have fN3_157 := N_144.free 3
      have cN4_157 : _ = some (Value.bool (decide (y1 < 0))) := N_144.cell 4
      have fN4_157 := N_144.free 4
      have cN5_157 : _ = some (Value.slice r' r'n r'c) := N_144.cell 5
      have fN5_157 := N_144.free 5
      have cXz0_157 : _ = some (Value.bool (decide (t0 < 0))) := Xz_145.cell 0
      have cXz1_157 : _ = some (Value.slice z zn zc) := Xz_145.cell 1
      have cXu0_157 : _ = some (Value.bool (decide (t1 < 0))) := Xu_146.cell 0
      have cXu1_157 : _ = some (Value.slice u un uc) := Xu_146.cell 1
      have cM0_157 : _ = some (Value.bool (decide (r0 - t0 * r1 < 0))) := M_138.cell 0
      have fM0_157 := M_138.free 0
      have cM1_157 : _ = some (Value.slice f0 f0n f0c) := M_138.cell 1
      have fM1_157 := M_138.free 1
      have cM2_157 : _ = some (Value.bool (decide (x0 - t0 * x1 < 0))) := M_138.cell 2
      have fM2_157 := M_138.free 2
      have cM3_157 : _ = some (Value.slice f1 f1n f1c) := M_138.cell 3
      have fM3_157 := M_138.free 3
      have cM4_157 : _ = some (Value.bool (decide (y0 < 0))) := M_138.cell 4
      have fM4_157 := M_138.free 4
      have cM5_157 : _ = some (Value.slice r rn rc) := M_138.cell 5
      have fM5_157 := M_138.free 5
      go_wp2_with fail
      rw [rounds_succ]
      go_wp2_with fail
      have KL0_0 : _ = some (Value.bool (decide (r0 < 0))) := L_143.cell 0
      have KL1_0 : _ = some (Value.slice p pn pc) := L_143.cell 1
      have KL2_0 : _ = some (Value.bool (decide (x0 < 0))) := L_143.cell 2
      have KL3_0 : _ = some (Value.slice q qn qc) := L_143.cell 3
      have KL4_0 : _ = some (Value.bool (decide (y0 < 0))) := L_143.cell 4
      have KL5_0 : _ = some (Value.slice r rn rc) := L_143.cell 5
      have KN0_0 : _ = some (Value.bool (decide (r1 < 0))) := N_144.cell 0
      have KN1_0 : _ = some (Value.slice p' p'n p'c) := N_144.cell 1
      have KN2_0 : _ = some (Value.bool (decide (x1 < 0))) := N_144.cell 2
      have KN3_0 : _ = some (Value.slice q' q'n q'c) := N_144.cell 3
      have KN4_0 : _ = some (Value.bool (decide (y1 < 0))) := N_144.cell 4
      have KN5_0 : _ = some (Value.slice r' r'n r'c) := N_144.cell 5
      have KXz0_0 : _ = some (Value.bool (decide (t0 < 0))) := Xz_145.cell 0
      have KXz1_0 : _ = some (Value.slice z zn zc) := Xz_145.cell 1
      have L_h0 := L_143
      have N_h0 := N_144
      have Xz_h0 := Xz_145
      have acc0 : Below v111.heap.size v111 v111 := Below.refl _ _
      go_region_held3 (fun w' => w'.cell? ⟨w3.heap.size, 0, none⟩ = some (Value.bool (decide (r0 < 0))) ∧ w'.cell? ⟨w3.heap.size, 1, none⟩ = some (Value.slice p pn pc) ∧ w'.cell? ⟨w3.heap.size, 2, none⟩ = some (Value.bool (decide (x0 < 0))) ∧ w'.cell? ⟨w3.heap.size, 3, none⟩ = some (Value.slice q qn qc) ∧ w'.cell? ⟨w3.heap.size, 4, none⟩ = some (Value.bool (decide (y0 < 0))) ∧ w'.cell? ⟨w3.heap.size, 5, none⟩ = some (Value.slice r rn rc) ∧ w'.cell? ⟨w7.heap.size, 0, none⟩ = some (Value.bool (decide (r1 < 0))) ∧ w'.cell? ⟨w7.heap.size, 1, none⟩ = some (Value.slice p' p'n p'c) ∧ w'.cell? ⟨w7.heap.size, 2, none⟩ = some (Value.bool (decide (x1 < 0))) ∧ w'.cell? ⟨w7.heap.size, 3, none⟩ = some (Value.slice q' q'n q'c) ∧ w'.cell? ⟨w7.heap.size, 4, none⟩ = some (Value.bool (decide (y1 < 0))) ∧ w'.cell? ⟨w7.heap.size, 5, none⟩ = some (Value.slice r' r'n r'c) ∧ w'.cell? ⟨w102.heap.size, 0, none⟩ = some (Value.bool (decide (t0 < 0))) ∧ w'.cell? ⟨w102.heap.size, 1, none⟩ = some (Value.slice z zn zc))
        (first | exact ⟨KL0_0, KL1_0, KL2_0, KL3_0, KL4_0, KL5_0, KN0_0, KN1_0, KN2_0, KN3_0, KN4_0, KN5_0, KXz0_0, KXz1_0⟩ | exact ⟨KL0_1, KL1_1, KL2_1, KL3_1, KL4_1, KL5_1, KN0_1, KN1_1, KN2_1, KN3_1, KN4_1, KN5_1, KXz0_1, KXz1_1⟩ | exact ⟨KL0_2, KL1_2, KL2_2, KL3_2, KL4_2, KL5_2, KN0_2, KN1_2, KN2_2, KN3_2, KN4_2, KN5_2, KXz0_2, KXz1_2⟩ | exact ⟨(cell_setAny (by omega) _ _).trans (KL0_2), (cell_setAny (by omega) _ _).trans (KL1_2), (cell_setAny (by omega) _ _).trans (KL2_2), (cell_setAny (by omega) _ _).trans (KL3_2), (cell_setAny (by omega) _ _).trans (KL4_2), (cell_setAny (by omega) _ _).trans (KL5_2), (cell_setAny (by omega) _ _).trans (KN0_2), (cell_setAny (by omega) _ _).trans (KN1_2), (cell_setAny (by omega) _ _).trans (KN2_2), (cell_setAny (by omega) _ _).trans (KN3_2), (cell_setAny (by omega) _ _).trans (KN4_2), (cell_setAny (by omega) _ _).trans (KN5_2), (cell_setAny (by omega) _ _).trans (KXz0_2), (cell_setAny (by omega) _ _).trans (KXz1_2)⟩ | go_keep)
        (first
          | (go_at_call 65; ((with_reducible refine (zmulI (show Rd _ z zn zc (lm t0.natAbs) from (Oz_153.below (by first | exact acc0 | exact (acc0).drew)).rd) hzn (show Rd _ r' r'n r'c (lm y1.natAbs) from (Or'_152.below (by first | exact acc0 | exact (acc0).drew)).rd) hlr').mono ?_); (rintro e w112 ⟨k2, k2n, k2c, rfl, hO1, hB⟩; have hst1 : Below v111.heap.size v111 w112 := (by first | exact hB | exact below_drew hB); have acc1 := acc0.next hst1; have L_h1 := L_h0.next hst1; have N_h1 := N_h0.next hst1; have Xz_h1 := Xz_h0.next hst1; have KL0_1 : _ = some (Value.bool (decide (r0 < 0))) := L_h1.cell 0; have KL1_1 : _ = some (Value.slice p pn pc) := L_h1.cell 1; have KL2_1 : _ = some (Value.bool (decide (x0 < 0))) := L_h1.cell 2; have KL3_1 : _ = some (Value.slice q qn qc) := L_h1.cell 3; have KL4_1 : _ = some (Value.bool (decide (y0 < 0))) := L_h1.cell 4; have KL5_1 : _ = some (Value.slice r rn rc) := L_h1.cell 5; have KN0_1 : _ = some (Value.bool (decide (r1 < 0))) := N_h1.cell 0; have KN1_1 : _ = some (Value.slice p' p'n p'c) := N_h1.cell 1; have KN2_1 : _ = some (Value.bool (decide (x1 < 0))) := N_h1.cell 2; have KN3_1 : _ = some (Value.slice q' q'n q'c) := N_h1.cell 3; have KN4_1 : _ = some (Value.bool (decide (y1 < 0))) := N_h1.cell 4; have KN5_1 : _ = some (Value.slice r' r'n r'c) := N_h1.cell 5; have KXz0_1 : _ = some (Value.bool (decide (t0 < 0))) := Xz_h1.cell 0; have KXz1_1 : _ = some (Value.slice z zn zc) := Xz_h1.cell 1; have R0_h1 := R0_141.next hst1; have R1_h1 := R1_142.next hst1; have L_h1 := L_143.next hst1; have N_h1 := N_144.next hst1; have M_h1 := M_138.next hst1; have hkn2 : k2n ≤ 4194304 := (by rw [← hK]; exact len_le (l := la) hO1.len ((HM.out _ (.inr (.inr HP.out.2.2.2))).out)); have hza2 := acc1.size)))
          | (go_at_call 46; ((with_reducible refine (zsubI (show Rd _ r rn rc (lm y0.natAbs) from (Or_149.below (by first | exact acc1 | exact (acc1).drew)).rd) hlr (show Rd _ k2 k2n k2c (lm (t0 * y1).natAbs) from hO1.rd) hkn2).mono ?_); (rintro e w113 ⟨f2, f2n, f2c, rfl, hO2, hB⟩; have hst2 : Below w112.heap.size w112 w113 := (by first | exact hB | exact below_drew hB); have acc2 := acc1.next hst2; have L_h2 := L_h1.next hst2; have N_h2 := N_h1.next hst2; have Xz_h2 := Xz_h1.next hst2; have KL0_2 : _ = some (Value.bool (decide (r0 < 0))) := L_h2.cell 0; have KL1_2 : _ = some (Value.slice p pn pc) := L_h2.cell 1; have KL2_2 : _ = some (Value.bool (decide (x0 < 0))) := L_h2.cell 2; have KL3_2 : _ = some (Value.slice q qn qc) := L_h2.cell 3; have KL4_2 : _ = some (Value.bool (decide (y0 < 0))) := L_h2.cell 4; have KL5_2 : _ = some (Value.slice r rn rc) := L_h2.cell 5; have KN0_2 : _ = some (Value.bool (decide (r1 < 0))) := N_h2.cell 0; have KN1_2 : _ = some (Value.slice p' p'n p'c) := N_h2.cell 1; have KN2_2 : _ = some (Value.bool (decide (x1 < 0))) := N_h2.cell 2; have KN3_2 : _ = some (Value.slice q' q'n q'c) := N_h2.cell 3; have KN4_2 : _ = some (Value.bool (decide (y1 < 0))) := N_h2.cell 4; have KN5_2 : _ = some (Value.slice r' r'n r'c) := N_h2.cell 5; have KXz0_2 : _ = some (Value.bool (decide (t0 < 0))) := Xz_h2.cell 0; have KXz1_2 : _ = some (Value.slice z zn zc) := Xz_h2.cell 1; have R0_h2 := R0_h1.next hst2; have LR00 : _ = some (Value.bool false) := R0_h2.cell 0; have MR00 := R0_h2.free 0; have LR01 : _ = some (Value.slice none 0 0) := R0_h2.cell 1; have MR01 := R0_h2.free 1; have R1_h2 := R1_h1.next hst2; have LR10 : _ = some (Value.bool false) := R1_h2.cell 0; have MR10 := R1_h2.free 0; have LR11 : _ = some (Value.slice none 0 0) := R1_h2.cell 1; have MR11 := R1_h2.free 1; have L_h2 := L_h1.next hst2; have LL0 : _ = some (Value.bool (decide (r0 < 0))) := L_h2.cell 0; have ML0 := L_h2.free 0; have LL1 : _ = some (Value.slice p pn pc) := L_h2.cell 1; have ML1 := L_h2.free 1; have LL2 : _ = some (Value.bool (decide (x0 < 0))) := L_h2.cell 2; have ML2 := L_h2.free 2; have LL3 : _ = some (Value.slice q qn qc) := L_h2.cell 3; have ML3 := L_h2.free 3; have LL4 : _ = some (Value.bool (decide (y0 < 0))) := L_h2.cell 4; have ML4 := L_h2.free 4; have LL5 : _ = some (Value.slice r rn rc) := L_h2.cell 5; have ML5 := L_h2.free 5; have N_h2 := N_h1.next hst2; have LN0 : _ = some (Value.bool (decide (r1 < 0))) := N_h2.cell 0; have MN0 := N_h2.free 0; have LN1 : _ = some (Value.slice p' p'n p'c) := N_h2.cell 1; have MN1 := N_h2.free 1; have LN2 : _ = some (Value.bool (decide (x1 < 0))) := N_h2.cell 2; have MN2 := N_h2.free 2; have LN3 : _ = some (Value.slice q' q'n q'c) := N_h2.cell 3; have MN3 := N_h2.free 3; have LN4 : _ = some (Value.bool (decide (y1 < 0))) := N_h2.cell 4; have MN4 := N_h2.free 4; have LN5 : _ = some (Value.slice r' r'n r'c) := N_h2.cell 5; have MN5 := N_h2.free 5; have M_h2 := M_h1.next hst2; have LM0 : _ = some (Value.bool (decide (r0 - t0 * r1 < 0))) := M_h2.cell 0; have MM0 := M_h2.free 0; have LM1 : _ = some (Value.slice f0 f0n f0c) := M_h2.cell 1; have MM1 := M_h2.free 1; have LM2 : _ = some (Value.bool (decide (x0 - t0 * x1 < 0))) := M_h2.cell 2; have MM2 := M_h2.free 2; have LM3 : _ = some (Value.slice f1 f1n f1c) := M_h2.cell 3; have MM3 := M_h2.free 3; have LM4 : _ = some (Value.bool (decide (y0 < 0))) := M_h2.cell 4; have MM4 := M_h2.free 4; have LM5 : _ = some (Value.slice r rn rc) := M_h2.cell 5; have MM5 := M_h2.free 5))))
      clear cXa0_157 cXa1_157 cXb0_157 cXb1_157 cR00_157 fR00_157 cR01_157 fR01_157 cR10_157 fR10_157 cR11_157 fR11_157 cL0_157 fL0_157 cL1_157 fL1_157 cL2_157 fL2_157 cL3_157 fL3_157 cL4_157 fL4_157 cL5_157 fL5_157 cN0_157 fN0_157 cN1_157 fN1_157 cN2_157 fN2_157 cN3_157 fN3_157 cN4_157 fN4_157 cN5_157 fN5_157 cXz0_157 cXz1_157 cXu0_157 cXu1_157 cM0_157 fM0_157 cM1_157 fM1_157 cM2_157 fM2_157 cM3_157 fM3_157 cM4_157 fM4_157 cM5_157 fM5_157
      have hstep : Below v111.heap.size v111 w113 := (by first | exact acc2 | exact below_drew acc2)
      have Xa_158 := Xa_139.next hstep
      have Xb_159 := Xb_140.next hstep
      have R0_160 := R0_141.next hstep
      have R1_161 := R1_142.next hstep
      have L_162 := L_143.next hstep
      have N_163 := N_144.next hstep
      have Xz_164 := Xz_145.next hstep
      have Xu_165 := Xu_146.next hstep
      have M_166 := M_138.next hstep
      have Op_167 := Op_147.below hstep
      have Oq_168 := Oq_148.below hstep
      have Or_169 := Or_149.below hstep
      have Op'_170 := Op'_150.below hstep
      have Oq'_171 := Oq'_151.below hstep
      have Or'_172 := Or'_152.below hstep
      have Oz_173 := Oz_153.below hstep
      have Ou_174 := Ou_154.below hstep
      have Of0_175 := Of0_155.below hstep
      have Of1_176 := Of1_156.below hstep
      have hbel177 := hbel157.next hstep
      have hle177 := hbel177.size
      have hls177 := hstep.size
      clear Xa_139 Xb_140 R0_141 R1_142 L_143 N_144 Xz_145 Xu_146 M_138 Op_147 Oq_148 Or_149 Op'_150 Oq'_151 Or'_152 Oz_153 Ou_154 Of0_155 Of1_156 hbel157 hstep
      have cXa0_177 : _ = some (Value.bool s) := Xa_158.cell 0
      have cXa1_177 : _ = some (Value.slice a n c) := Xa_158.cell 1
      have cXb0_177 : _ = some (Value.bool t) := Xb_159.cell 0
      have cXb1_177 : _ = some (Value.slice b m d) := Xb_159.cell 1
      have cR00_177 : _ = some (Value.bool false) := R0_160.cell 0
      have fR00_177 := R0_160.free 0
      have cR01_177 : _ = some (Value.slice none 0 0) := R0_160.cell 1
      have fR01_177 := R0_160.free 1
      have cR10_177 : _ = some (Value.bool false) := R1_161.cell 0
      have fR10_177 := R1_161.free 0
      have cR11_177 : _ = some (Value.slice none 0 0) := R1_161.cell 1
      have fR11_177 := R1_161.free 1
      have cL0_177 : _ = some (Value.bool (decide (r0 < 0))) := L_162.cell 0
      have fL0_177 := L_162.free 0
      have cL1_177 : _ = some (Value.slice p pn pc) := L_162.cell 1
      have fL1_177 := L_162.free 1
      have cL2_177 : _ = some (Value.bool (decide (x0 < 0))) := L_162.cell 2
      have fL2_177 := L_162.free 2
      have cL3_177 : _ = some (Value.slice q qn qc) := L_162.cell 3
      have fL3_177 := L_162.free 3
      have cL4_177 : _ = some (Value.bool (decide (y0 < 0))) := L_162.cell 4
      have fL4_177 := L_162.free 4
      have cL5_177 : _ = some (Value.slice r rn rc) := L_162.cell 5
      have fL5_177 := L_162.free 5
      have cN0_177 : _ = some (Value.bool (decide (r1 < 0))) := N_163.cell 0
      have fN0_177 := N_163.free 0
      have cN1_177 : _ = some (Value.slice p' p'n p'c) := N_163.cell 1
      have fN1_177 := N_163.free 1
      have cN2_177 : _ = some (Value.bool (decide (x1 < 0))) := N_163.cell 2
      have fN2_177 := N_163.free 2
      have cN3_177 : _ = some (Value.slice q' q'n q'c) := N_163.cell 3
      have fN3_177 := N_163.free 3
      have cN4_177 : _ = some (Value.bool (decide (y1 < 0))) := N_163.cell 4
      have fN4_177 := N_163.free 4
      have cN5_177 : _ = some (Value.slice r' r'n r'c) := N_163.cell 5
      have fN5_177 := N_163.free 5
      have cXz0_177 : _ = some (Value.bool (decide (t0 < 0))) := Xz_164.cell 0
      have cXz1_177 : _ = some (Value.slice z zn zc) := Xz_164.cell 1
      have cXu0_177 : _ = some (Value.bool (decide (t1 < 0))) := Xu_165.cell 0
      have cXu1_177 : _ = some (Value.slice u un uc) := Xu_165.cell 1
      have cM0_177 : _ = some (Value.bool (decide (r0 - t0 * r1 < 0))) := M_166.cell 0
      have fM0_177 := M_166.free 0
      have cM1_177 : _ = some (Value.slice f0 f0n f0c) := M_166.cell 1
      have fM1_177 := M_166.free 1
      have cM2_177 : _ = some (Value.bool (decide (x0 - t0 * x1 < 0))) := M_166.cell 2
      have fM2_177 := M_166.free 2
      have cM3_177 : _ = some (Value.slice f1 f1n f1c) := M_166.cell 3
      have fM3_177 := M_166.free 3
      have cM4_177 : _ = some (Value.bool (decide (y0 < 0))) := M_166.cell 4
      have fM4_177 := M_166.free 4
      have cM5_177 : _ = some (Value.slice r rn rc) := M_166.cell 5
      have fM5_177 := M_166.free 5
      clear acc0 acc1 acc2 hst1 hst2 KL0_0 KL1_0 KL2_0 KL3_0 KL4_0 KL5_0 KN0_0 KN1_0 KN2_0 KN3_0 KN4_0 KN5_0 KXz0_0 KXz1_0 KL0_1 KL1_1 KL2_1 KL3_1 KL4_1 KL5_1 KN0_1 KN1_1 KN2_1 KN3_1 KN4_1 KN5_1 KXz0_1 KXz1_1 KL0_2 KL1_2 KL2_2 KL3_2 KL4_2 KL5_2 KN0_2 KN1_2 KN2_2 KN3_2 KN4_2 KN5_2 KXz0_2 KXz1_2 L_h0 L_h1 L_h2 N_h0 N_h1 N_h2 Xz_h0 Xz_h1 Xz_h2
      clear R0_h1 R0_h2 R1_h1 R1_h2 L_h1 L_h2 N_h1 N_h2 M_h1 M_h2 LR00 MR00 LR01 MR01 LR10 MR10 LR11 MR11 LL0 ML0 LL1 ML1 LL2 ML2 LL3 ML3 LL4 ML4 LL5 ML5 LN0 MN0 LN1 MN1 LN2 MN2 LN3 MN3 LN4 MN4 LN5 MN5 LM0 MM0 LM1 MM1 LM2 MM2 LM3 MM3 LM4 MM4 LM5 MM5
      have Of2_178 := hO2
      have ltf2 := hO2.ltOf
      have awf2L : Aw f2 (w3.heap.size) := hO2.awNew (by first | omega | (simp only [World.drew]; omega))
      have awf2N : Aw f2 (w7.heap.size) := hO2.awNew (by first | omega | (simp only [World.drew]; omega))
      have awf2M : Aw f2 (w102.heap.size + 1 + 1) := hO2.awNew (by first | omega | (simp only [World.drew]; omega))
      have dff0f2 : Diff f0 f2 := ltf0.diff hO2 (by first | omega | (simp only [World.drew]; omega))
      have dff1f2 : Diff f1 f2 := ltf1.diff hO2 (by first | omega | (simp only [World.drew]; omega))
      clear hO1 hO2
      clear cXa0_177 cXa1_177 cXb0_177 cXb1_177 cR00_177 fR00_177 cR01_177 fR01_177 cR10_177 fR10_177 cR11_177 fR11_177 cL0_177 fL0_177 cL1_177 fL1_177 cL2_177 fL2_177 cL3_177 fL3_177 cL4_177 fL4_177 cL5_177 fL5_177 cN0_177 fN0_177 cN1_177 fN1_177 cN2_177 fN2_177 cN3_177 fN3_177 cN4_177 fN4_177 cN5_177 fN5_177 cXz0_177 cXz1_177 cXu0_177 cXu1_177 cM0_177 fM0_177 cM1_177 fM1_177 cM2_177 fM2_177 cM3_177 fM3_177 cM4_177 fM4_177 cM5_177 fM5_177
      have hkp : Kp (fun k => k = w102.heap.size + 1 + 1) w113 ((w113.setCell ⟨w102.heap.size + 1 + 1, 4, none⟩ (Value.bool (decide (y0 - t0 * y1 < 0)))).setCell ⟨w102.heap.size + 1 + 1, 5, none⟩ (Value.slice f2 f2n f2c)) := ((Kp.refl (fun k => k = w102.heap.size + 1 + 1) w113).setCell rfl (Value.bool (decide (y0 - t0 * y1 < 0)))).setCell rfl (Value.slice f2 f2n f2c)
      have M_179 := (show Blk _ _ #[Value.bool (decide (r0 - t0 * r1 < 0)), Value.slice f0 f0n f0c, Value.bool (decide (x0 - t0 * x1 < 0)), Value.slice f1 f1n f1c, Value.bool (decide (y0 - t0 * y1 < 0)), Value.slice f2 f2n f2c] from ((M_166).setCell (i := 4) (v := Value.bool (decide (y0 - t0 * y1 < 0))) (by simp)).setCell (i := 5) (v := Value.slice f2 f2n f2c) (by simp))
      have Xa_180 := Xa_158.kp hkp (show ¬ (w.heap.size = w102.heap.size + 1 + 1) by omega)
      have Xb_181 := Xb_159.kp hkp (show ¬ (w.heap.size + 1 = w102.heap.size + 1 + 1) by omega)
      have R0_182 := R0_160.kp hkp (show ¬ (w.heap.size + 1 + 1 = w102.heap.size + 1 + 1) by omega)
      have R1_183 := R1_161.kp hkp (show ¬ (w.heap.size + 1 + 1 + 1 = w102.heap.size + 1 + 1) by omega)
      have L_184 := L_162.kp hkp (show ¬ (w3.heap.size = w102.heap.size + 1 + 1) by omega)
      have N_185 := N_163.kp hkp (show ¬ (w7.heap.size = w102.heap.size + 1 + 1) by omega)
      have Xz_186 := Xz_164.kp hkp (show ¬ (w102.heap.size = w102.heap.size + 1 + 1) by omega)
      have Xu_187 := Xu_165.kp hkp (show ¬ (w102.heap.size + 1 = w102.heap.size + 1 + 1) by omega)
      have Op_188 := Op_167.kp hkp (fun g' e => awpM g' e)
      have Oq_189 := Oq_168.kp hkp (fun g' e => awqM g' e)
      have Or_190 := Or_169.kp hkp (fun g' e => awrM g' e)
      have Op'_191 := Op'_170.kp hkp (fun g' e => awp'M g' e)
      have Oq'_192 := Oq'_171.kp hkp (fun g' e => awq'M g' e)
      have Or'_193 := Or'_172.kp hkp (fun g' e => awr'M g' e)
      have Oz_194 := Oz_173.kp hkp (fun g' e => awzM g' e)
      have Ou_195 := Ou_174.kp hkp (fun g' e => awuM g' e)
      have Of0_196 := Of0_175.kp hkp (fun g' e => awf0M g' e)
      have Of1_197 := Of1_176.kp hkp (fun g' e => awf1M g' e)
      have Of2_198 := Of2_178.kp hkp (fun g' e => awf2M g' e)
      have hbel199 := hbel177.kp hkp (hbel177).size (fun k hk => (show ¬ (k = w102.heap.size + 1 + 1) by omega))
      have hse199 := hkp.size
      clear Xa_158 Xb_159 R0_160 R1_161 L_162 N_163 Xz_164 Xu_165 M_166 Op_167 Oq_168 Or_169 Op'_170 Oq'_171 Or'_172 Oz_173 Ou_174 Of0_175 Of1_176 Of2_178 hbel177 hkp
      generalize ((w113.setCell ⟨w102.heap.size + 1 + 1, 4, none⟩ (Value.bool (decide (y0 - t0 * y1 < 0)))).setCell ⟨w102.heap.size + 1 + 1, 5, none⟩ (Value.slice f2 f2n f2c)) = v114 at *
      have cXa0_199 : _ = some (Value.bool s) := Xa_180.cell 0
      have cXa1_199 : _ = some (Value.slice a n c) := Xa_180.cell 1
      have cXb0_199 : _ = some (Value.bool t) := Xb_181.cell 0
      have cXb1_199 : _ = some (Value.slice b m d) := Xb_181.cell 1
      have cR00_199 : _ = some (Value.bool false) := R0_182.cell 0
      have fR00_199 := R0_182.free 0
      have cR01_199 : _ = some (Value.slice none 0 0) := R0_182.cell 1
      have fR01_199 := R0_182.free 1
      have cR10_199 : _ = some (Value.bool false) := R1_183.cell 0
      have fR10_199 := R1_183.free 0
      have cR11_199 : _ = some (Value.slice none 0 0) := R1_183.cell 1
      have fR11_199 := R1_183.free 1
      have cL0_199 : _ = some (Value.bool (decide (r0 < 0))) := L_184.cell 0
      have fL0_199 := L_184.free 0
      have cL1_199 : _ = some (Value.slice p pn pc) := L_184.cell 1
      have fL1_199 := L_184.free 1
      have cL2_199 : _ = some (Value.bool (decide (x0 < 0))) := L_184.cell 2
      have fL2_199 := L_184.free 2
      have cL3_199 : _ = some (Value.slice q qn qc) := L_184.cell 3
      have fL3_199 := L_184.free 3
      have cL4_199 : _ = some (Value.bool (decide (y0 < 0))) := L_184.cell 4
      have fL4_199 := L_184.free 4
      have cL5_199 : _ = some (Value.slice r rn rc) := L_184.cell 5
      have fL5_199 := L_184.free 5
      have cN0_199 : _ = some (Value.bool (decide (r1 < 0))) := N_185.cell 0
      have fN0_199 := N_185.free 0
      have cN1_199 : _ = some (Value.slice p' p'n p'c) := N_185.cell 1
      have fN1_199 := N_185.free 1
      have cN2_199 : _ = some (Value.bool (decide (x1 < 0))) := N_185.cell 2
      have fN2_199 := N_185.free 2
      have cN3_199 : _ = some (Value.slice q' q'n q'c) := N_185.cell 3
      have fN3_199 := N_185.free 3
      have cN4_199 : _ = some (Value.bool (decide (y1 < 0))) := N_185.cell 4
      have fN4_199 := N_185.free 4
      have cN5_199 : _ = some (Value.slice r' r'n r'c) := N_185.cell 5
      have fN5_199 := N_185.free 5
      have cXz0_199 : _ = some (Value.bool (decide (t0 < 0))) := Xz_186.cell 0
      have cXz1_199 : _ = some (Value.slice z zn zc) := Xz_186.cell 1
      have cXu0_199 : _ = some (Value.bool (decide (t1 < 0))) := Xu_187.cell 0
      have cXu1_199 : _ = some (Value.slice u un uc) := Xu_187.cell 1
      have cM0_199 : _ = some (Value.bool (decide (r0 - t0 * r1 < 0))) := M_179.cell 0
      have fM0_199 := M_179.free 0
      have cM1_199 : _ = some (Value.slice f0 f0n f0c) := M_179.cell 1
      have fM1_199 := M_179.free 1
      have cM2_199 : _ = some (Value.bool (decide (x0 - t0 * x1 < 0))) := M_179.cell 2
      have fM2_199 := M_179.free 2
      have cM3_199 : _ = some (Value.slice f1 f1n f1c) := M_179.cell 3
      have fM3_199 := M_179.free 3
      have cM4_199 : _ = some (Value.bool (decide (y0 - t0 * y1 < 0))) := M_179.cell 4
      have fM4_199 := M_179.free 4
      have cM5_199 : _ = some (Value.slice f2 f2n f2c) := M_179.cell 5
      have fM5_199 := M_179.free 5
      go_wp2_with fail
      rw [rounds_succ]
      go_wp2_with fail
      go_region
      clear cXa0_199 cXa1_199 cXb0_199 cXb1_199 cR00_199 fR00_199 cR01_199 fR01_199 cR10_199 fR10_199 cR11_199 fR11_199 cL0_199 fL0_199 cL1_199 fL1_199 cL2_199 fL2_199 cL3_199 fL3_199 cL4_199 fL4_199 cL5_199 fL5_199 cN0_199 fN0_199 cN1_199 fN1_199 cN2_199 fN2_199 cN3_199 fN3_199 cN4_199 fN4_199 cN5_199 fN5_199 cXz0_199 cXz1_199 cXu0_199 cXu1_199 cM0_199 fM0_199 cM1_199 fM1_199 cM2_199 fM2_199 cM3_199 fM3_199 cM4_199 fM4_199 cM5_199 fM5_199
      have hkp : Kp (fun k => k = w3.heap.size) v114 ((((((v114.setCell ⟨w3.heap.size, 0, none⟩ (Value.bool (decide (r1 < 0)))).setCell ⟨w3.heap.size, 1, none⟩ (Value.slice p' p'n p'c)).setCell ⟨w3.heap.size, 2, none⟩ (Value.bool (decide (x1 < 0)))).setCell ⟨w3.heap.size, 3, none⟩ (Value.slice q' q'n q'c)).setCell ⟨w3.heap.size, 4, none⟩ (Value.bool (decide (y1 < 0)))).setCell ⟨w3.heap.size, 5, none⟩ (Value.slice r' r'n r'c)) := ((((((Kp.refl (fun k => k = w3.heap.size) v114).setCell rfl (Value.bool (decide (r1 < 0)))).setCell rfl (Value.slice p' p'n p'c)).setCell rfl (Value.bool (decide (x1 < 0)))).setCell rfl (Value.slice q' q'n q'c)).setCell rfl (Value.bool (decide (y1 < 0)))).setCell rfl (Value.slice r' r'n r'c)
      have L_200 := (show Blk _ _ #[Value.bool (decide (r1 < 0)), Value.slice p' p'n p'c, Value.bool (decide (x1 < 0)), Value.slice q' q'n q'c, Value.bool (decide (y1 < 0)), Value.slice r' r'n r'c] from ((((((L_184).setCell (i := 0) (v := Value.bool (decide (r1 < 0))) (by simp)).setCell (i := 1) (v := Value.slice p' p'n p'c) (by simp)).setCell (i := 2) (v := Value.bool (decide (x1 < 0))) (by simp)).setCell (i := 3) (v := Value.slice q' q'n q'c) (by simp)).setCell (i := 4) (v := Value.bool (decide (y1 < 0))) (by simp)).setCell (i := 5) (v := Value.slice r' r'n r'c) (by simp))
      have Xa_201 := Xa_180.kp hkp (show ¬ (w.heap.size = w3.heap.size) by omega)
      have Xb_202 := Xb_181.kp hkp (show ¬ (w.heap.size + 1 = w3.heap.size) by omega)
      have R0_203 := R0_182.kp hkp (show ¬ (w.heap.size + 1 + 1 = w3.heap.size) by omega)
      have R1_204 := R1_183.kp hkp (show ¬ (w.heap.size + 1 + 1 + 1 = w3.heap.size) by omega)
      have N_205 := N_185.kp hkp (show ¬ (w7.heap.size = w3.heap.size) by omega)
      have Xz_206 := Xz_186.kp hkp (show ¬ (w102.heap.size = w3.heap.size) by omega)
      have Xu_207 := Xu_187.kp hkp (show ¬ (w102.heap.size + 1 = w3.heap.size) by omega)
      have M_208 := M_179.kp hkp (show ¬ (w102.heap.size + 1 + 1 = w3.heap.size) by omega)
      have Op_209 := Op_188.kp hkp (fun g' e => awpL g' e)
      have Oq_210 := Oq_189.kp hkp (fun g' e => awqL g' e)
      have Or_211 := Or_190.kp hkp (fun g' e => awrL g' e)
      have Op'_212 := Op'_191.kp hkp (fun g' e => awp'L g' e)
      have Oq'_213 := Oq'_192.kp hkp (fun g' e => awq'L g' e)
      have Or'_214 := Or'_193.kp hkp (fun g' e => awr'L g' e)
      have Oz_215 := Oz_194.kp hkp (fun g' e => awzL g' e)
      have Ou_216 := Ou_195.kp hkp (fun g' e => awuL g' e)
      have Of0_217 := Of0_196.kp hkp (fun g' e => awf0L g' e)
      have Of1_218 := Of1_197.kp hkp (fun g' e => awf1L g' e)
      have Of2_219 := Of2_198.kp hkp (fun g' e => awf2L g' e)
      have hbel220 := hbel199.kp hkp (hbel199).size (fun k hk => (show ¬ (k = w3.heap.size) by omega))
      have hse220 := hkp.size
      clear Xa_180 Xb_181 R0_182 R1_183 L_184 N_185 Xz_186 Xu_187 M_179 Op_188 Oq_189 Or_190 Op'_191 Oq'_192 Or'_193 Oz_194 Ou_195 Of0_196 Of1_197 Of2_198 hbel199 hkp
      generalize ((((((v114.setCell ⟨w3.heap.size, 0, none⟩ (Value.bool (decide (r1 < 0)))).setCell ⟨w3.heap.size, 1, none⟩ (Value.slice p' p'n p'c)).setCell ⟨w3.heap.size, 2, none⟩ (Value.bool (decide (x1 < 0)))).setCell ⟨w3.heap.size, 3, none⟩ (Value.slice q' q'n q'c)).setCell ⟨w3.heap.size, 4, none⟩ (Value.bool (decide (y1 < 0)))).setCell ⟨w3.heap.size, 5, none⟩ (Value.slice r' r'n r'c)) = v115 at *
      have cXa0_220 : _ = some (Value.bool s) := Xa_201.cell 0
      have cXa1_220 : _ = some (Value.slice a n c) := Xa_201.cell 1
      have cXb0_220 : _ = some (Value.bool t) := Xb_202.cell 0
      have cXb1_220 : _ = some (Value.slice b m d) := Xb_202.cell 1
      have cR00_220 : _ = some (Value.bool false) := R0_203.cell 0
      have fR00_220 := R0_203.free 0
      have cR01_220 : _ = some (Value.slice none 0 0) := R0_203.cell 1
      have fR01_220 := R0_203.free 1
      have cR10_220 : _ = some (Value.bool false) := R1_204.cell 0
      have fR10_220 := R1_204.free 0
      have cR11_220 : _ = some (Value.slice none 0 0) := R1_204.cell 1
      have fR11_220 := R1_204.free 1
      have cL0_220 : _ = some (Value.bool (decide (r1 < 0))) := L_200.cell 0
      have fL0_220 := L_200.free 0
      have cL1_220 : _ = some (Value.slice p' p'n p'c) := L_200.cell 1
      have fL1_220 := L_200.free 1
      have cL2_220 : _ = some (Value.bool (decide (x1 < 0))) := L_200.cell 2
      have fL2_220 := L_200.free 2
      have cL3_220 : _ = some (Value.slice q' q'n q'c) := L_200.cell 3
      have fL3_220 := L_200.free 3
      have cL4_220 : _ = some (Value.bool (decide (y1 < 0))) := L_200.cell 4
      have fL4_220 := L_200.free 4
      have cL5_220 : _ = some (Value.slice r' r'n r'c) := L_200.cell 5
      have fL5_220 := L_200.free 5
      have cN0_220 : _ = some (Value.bool (decide (r1 < 0))) := N_205.cell 0
      have fN0_220 := N_205.free 0
      have cN1_220 : _ = some (Value.slice p' p'n p'c) := N_205.cell 1
      have fN1_220 := N_205.free 1
      have cN2_220 : _ = some (Value.bool (decide (x1 < 0))) := N_205.cell 2
      have fN2_220 := N_205.free 2
      have cN3_220 : _ = some (Value.slice q' q'n q'c) := N_205.cell 3
      have fN3_220 := N_205.free 3
      have cN4_220 : _ = some (Value.bool (decide (y1 < 0))) := N_205.cell 4
      have fN4_220 := N_205.free 4
      have cN5_220 : _ = some (Value.slice r' r'n r'c) := N_205.cell 5
      have fN5_220 := N_205.free 5
      have cXz0_220 : _ = some (Value.bool (decide (t0 < 0))) := Xz_206.cell 0
      have cXz1_220 : _ = some (Value.slice z zn zc) := Xz_206.cell 1
      have cXu0_220 : _ = some (Value.bool (decide (t1 < 0))) := Xu_207.cell 0
      have cXu1_220 : _ = some (Value.slice u un uc) := Xu_207.cell 1
      have cM0_220 : _ = some (Value.bool (decide (r0 - t0 * r1 < 0))) := M_208.cell 0
      have fM0_220 := M_208.free 0
      have cM1_220 : _ = some (Value.slice f0 f0n f0c) := M_208.cell 1
      have fM1_220 := M_208.free 1
      have cM2_220 : _ = some (Value.bool (decide (x0 - t0 * x1 < 0))) := M_208.cell 2
      have fM2_220 := M_208.free 2
      have cM3_220 : _ = some (Value.slice f1 f1n f1c) := M_208.cell 3
      have fM3_220 := M_208.free 3
      have cM4_220 : _ = some (Value.bool (decide (y0 - t0 * y1 < 0))) := M_208.cell 4
      have fM4_220 := M_208.free 4
      have cM5_220 : _ = some (Value.slice f2 f2n f2c) := M_208.cell 5
      have fM5_220 := M_208.free 5
      clear cXa0_220 cXa1_220 cXb0_220 cXb1_220 cR00_220 fR00_220 cR01_220 fR01_220 cR10_220 fR10_220 cR11_220 fR11_220 cL0_220 fL0_220 cL1_220 fL1_220 cL2_220 fL2_220 cL3_220 fL3_220 cL4_220 fL4_220 cL5_220 fL5_220 cN0_220 fN0_220 cN1_220 fN1_220 cN2_220 fN2_220 cN3_220 fN3_220 cN4_220 fN4_220 cN5_220 fN5_220 cXz0_220 cXz1_220 cXu0_220 cXu1_220 cM0_220 fM0_220 cM1_220 fM1_220 cM2_220 fM2_220 cM3_220 fM3_220 cM4_220 fM4_220 cM5_220 fM5_220
      have hkp : Kp (fun k => k = w7.heap.size) v115 ((((((v115.setCell ⟨w7.heap.size, 0, none⟩ (Value.bool (decide (r0 - t0 * r1 < 0)))).setCell ⟨w7.heap.size, 1, none⟩ (Value.slice f0 f0n f0c)).setCell ⟨w7.heap.size, 2, none⟩ (Value.bool (decide (x0 - t0 * x1 < 0)))).setCell ⟨w7.heap.size, 3, none⟩ (Value.slice f1 f1n f1c)).setCell ⟨w7.heap.size, 4, none⟩ (Value.bool (decide (y0 - t0 * y1 < 0)))).setCell ⟨w7.heap.size, 5, none⟩ (Value.slice f2 f2n f2c)) := ((((((Kp.refl (fun k => k = w7.heap.size) v115).setCell rfl (Value.bool (decide (r0 - t0 * r1 < 0)))).setCell rfl (Value.slice f0 f0n f0c)).setCell rfl (Value.bool (decide (x0 - t0 * x1 < 0)))).setCell rfl (Value.slice f1 f1n f1c)).setCell rfl (Value.bool (decide (y0 - t0 * y1 < 0)))).setCell rfl (Value.slice f2 f2n f2c)
      have N_221 := (show Blk _ _ #[Value.bool (decide (r0 - t0 * r1 < 0)), Value.slice f0 f0n f0c, Value.bool (decide (x0 - t0 * x1 < 0)), Value.slice f1 f1n f1c, Value.bool (decide (y0 - t0 * y1 < 0)), Value.slice f2 f2n f2c] from ((((((N_205).setCell (i := 0) (v := Value.bool (decide (r0 - t0 * r1 < 0))) (by simp)).setCell (i := 1) (v := Value.slice f0 f0n f0c) (by simp)).setCell (i := 2) (v := Value.bool (decide (x0 - t0 * x1 < 0))) (by simp)).setCell (i := 3) (v := Value.slice f1 f1n f1c) (by simp)).setCell (i := 4) (v := Value.bool (decide (y0 - t0 * y1 < 0))) (by simp)).setCell (i := 5) (v := Value.slice f2 f2n f2c) (by simp))
      have Xa_222 := Xa_201.kp hkp (show ¬ (w.heap.size = w7.heap.size) by omega)
      have Xb_223 := Xb_202.kp hkp (show ¬ (w.heap.size + 1 = w7.heap.size) by omega)
      have R0_224 := R0_203.kp hkp (show ¬ (w.heap.size + 1 + 1 = w7.heap.size) by omega)
      have R1_225 := R1_204.kp hkp (show ¬ (w.heap.size + 1 + 1 + 1 = w7.heap.size) by omega)
      have L_226 := L_200.kp hkp (show ¬ (w3.heap.size = w7.heap.size) by omega)
      have Xz_227 := Xz_206.kp hkp (show ¬ (w102.heap.size = w7.heap.size) by omega)
      have Xu_228 := Xu_207.kp hkp (show ¬ (w102.heap.size + 1 = w7.heap.size) by omega)
      have M_229 := M_208.kp hkp (show ¬ (w102.heap.size + 1 + 1 = w7.heap.size) by omega)
      have Op_230 := Op_209.kp hkp (fun g' e => awpN g' e)
      have Oq_231 := Oq_210.kp hkp (fun g' e => awqN g' e)
      have Or_232 := Or_211.kp hkp (fun g' e => awrN g' e)
      have Op'_233 := Op'_212.kp hkp (fun g' e => awp'N g' e)
      have Oq'_234 := Oq'_213.kp hkp (fun g' e => awq'N g' e)
      have Or'_235 := Or'_214.kp hkp (fun g' e => awr'N g' e)
      have Oz_236 := Oz_215.kp hkp (fun g' e => awzN g' e)
      have Ou_237 := Ou_216.kp hkp (fun g' e => awuN g' e)
      have Of0_238 := Of0_217.kp hkp (fun g' e => awf0N g' e)
      have Of1_239 := Of1_218.kp hkp (fun g' e => awf1N g' e)
      have Of2_240 := Of2_219.kp hkp (fun g' e => awf2N g' e)
      have hbel241 := hbel220.kp hkp (hbel220).size (fun k hk => (show ¬ (k = w7.heap.size) by omega))
      have hse241 := hkp.size
      clear Xa_201 Xb_202 R0_203 R1_204 L_200 N_205 Xz_206 Xu_207 M_208 Op_209 Oq_210 Or_211 Op'_212 Oq'_213 Or'_214 Oz_215 Ou_216 Of0_217 Of1_218 Of2_219 hbel220 hkp
      generalize ((((((v115.setCell ⟨w7.heap.size, 0, none⟩ (Value.bool (decide (r0 - t0 * r1 < 0)))).setCell ⟨w7.heap.size, 1, none⟩ (Value.slice f0 f0n f0c)).setCell ⟨w7.heap.size, 2, none⟩ (Value.bool (decide (x0 - t0 * x1 < 0)))).setCell ⟨w7.heap.size, 3, none⟩ (Value.slice f1 f1n f1c)).setCell ⟨w7.heap.size, 4, none⟩ (Value.bool (decide (y0 - t0 * y1 < 0)))).setCell ⟨w7.heap.size, 5, none⟩ (Value.slice f2 f2n f2c)) = v116 at *
      have cXa0_241 : _ = some (Value.bool s) := Xa_222.cell 0
      have cXa1_241 : _ = some (Value.slice a n c) := Xa_222.cell 1
      have cXb0_241 : _ = some (Value.bool t) := Xb_223.cell 0
      have cXb1_241 : _ = some (Value.slice b m d) := Xb_223.cell 1
      have cR00_241 : _ = some (Value.bool false) := R0_224.cell 0
      have fR00_241 := R0_224.free 0
      have cR01_241 : _ = some (Value.slice none 0 0) := R0_224.cell 1
      have fR01_241 := R0_224.free 1
      have cR10_241 : _ = some (Value.bool false) := R1_225.cell 0
      have fR10_241 := R1_225.free 0
      have cR11_241 : _ = some (Value.slice none 0 0) := R1_225.cell 1
      have fR11_241 := R1_225.free 1
      have cL0_241 : _ = some (Value.bool (decide (r1 < 0))) := L_226.cell 0
      have fL0_241 := L_226.free 0
      have cL1_241 : _ = some (Value.slice p' p'n p'c) := L_226.cell 1
      have fL1_241 := L_226.free 1
      have cL2_241 : _ = some (Value.bool (decide (x1 < 0))) := L_226.cell 2
      have fL2_241 := L_226.free 2
      have cL3_241 : _ = some (Value.slice q' q'n q'c) := L_226.cell 3
      have fL3_241 := L_226.free 3
      have cL4_241 : _ = some (Value.bool (decide (y1 < 0))) := L_226.cell 4
      have fL4_241 := L_226.free 4
      have cL5_241 : _ = some (Value.slice r' r'n r'c) := L_226.cell 5
      have fL5_241 := L_226.free 5
      have cN0_241 : _ = some (Value.bool (decide (r0 - t0 * r1 < 0))) := N_221.cell 0
      have fN0_241 := N_221.free 0
      have cN1_241 : _ = some (Value.slice f0 f0n f0c) := N_221.cell 1
      have fN1_241 := N_221.free 1
      have cN2_241 : _ = some (Value.bool (decide (x0 - t0 * x1 < 0))) := N_221.cell 2
      have fN2_241 := N_221.free 2
      have cN3_241 : _ = some (Value.slice f1 f1n f1c) := N_221.cell 3
      have fN3_241 := N_221.free 3
      have cN4_241 : _ = some (Value.bool (decide (y0 - t0 * y1 < 0))) := N_221.cell 4
      have fN4_241 := N_221.free 4
      have cN5_241 : _ = some (Value.slice f2 f2n f2c) := N_221.cell 5
      have fN5_241 := N_221.free 5
      have cXz0_241 : _ = some (Value.bool (decide (t0 < 0))) := Xz_227.cell 0
      have cXz1_241 : _ = some (Value.slice z zn zc) := Xz_227.cell 1
      have cXu0_241 : _ = some (Value.bool (decide (t1 < 0))) := Xu_228.cell 0
      have cXu1_241 : _ = some (Value.slice u un uc) := Xu_228.cell 1
      have cM0_241 : _ = some (Value.bool (decide (r0 - t0 * r1 < 0))) := M_229.cell 0
      have fM0_241 := M_229.free 0
      have cM1_241 : _ = some (Value.slice f0 f0n f0c) := M_229.cell 1
      have fM1_241 := M_229.free 1
      have cM2_241 : _ = some (Value.bool (decide (x0 - t0 * x1 < 0))) := M_229.cell 2
      have fM2_241 := M_229.free 2
      have cM3_241 : _ = some (Value.slice f1 f1n f1c) := M_229.cell 3
      have fM3_241 := M_229.free 3
      have cM4_241 : _ = some (Value.bool (decide (y0 - t0 * y1 < 0))) := M_229.cell 4
      have fM4_241 := M_229.free 4
      have cM5_241 : _ = some (Value.slice f2 f2n f2c) := M_229.cell 5
      have fM5_241 := M_229.free 5
      have hRL : Row3 W0.heap.size v116 w3.heap.size w3.heap.size w7.heap.size r1 x1 y1 p' p'n p'c q' q'n q'c r' r'n r'c := ⟨L_226, Op'_233.mono (by omega), Oq'_234.mono (by omega), Or'_235.mono (by omega), dfp'q', dfp'r', dfq'r', awp'L, awq'L, awr'L, awp'N, awq'N, awr'N⟩
      have hRN : Row3 W0.heap.size v116 w7.heap.size w3.heap.size w7.heap.size (r0 - t0 * r1) (x0 - t0 * x1) (y0 - t0 * y1) f0 f0n f0c f1 f1n f1c f2 f2n f2c := ⟨N_221, Of0_238.mono (by omega), Of1_239.mono (by omega), Of2_240.mono (by omega), dff0f1, dff0f2, dff1f2, awf0L, awf1L, awf2L, awf0N, awf1N, awf2N⟩
      have HE : Hid (numAt v116 w7.heap.size 1 < numAt wr w7.heap.size 1) := by show _ < _; rw [HM0.out, numAt_rd (N_221.cell 1) Of0_238.rd]; exact HI.out.less (show r1 ≠ 0 by have := hr1p.out; omega) HT0.out
      go_wp2
      go_roundw
      case rel => exact ⟨r1, r0 - t0 * r1, x1, x0 - t0 * x1, y1, y0 - t0 * y1, _, _, _, _, _, _, _, _, _, _, _, _, _, _, _, _, _, _, HI', hRL, hRN, Xa_222, Xb_223, R0_224, R1_225, ⟨hbel241.os, hbel241.tape, hbel241.output, hbel241.size, hbel241.block⟩⟩
      case measure => exact HE.out

end Go.Proofs.Ytokkfppchfmjcaa
