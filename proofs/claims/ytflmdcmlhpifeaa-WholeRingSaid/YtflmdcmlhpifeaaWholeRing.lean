/- THE WALK OF credencelaw02.WholeRing: sums and products go together as those of whole numbers. -/
import Derived.Test.YtflmdcmlhpifeaaZo
namespace Go.Proofs.Ytflmdcmlhpifeaa
set_option linter.unusedVariables false
set_option linter.unusedSimpArgs false
open Go.ChangeShapes Go.WideShapes Go.ChangeAt Go.RowKit Go.NatP

set_option maxRecDepth 100000 in
set_option maxHeartbeats 8000000 in
theorem wholeRing_walk {w : World} {a : Option Addr} {na ca : Nat} {la : List Nat} {b : Option Addr} {nb cb : Nat} {lb : List Nat} {c : Option Addr} {nc cc : Nat} {lc : List Nat} (sa : Bool) (ha : Rd w a na ca la) (sb : Bool) (hb : Rd w b nb cb lb) (sc : Bool) (hc : Rd w c nc cc lc) :
    Calls Try.prog 7 #[.agg #[.bool sa, .slice a na ca], .agg #[.bool sb, .slice b nb cb], .agg #[.bool sc, .slice c nc cc]] w fun e w' => e = .returned (.bool true) ∧ Below w.heap.size w w' := by
  have hba := ha.bnd
  have hbb := hb.bnd
  have hbc := hc.bnd
  by_cases hga : 30 < na
  · have da : decide (30 < na) = true := decide_eq_true hga
    have hent := ent3 w #[Value.bool sa, Value.slice a na ca] #[Value.bool sb, Value.slice b nb cb] #[Value.bool sc, Value.slice c nc cc] 25 25 25
    go_enter Try.func7, Try.ntmps7
    go_wp2_with fail
    generalize (((w.alloc (.cells #[Value.bool sa, Value.slice a na ca] 25)).alloc (.cells #[Value.bool sb, Value.slice b nb cb] 25)).alloc (.cells #[Value.bool sc, Value.slice c nc cc] 25)) = W0 at hent ⊢
    obtain ⟨Xa_0, Xb_0, Xc_0, hbel0, hsz0⟩ := hent
    have Ra_1 := ha.below hbel0
    have Rb_2 := hb.below hbel0
    have Rc_3 := hc.below hbel0
    have cXa0_3 : _ = some (Value.bool sa) := Xa_0.cell 0
    have cXa1_3 : _ = some (Value.slice a na ca) := Xa_0.cell 1
    have cXb0_3 : _ = some (Value.bool sb) := Xb_0.cell 0
    have cXb1_3 : _ = some (Value.slice b nb cb) := Xb_0.cell 1
    have cXc0_3 : _ = some (Value.bool sc) := Xc_0.cell 0
    have cXc1_3 : _ = some (Value.slice c nc cc) := Xc_0.cell 1
    go_wp2_with fail
    refine (alive_any).mono ?_
    rintro e w1 ⟨rfl, hB⟩
    clear cXa0_3 cXa1_3 cXb0_3 cXb1_3 cXc0_3 cXc1_3
    have hstep : Below W0.heap.size W0 w1 := (by first | exact hB | exact below_drew hB)
    have Xa_4 := Xa_0.next hstep
    have Xb_5 := Xb_0.next hstep
    have Xc_6 := Xc_0.next hstep
    have Ra_7 := Ra_1.below hstep
    have Rb_8 := Rb_2.below hstep
    have Rc_9 := Rc_3.below hstep
    have hbel10 := hbel0.next hstep
    have hle10 := hbel10.size
    have hls10 := hstep.size
    clear Xa_0 Xb_0 Xc_0 Ra_1 Rb_2 Rc_3 hbel0 hstep
    have cXa0_10 : _ = some (Value.bool sa) := Xa_4.cell 0
    have cXa1_10 : _ = some (Value.slice a na ca) := Xa_4.cell 1
    have cXb0_10 : _ = some (Value.bool sb) := Xb_5.cell 0
    have cXb1_10 : _ = some (Value.slice b nb cb) := Xb_5.cell 1
    have cXc0_10 : _ = some (Value.bool sc) := Xc_6.cell 0
    have cXc1_10 : _ = some (Value.slice c nc cc) := Xc_6.cell 1
    go_wp2_with fail
    refine (big_any sa Ra_7 (by omega)).mono ?_
    rw [da]
    rintro e w2 ⟨rfl, hB⟩
    clear cXa0_10 cXa1_10 cXb0_10 cXb1_10 cXc0_10 cXc1_10
    have hstep : Below w1.heap.size w1 w2 := (by first | exact hB | exact below_drew hB)
    have Xa_11 := Xa_4.next hstep
    have Xb_12 := Xb_5.next hstep
    have Xc_13 := Xc_6.next hstep
    have Ra_14 := Ra_7.below hstep
    have Rb_15 := Rb_8.below hstep
    have Rc_16 := Rc_9.below hstep
    have hbel17 := hbel10.next hstep
    have hle17 := hbel17.size
    have hls17 := hstep.size
    clear Xa_4 Xb_5 Xc_6 Ra_7 Rb_8 Rc_9 hbel10 hstep
    have cXa0_17 : _ = some (Value.bool sa) := Xa_11.cell 0
    have cXa1_17 : _ = some (Value.slice a na ca) := Xa_11.cell 1
    have cXb0_17 : _ = some (Value.bool sb) := Xb_12.cell 0
    have cXb1_17 : _ = some (Value.slice b nb cb) := Xb_12.cell 1
    have cXc0_17 : _ = some (Value.bool sc) := Xc_13.cell 0
    have cXc1_17 : _ = some (Value.slice c nc cc) := Xc_13.cell 1
    go_wp2
    go_ret
    exact ⟨rfl, hbel17⟩
  have da : decide (30 < na) = false := decide_eq_false hga
  by_cases hgb : 30 < nb
  · have db : decide (30 < nb) = true := decide_eq_true hgb
    have hent := ent3 w #[Value.bool sa, Value.slice a na ca] #[Value.bool sb, Value.slice b nb cb] #[Value.bool sc, Value.slice c nc cc] 25 25 25
    go_enter Try.func7, Try.ntmps7
    go_wp2_with fail
    generalize (((w.alloc (.cells #[Value.bool sa, Value.slice a na ca] 25)).alloc (.cells #[Value.bool sb, Value.slice b nb cb] 25)).alloc (.cells #[Value.bool sc, Value.slice c nc cc] 25)) = W0 at hent ⊢
    obtain ⟨Xa_0, Xb_0, Xc_0, hbel0, hsz0⟩ := hent
    have Ra_1 := ha.below hbel0
    have Rb_2 := hb.below hbel0
    have Rc_3 := hc.below hbel0
    have cXa0_3 : _ = some (Value.bool sa) := Xa_0.cell 0
    have cXa1_3 : _ = some (Value.slice a na ca) := Xa_0.cell 1
    have cXb0_3 : _ = some (Value.bool sb) := Xb_0.cell 0
    have cXb1_3 : _ = some (Value.slice b nb cb) := Xb_0.cell 1
    have cXc0_3 : _ = some (Value.bool sc) := Xc_0.cell 0
    have cXc1_3 : _ = some (Value.slice c nc cc) := Xc_0.cell 1
    go_wp2_with fail
    refine (alive_any).mono ?_
    rintro e w1 ⟨rfl, hB⟩
    clear cXa0_3 cXa1_3 cXb0_3 cXb1_3 cXc0_3 cXc1_3
    have hstep : Below W0.heap.size W0 w1 := (by first | exact hB | exact below_drew hB)
    have Xa_4 := Xa_0.next hstep
    have Xb_5 := Xb_0.next hstep
    have Xc_6 := Xc_0.next hstep
    have Ra_7 := Ra_1.below hstep
    have Rb_8 := Rb_2.below hstep
    have Rc_9 := Rc_3.below hstep
    have hbel10 := hbel0.next hstep
    have hle10 := hbel10.size
    have hls10 := hstep.size
    clear Xa_0 Xb_0 Xc_0 Ra_1 Rb_2 Rc_3 hbel0 hstep
    have cXa0_10 : _ = some (Value.bool sa) := Xa_4.cell 0
    have cXa1_10 : _ = some (Value.slice a na ca) := Xa_4.cell 1
    have cXb0_10 : _ = some (Value.bool sb) := Xb_5.cell 0
    have cXb1_10 : _ = some (Value.slice b nb cb) := Xb_5.cell 1
    have cXc0_10 : _ = some (Value.bool sc) := Xc_6.cell 0
    have cXc1_10 : _ = some (Value.slice c nc cc) := Xc_6.cell 1
    go_wp2_with fail
    refine (big_any sa Ra_7 (by omega)).mono ?_
    rw [da]
    rintro e w2 ⟨rfl, hB⟩
    clear cXa0_10 cXa1_10 cXb0_10 cXb1_10 cXc0_10 cXc1_10
    have hstep : Below w1.heap.size w1 w2 := (by first | exact hB | exact below_drew hB)
    have Xa_11 := Xa_4.next hstep
    have Xb_12 := Xb_5.next hstep
    have Xc_13 := Xc_6.next hstep
    have Ra_14 := Ra_7.below hstep
    have Rb_15 := Rb_8.below hstep
    have Rc_16 := Rc_9.below hstep
    have hbel17 := hbel10.next hstep
    have hle17 := hbel17.size
    have hls17 := hstep.size
    clear Xa_4 Xb_5 Xc_6 Ra_7 Rb_8 Rc_9 hbel10 hstep
    have cXa0_17 : _ = some (Value.bool sa) := Xa_11.cell 0
    have cXa1_17 : _ = some (Value.slice a na ca) := Xa_11.cell 1
    have cXb0_17 : _ = some (Value.bool sb) := Xb_12.cell 0
    have cXb1_17 : _ = some (Value.slice b nb cb) := Xb_12.cell 1
    have cXc0_17 : _ = some (Value.bool sc) := Xc_13.cell 0
    have cXc1_17 : _ = some (Value.slice c nc cc) := Xc_13.cell 1
    go_wp2_with fail
    refine (big_any sb Rb_15 (by omega)).mono ?_
    rw [db]
    rintro e w3 ⟨rfl, hB⟩
    clear cXa0_17 cXa1_17 cXb0_17 cXb1_17 cXc0_17 cXc1_17
    have hstep : Below w2.heap.size w2 w3 := (by first | exact hB | exact below_drew hB)
    have Xa_18 := Xa_11.next hstep
    have Xb_19 := Xb_12.next hstep
    have Xc_20 := Xc_13.next hstep
    have Ra_21 := Ra_14.below hstep
    have Rb_22 := Rb_15.below hstep
    have Rc_23 := Rc_16.below hstep
    have hbel24 := hbel17.next hstep
    have hle24 := hbel24.size
    have hls24 := hstep.size
    clear Xa_11 Xb_12 Xc_13 Ra_14 Rb_15 Rc_16 hbel17 hstep
    have cXa0_24 : _ = some (Value.bool sa) := Xa_18.cell 0
    have cXa1_24 : _ = some (Value.slice a na ca) := Xa_18.cell 1
    have cXb0_24 : _ = some (Value.bool sb) := Xb_19.cell 0
    have cXb1_24 : _ = some (Value.slice b nb cb) := Xb_19.cell 1
    have cXc0_24 : _ = some (Value.bool sc) := Xc_20.cell 0
    have cXc1_24 : _ = some (Value.slice c nc cc) := Xc_20.cell 1
    go_wp2
    go_ret
    exact ⟨rfl, hbel24⟩
  have db : decide (30 < nb) = false := decide_eq_false hgb
  by_cases hgc : 30 < nc
  · have dc : decide (30 < nc) = true := decide_eq_true hgc
    have hent := ent3 w #[Value.bool sa, Value.slice a na ca] #[Value.bool sb, Value.slice b nb cb] #[Value.bool sc, Value.slice c nc cc] 25 25 25
    go_enter Try.func7, Try.ntmps7
    go_wp2_with fail
    generalize (((w.alloc (.cells #[Value.bool sa, Value.slice a na ca] 25)).alloc (.cells #[Value.bool sb, Value.slice b nb cb] 25)).alloc (.cells #[Value.bool sc, Value.slice c nc cc] 25)) = W0 at hent ⊢
    obtain ⟨Xa_0, Xb_0, Xc_0, hbel0, hsz0⟩ := hent
    have Ra_1 := ha.below hbel0
    have Rb_2 := hb.below hbel0
    have Rc_3 := hc.below hbel0
    have cXa0_3 : _ = some (Value.bool sa) := Xa_0.cell 0
    have cXa1_3 : _ = some (Value.slice a na ca) := Xa_0.cell 1
    have cXb0_3 : _ = some (Value.bool sb) := Xb_0.cell 0
    have cXb1_3 : _ = some (Value.slice b nb cb) := Xb_0.cell 1
    have cXc0_3 : _ = some (Value.bool sc) := Xc_0.cell 0
    have cXc1_3 : _ = some (Value.slice c nc cc) := Xc_0.cell 1
    go_wp2_with fail
    refine (alive_any).mono ?_
    rintro e w1 ⟨rfl, hB⟩
    clear cXa0_3 cXa1_3 cXb0_3 cXb1_3 cXc0_3 cXc1_3
    have hstep : Below W0.heap.size W0 w1 := (by first | exact hB | exact below_drew hB)
    have Xa_4 := Xa_0.next hstep
    have Xb_5 := Xb_0.next hstep
    have Xc_6 := Xc_0.next hstep
    have Ra_7 := Ra_1.below hstep
    have Rb_8 := Rb_2.below hstep
    have Rc_9 := Rc_3.below hstep
    have hbel10 := hbel0.next hstep
    have hle10 := hbel10.size
    have hls10 := hstep.size
    clear Xa_0 Xb_0 Xc_0 Ra_1 Rb_2 Rc_3 hbel0 hstep
    have cXa0_10 : _ = some (Value.bool sa) := Xa_4.cell 0
    have cXa1_10 : _ = some (Value.slice a na ca) := Xa_4.cell 1
    have cXb0_10 : _ = some (Value.bool sb) := Xb_5.cell 0
    have cXb1_10 : _ = some (Value.slice b nb cb) := Xb_5.cell 1
    have cXc0_10 : _ = some (Value.bool sc) := Xc_6.cell 0
    have cXc1_10 : _ = some (Value.slice c nc cc) := Xc_6.cell 1
    go_wp2_with fail
    refine (big_any sa Ra_7 (by omega)).mono ?_
    rw [da]
    rintro e w2 ⟨rfl, hB⟩
    clear cXa0_10 cXa1_10 cXb0_10 cXb1_10 cXc0_10 cXc1_10
    have hstep : Below w1.heap.size w1 w2 := (by first | exact hB | exact below_drew hB)
    have Xa_11 := Xa_4.next hstep
    have Xb_12 := Xb_5.next hstep
    have Xc_13 := Xc_6.next hstep
    have Ra_14 := Ra_7.below hstep
    have Rb_15 := Rb_8.below hstep
    have Rc_16 := Rc_9.below hstep
    have hbel17 := hbel10.next hstep
    have hle17 := hbel17.size
    have hls17 := hstep.size
    clear Xa_4 Xb_5 Xc_6 Ra_7 Rb_8 Rc_9 hbel10 hstep
    have cXa0_17 : _ = some (Value.bool sa) := Xa_11.cell 0
    have cXa1_17 : _ = some (Value.slice a na ca) := Xa_11.cell 1
    have cXb0_17 : _ = some (Value.bool sb) := Xb_12.cell 0
    have cXb1_17 : _ = some (Value.slice b nb cb) := Xb_12.cell 1
    have cXc0_17 : _ = some (Value.bool sc) := Xc_13.cell 0
    have cXc1_17 : _ = some (Value.slice c nc cc) := Xc_13.cell 1
    go_wp2_with fail
    refine (big_any sb Rb_15 (by omega)).mono ?_
    rw [db]
    rintro e w3 ⟨rfl, hB⟩
    clear cXa0_17 cXa1_17 cXb0_17 cXb1_17 cXc0_17 cXc1_17
    have hstep : Below w2.heap.size w2 w3 := (by first | exact hB | exact below_drew hB)
    have Xa_18 := Xa_11.next hstep
    have Xb_19 := Xb_12.next hstep
    have Xc_20 := Xc_13.next hstep
    have Ra_21 := Ra_14.below hstep
    have Rb_22 := Rb_15.below hstep
    have Rc_23 := Rc_16.below hstep
    have hbel24 := hbel17.next hstep
    have hle24 := hbel24.size
    have hls24 := hstep.size
    clear Xa_11 Xb_12 Xc_13 Ra_14 Rb_15 Rc_16 hbel17 hstep
    have cXa0_24 : _ = some (Value.bool sa) := Xa_18.cell 0
    have cXa1_24 : _ = some (Value.slice a na ca) := Xa_18.cell 1
    have cXb0_24 : _ = some (Value.bool sb) := Xb_19.cell 0
    have cXb1_24 : _ = some (Value.slice b nb cb) := Xb_19.cell 1
    have cXc0_24 : _ = some (Value.bool sc) := Xc_20.cell 0
    have cXc1_24 : _ = some (Value.slice c nc cc) := Xc_20.cell 1
    go_wp2_with fail
    refine (big_any sc Rc_23 (by omega)).mono ?_
    rw [dc]
    rintro e w4 ⟨rfl, hB⟩
    clear cXa0_24 cXa1_24 cXb0_24 cXb1_24 cXc0_24 cXc1_24
    have hstep : Below w3.heap.size w3 w4 := (by first | exact hB | exact below_drew hB)
    have Xa_25 := Xa_18.next hstep
    have Xb_26 := Xb_19.next hstep
    have Xc_27 := Xc_20.next hstep
    have Ra_28 := Ra_21.below hstep
    have Rb_29 := Rb_22.below hstep
    have Rc_30 := Rc_23.below hstep
    have hbel31 := hbel24.next hstep
    have hle31 := hbel31.size
    have hls31 := hstep.size
    clear Xa_18 Xb_19 Xc_20 Ra_21 Rb_22 Rc_23 hbel24 hstep
    have cXa0_31 : _ = some (Value.bool sa) := Xa_25.cell 0
    have cXa1_31 : _ = some (Value.slice a na ca) := Xa_25.cell 1
    have cXb0_31 : _ = some (Value.bool sb) := Xb_26.cell 0
    have cXb1_31 : _ = some (Value.slice b nb cb) := Xb_26.cell 1
    have cXc0_31 : _ = some (Value.bool sc) := Xc_27.cell 0
    have cXc1_31 : _ = some (Value.slice c nc cc) := Xc_27.cell 1
    go_wp2
    go_ret
    exact ⟨rfl, hbel31⟩
  have dc : decide (30 < nc) = false := decide_eq_false hgc
  obtain ⟨za, hza⟩ : ∃ z, zv sa (val la) = z := ⟨_, rfl⟩
  have HXa := hid hza
  have HBza : Hid (Sz za.natAbs 30) := by show Sz _ _; rw [← hza, zv_abs]; exact ha.szv.mono (Nat.le_refl _) (by omega)
  clear hza
  obtain ⟨zb, hzb⟩ : ∃ z, zv sb (val lb) = z := ⟨_, rfl⟩
  have HXb := hid hzb
  have HBzb : Hid (Sz zb.natAbs 30) := by show Sz _ _; rw [← hzb, zv_abs]; exact hb.szv.mono (Nat.le_refl _) (by omega)
  clear hzb
  obtain ⟨zc, hzc⟩ : ∃ z, zv sc (val lc) = z := ⟨_, rfl⟩
  have HXc := hid hzc
  have HBzc : Hid (Sz zc.natAbs 30) := by show Sz _ _; rw [← hzc, zv_abs]; exact hc.szv.mono (Nat.le_refl _) (by omega)
  clear hzc
  have hent := ent3 w #[Value.bool sa, Value.slice a na ca] #[Value.bool sb, Value.slice b nb cb] #[Value.bool sc, Value.slice c nc cc] 25 25 25
  go_enter Try.func7, Try.ntmps7
  go_wp2_with fail
  generalize (((w.alloc (.cells #[Value.bool sa, Value.slice a na ca] 25)).alloc (.cells #[Value.bool sb, Value.slice b nb cb] 25)).alloc (.cells #[Value.bool sc, Value.slice c nc cc] 25)) = W0 at hent ⊢
  obtain ⟨Xa_0, Xb_0, Xc_0, hbel0, hsz0⟩ := hent
  have Ra_1 := ha.below hbel0
  have Rb_2 := hb.below hbel0
  have Rc_3 := hc.below hbel0
  have cXa0_3 : _ = some (Value.bool sa) := Xa_0.cell 0
  have cXa1_3 : _ = some (Value.slice a na ca) := Xa_0.cell 1
  have cXb0_3 : _ = some (Value.bool sb) := Xb_0.cell 0
  have cXb1_3 : _ = some (Value.slice b nb cb) := Xb_0.cell 1
  have cXc0_3 : _ = some (Value.bool sc) := Xc_0.cell 0
  have cXc1_3 : _ = some (Value.slice c nc cc) := Xc_0.cell 1
  go_wp2_with fail
  refine (alive_any).mono ?_
  rintro e w1 ⟨rfl, hB⟩
  clear cXa0_3 cXa1_3 cXb0_3 cXb1_3 cXc0_3 cXc1_3
  have hstep : Below W0.heap.size W0 w1 := (by first | exact hB | exact below_drew hB)
  have Xa_4 := Xa_0.next hstep
  have Xb_5 := Xb_0.next hstep
  have Xc_6 := Xc_0.next hstep
  have Ra_7 := Ra_1.below hstep
  have Rb_8 := Rb_2.below hstep
  have Rc_9 := Rc_3.below hstep
  have hbel10 := hbel0.next hstep
  have hle10 := hbel10.size
  have hls10 := hstep.size
  clear Xa_0 Xb_0 Xc_0 Ra_1 Rb_2 Rc_3 hbel0 hstep
  have cXa0_10 : _ = some (Value.bool sa) := Xa_4.cell 0
  have cXa1_10 : _ = some (Value.slice a na ca) := Xa_4.cell 1
  have cXb0_10 : _ = some (Value.bool sb) := Xb_5.cell 0
  have cXb1_10 : _ = some (Value.slice b nb cb) := Xb_5.cell 1
  have cXc0_10 : _ = some (Value.bool sc) := Xc_6.cell 0
  have cXc1_10 : _ = some (Value.slice c nc cc) := Xc_6.cell 1
  go_wp2_with fail
  refine (big_any sa Ra_7 (by omega)).mono ?_
  rw [da]
  rintro e w2 ⟨rfl, hB⟩
  clear cXa0_10 cXa1_10 cXb0_10 cXb1_10 cXc0_10 cXc1_10
  have hstep : Below w1.heap.size w1 w2 := (by first | exact hB | exact below_drew hB)
  have Xa_11 := Xa_4.next hstep
  have Xb_12 := Xb_5.next hstep
  have Xc_13 := Xc_6.next hstep
  have Ra_14 := Ra_7.below hstep
  have Rb_15 := Rb_8.below hstep
  have Rc_16 := Rc_9.below hstep
  have hbel17 := hbel10.next hstep
  have hle17 := hbel17.size
  have hls17 := hstep.size
  clear Xa_4 Xb_5 Xc_6 Ra_7 Rb_8 Rc_9 hbel10 hstep
  have cXa0_17 : _ = some (Value.bool sa) := Xa_11.cell 0
  have cXa1_17 : _ = some (Value.slice a na ca) := Xa_11.cell 1
  have cXb0_17 : _ = some (Value.bool sb) := Xb_12.cell 0
  have cXb1_17 : _ = some (Value.slice b nb cb) := Xb_12.cell 1
  have cXc0_17 : _ = some (Value.bool sc) := Xc_13.cell 0
  have cXc1_17 : _ = some (Value.slice c nc cc) := Xc_13.cell 1
  go_wp2_with fail
  refine (big_any sb Rb_15 (by omega)).mono ?_
  rw [db]
  rintro e w3 ⟨rfl, hB⟩
  clear cXa0_17 cXa1_17 cXb0_17 cXb1_17 cXc0_17 cXc1_17
  have hstep : Below w2.heap.size w2 w3 := (by first | exact hB | exact below_drew hB)
  have Xa_18 := Xa_11.next hstep
  have Xb_19 := Xb_12.next hstep
  have Xc_20 := Xc_13.next hstep
  have Ra_21 := Ra_14.below hstep
  have Rb_22 := Rb_15.below hstep
  have Rc_23 := Rc_16.below hstep
  have hbel24 := hbel17.next hstep
  have hle24 := hbel24.size
  have hls24 := hstep.size
  clear Xa_11 Xb_12 Xc_13 Ra_14 Rb_15 Rc_16 hbel17 hstep
  have cXa0_24 : _ = some (Value.bool sa) := Xa_18.cell 0
  have cXa1_24 : _ = some (Value.slice a na ca) := Xa_18.cell 1
  have cXb0_24 : _ = some (Value.bool sb) := Xb_19.cell 0
  have cXb1_24 : _ = some (Value.slice b nb cb) := Xb_19.cell 1
  have cXc0_24 : _ = some (Value.bool sc) := Xc_20.cell 0
  have cXc1_24 : _ = some (Value.slice c nc cc) := Xc_20.cell 1
  go_wp2_with fail
  refine (big_any sc Rc_23 (by omega)).mono ?_
  rw [dc]
  rintro e w4 ⟨rfl, hB⟩
  clear cXa0_24 cXa1_24 cXb0_24 cXb1_24 cXc0_24 cXc1_24
  have hstep : Below w3.heap.size w3 w4 := (by first | exact hB | exact below_drew hB)
  have Xa_25 := Xa_18.next hstep
  have Xb_26 := Xb_19.next hstep
  have Xc_27 := Xc_20.next hstep
  have Ra_28 := Ra_21.below hstep
  have Rb_29 := Rb_22.below hstep
  have Rc_30 := Rc_23.below hstep
  have hbel31 := hbel24.next hstep
  have hle31 := hbel31.size
  have hls31 := hstep.size
  clear Xa_18 Xb_19 Xc_20 Ra_21 Rb_22 Rc_23 hbel24 hstep
  have cXa0_31 : _ = some (Value.bool sa) := Xa_25.cell 0
  have cXa1_31 : _ = some (Value.slice a na ca) := Xa_25.cell 1
  have cXb0_31 : _ = some (Value.bool sb) := Xb_26.cell 0
  have cXb1_31 : _ = some (Value.slice b nb cb) := Xb_26.cell 1
  have cXc0_31 : _ = some (Value.bool sc) := Xc_27.cell 0
  have cXc1_31 : _ = some (Value.slice c nc cc) := Xc_27.cell 1
  obtain ⟨z1, hzz⟩ : ∃ z, za + zb = z := ⟨_, rfl⟩
  have Hz1 := hid hzz
  have HBz1 : Hid (Sz z1.natAbs 31) := szI_add HBza.out HBzb.out hzz
  clear hzz
  obtain ⟨z2, hzz⟩ : ∃ z, zb + za = z := ⟨_, rfl⟩
  have Hz2 := hid hzz
  have HBz2 : Hid (Sz z2.natAbs 31) := szI_add HBzb.out HBza.out hzz
  clear hzz
  have HE3 := hid (show decide (z1 = z2) = true from decide_eq_true (by rw [← Hz1.out, ← Hz2.out]; exact Int.add_comm _ _))
  obtain ⟨z4, hzz⟩ : ∃ z, za + zb = z := ⟨_, rfl⟩
  have Hz4 := hid hzz
  have HBz4 : Hid (Sz z4.natAbs 31) := szI_add HBza.out HBzb.out hzz
  clear hzz
  obtain ⟨z5, hzz⟩ : ∃ z, z4 + zc = z := ⟨_, rfl⟩
  have Hz5 := hid hzz
  have HBz5 : Hid (Sz z5.natAbs 32) := szI_add HBz4.out (HBzc.out.mono (Nat.le_refl _) (by omega)) hzz
  clear hzz
  obtain ⟨z6, hzz⟩ : ∃ z, zb + zc = z := ⟨_, rfl⟩
  have Hz6 := hid hzz
  have HBz6 : Hid (Sz z6.natAbs 31) := szI_add HBzb.out HBzc.out hzz
  clear hzz
  obtain ⟨z7, hzz⟩ : ∃ z, za + z6 = z := ⟨_, rfl⟩
  have Hz7 := hid hzz
  have HBz7 : Hid (Sz z7.natAbs 32) := szI_add (HBza.out.mono (Nat.le_refl _) (by omega)) HBz6.out hzz
  clear hzz
  have HE8 := hid (show decide (z5 = z7) = true from decide_eq_true (by rw [← Hz5.out, ← Hz4.out, ← Hz7.out, ← Hz6.out]; exact Int.add_assoc _ _ _))
  go_wp2_with fail
  have KXa0_0 : _ = some (Value.bool sa) := Xa_25.cell 0
  have KXa1_0 : _ = some (Value.slice a na ca) := Xa_25.cell 1
  have KXb0_0 : _ = some (Value.bool sb) := Xb_26.cell 0
  have KXb1_0 : _ = some (Value.slice b nb cb) := Xb_26.cell 1
  have KXc0_0 : _ = some (Value.bool sc) := Xc_27.cell 0
  have KXc1_0 : _ = some (Value.slice c nc cc) := Xc_27.cell 1
  have Xa_h0 := Xa_25
  have Xb_h0 := Xb_26
  have Xc_h0 := Xc_27
  have acc0 : Below w4.heap.size w4 w4 := Below.refl _ _
  go_region_held3 (fun w' => w'.cell? ⟨w.heap.size, 0, none⟩ = some (Value.bool sa) ∧ w'.cell? ⟨w.heap.size, 1, none⟩ = some (Value.slice a na ca) ∧ w'.cell? ⟨w.heap.size + 1, 0, none⟩ = some (Value.bool sb) ∧ w'.cell? ⟨w.heap.size + 1, 1, none⟩ = some (Value.slice b nb cb) ∧ w'.cell? ⟨w.heap.size + 1 + 1, 0, none⟩ = some (Value.bool sc) ∧ w'.cell? ⟨w.heap.size + 1 + 1, 1, none⟩ = some (Value.slice c nc cc))
    (first | exact ⟨KXa0_0, KXa1_0, KXb0_0, KXb1_0, KXc0_0, KXc1_0⟩ | exact ⟨KXa0_1, KXa1_1, KXb0_1, KXb1_1, KXc0_1, KXc1_1⟩ | exact ⟨KXa0_2, KXa1_2, KXb0_2, KXb1_2, KXc0_2, KXc1_2⟩ | exact ⟨KXa0_3, KXa1_3, KXb0_3, KXb1_3, KXc0_3, KXc1_3⟩ | exact ⟨KXa0_4, KXa1_4, KXb0_4, KXb1_4, KXc0_4, KXc1_4⟩ | exact ⟨KXa0_5, KXa1_5, KXb0_5, KXb1_5, KXc0_5, KXc1_5⟩ | exact ⟨KXa0_6, KXa1_6, KXb0_6, KXb1_6, KXc0_6, KXc1_6⟩ | exact ⟨KXa0_7, KXa1_7, KXb0_7, KXb1_7, KXc0_7, KXc1_7⟩ | exact ⟨KXa0_8, KXa1_8, KXb0_8, KXb1_8, KXc0_8, KXc1_8⟩ | go_keep)
    (first
      | (go_at_call 31; ((with_reducible refine (zaddG (show Rd _ a na ca la from Ra_28.below (by first | exact acc0 | exact (acc0).drew)) (show na ≤ 4194304 by omega) (show Rd _ b nb cb lb from Rb_29.below (by first | exact acc0 | exact (acc0).drew)) (show nb ≤ 4194304 by omega) HXa.out HXb.out Hz1.out).mono ?_); (rintro e w5 ⟨r1, r1n, r1c, rfl, hO1_1, hB⟩; have hst1 : Below w4.heap.size w4 w5 := (by first | exact hB | exact below_drew hB); have acc1 := acc0.next hst1; have Xa_h1 := Xa_h0.next hst1; have Xb_h1 := Xb_h0.next hst1; have Xc_h1 := Xc_h0.next hst1; have KXa0_1 : _ = some (Value.bool sa) := Xa_h1.cell 0; have KXa1_1 : _ = some (Value.slice a na ca) := Xa_h1.cell 1; have KXb0_1 : _ = some (Value.bool sb) := Xb_h1.cell 0; have KXb1_1 : _ = some (Value.slice b nb cb) := Xb_h1.cell 1; have KXc0_1 : _ = some (Value.bool sc) := Xc_h1.cell 0; have KXc1_1 : _ = some (Value.slice c nc cc) := Xc_h1.cell 1; have hlr1 : r1n ≤ 31 := len_le (l := la) hO1_1.len HBz1.out)))
      | (go_at_call 31; ((with_reducible refine (zaddG (show Rd _ b nb cb lb from Rb_29.below (by first | exact acc1 | exact (acc1).drew)) (show nb ≤ 4194304 by omega) (show Rd _ a na ca la from Ra_28.below (by first | exact acc1 | exact (acc1).drew)) (show na ≤ 4194304 by omega) HXb.out HXa.out Hz2.out).mono ?_); (rintro e w6 ⟨r2, r2n, r2c, rfl, hO2_2, hB⟩; have hst2 : Below w5.heap.size w5 w6 := (by first | exact hB | exact below_drew hB); have acc2 := acc1.next hst2; have Xa_h2 := Xa_h1.next hst2; have Xb_h2 := Xb_h1.next hst2; have Xc_h2 := Xc_h1.next hst2; have KXa0_2 : _ = some (Value.bool sa) := Xa_h2.cell 0; have KXa1_2 : _ = some (Value.slice a na ca) := Xa_h2.cell 1; have KXb0_2 : _ = some (Value.bool sb) := Xb_h2.cell 0; have KXb1_2 : _ = some (Value.slice b nb cb) := Xb_h2.cell 1; have KXc0_2 : _ = some (Value.bool sc) := Xc_h2.cell 0; have KXc1_2 : _ = some (Value.slice c nc cc) := Xc_h2.cell 1; have hlr2 : r2n ≤ 31 := len_le (l := la) hO2_2.len HBz2.out; have hO1_2 := hO1_1.below hst2)))
      | (go_at_call 30; ((with_reducible refine (zequalG (show Rd _ r1 r1n r1c (lm z1.natAbs) from (hO1_2.below (by first | exact Below.refl _ _ | exact (Below.refl _ _).drew)).rd) (show r1n ≤ 4194304 by omega) (show Rd _ r2 r2n r2c (lm z2.natAbs) from (hO2_2.below (by first | exact Below.refl _ _ | exact (Below.refl _ _).drew)).rd) (show r2n ≤ 4194304 by omega) (zvlm z1) (zvlm z2) HE3.out).mono ?_); (rintro e w7 ⟨rfl, hB⟩; have hst3 : Below w6.heap.size w6 w7 := (by first | exact hB | exact below_drew hB); have acc3 := acc2.next hst3; have Xa_h3 := Xa_h2.next hst3; have Xb_h3 := Xb_h2.next hst3; have Xc_h3 := Xc_h2.next hst3; have KXa0_3 : _ = some (Value.bool sa) := Xa_h3.cell 0; have KXa1_3 : _ = some (Value.slice a na ca) := Xa_h3.cell 1; have KXb0_3 : _ = some (Value.bool sb) := Xb_h3.cell 0; have KXb1_3 : _ = some (Value.slice b nb cb) := Xb_h3.cell 1; have KXc0_3 : _ = some (Value.bool sc) := Xc_h3.cell 0; have KXc1_3 : _ = some (Value.slice c nc cc) := Xc_h3.cell 1)))
      | (go_at_call 31; ((with_reducible refine (zaddG (show Rd _ a na ca la from Ra_28.below (by first | exact acc3 | exact (acc3).drew)) (show na ≤ 4194304 by omega) (show Rd _ b nb cb lb from Rb_29.below (by first | exact acc3 | exact (acc3).drew)) (show nb ≤ 4194304 by omega) HXa.out HXb.out Hz4.out).mono ?_); (rintro e w8 ⟨r4, r4n, r4c, rfl, hO4_4, hB⟩; have hst4 : Below w7.heap.size w7 w8 := (by first | exact hB | exact below_drew hB); have acc4 := acc3.next hst4; have Xa_h4 := Xa_h3.next hst4; have Xb_h4 := Xb_h3.next hst4; have Xc_h4 := Xc_h3.next hst4; have KXa0_4 : _ = some (Value.bool sa) := Xa_h4.cell 0; have KXa1_4 : _ = some (Value.slice a na ca) := Xa_h4.cell 1; have KXb0_4 : _ = some (Value.bool sb) := Xb_h4.cell 0; have KXb1_4 : _ = some (Value.slice b nb cb) := Xb_h4.cell 1; have KXc0_4 : _ = some (Value.bool sc) := Xc_h4.cell 0; have KXc1_4 : _ = some (Value.slice c nc cc) := Xc_h4.cell 1; have hlr4 : r4n ≤ 31 := len_le (l := la) hO4_4.len HBz4.out)))
      | (go_at_call 31; ((with_reducible refine (zaddG (show Rd _ r4 r4n r4c (lm z4.natAbs) from (hO4_4.below (by first | exact Below.refl _ _ | exact (Below.refl _ _).drew)).rd) (show r4n ≤ 4194304 by omega) (show Rd _ c nc cc lc from Rc_30.below (by first | exact acc4 | exact (acc4).drew)) (show nc ≤ 4194304 by omega) (zvlm z4) HXc.out Hz5.out).mono ?_); (rintro e w9 ⟨r5, r5n, r5c, rfl, hO5_5, hB⟩; have hst5 : Below w8.heap.size w8 w9 := (by first | exact hB | exact below_drew hB); have acc5 := acc4.next hst5; have Xa_h5 := Xa_h4.next hst5; have Xb_h5 := Xb_h4.next hst5; have Xc_h5 := Xc_h4.next hst5; have KXa0_5 : _ = some (Value.bool sa) := Xa_h5.cell 0; have KXa1_5 : _ = some (Value.slice a na ca) := Xa_h5.cell 1; have KXb0_5 : _ = some (Value.bool sb) := Xb_h5.cell 0; have KXb1_5 : _ = some (Value.slice b nb cb) := Xb_h5.cell 1; have KXc0_5 : _ = some (Value.bool sc) := Xc_h5.cell 0; have KXc1_5 : _ = some (Value.slice c nc cc) := Xc_h5.cell 1; have hlr5 : r5n ≤ 32 := len_le (l := la) hO5_5.len HBz5.out)))
      | (go_at_call 31; ((with_reducible refine (zaddG (show Rd _ b nb cb lb from Rb_29.below (by first | exact acc5 | exact (acc5).drew)) (show nb ≤ 4194304 by omega) (show Rd _ c nc cc lc from Rc_30.below (by first | exact acc5 | exact (acc5).drew)) (show nc ≤ 4194304 by omega) HXb.out HXc.out Hz6.out).mono ?_); (rintro e w10 ⟨r6, r6n, r6c, rfl, hO6_6, hB⟩; have hst6 : Below w9.heap.size w9 w10 := (by first | exact hB | exact below_drew hB); have acc6 := acc5.next hst6; have Xa_h6 := Xa_h5.next hst6; have Xb_h6 := Xb_h5.next hst6; have Xc_h6 := Xc_h5.next hst6; have KXa0_6 : _ = some (Value.bool sa) := Xa_h6.cell 0; have KXa1_6 : _ = some (Value.slice a na ca) := Xa_h6.cell 1; have KXb0_6 : _ = some (Value.bool sb) := Xb_h6.cell 0; have KXb1_6 : _ = some (Value.slice b nb cb) := Xb_h6.cell 1; have KXc0_6 : _ = some (Value.bool sc) := Xc_h6.cell 0; have KXc1_6 : _ = some (Value.slice c nc cc) := Xc_h6.cell 1; have hlr6 : r6n ≤ 31 := len_le (l := la) hO6_6.len HBz6.out; have hO5_6 := hO5_5.below hst6)))
      | (go_at_call 31; ((with_reducible refine (zaddG (show Rd _ a na ca la from Ra_28.below (by first | exact acc6 | exact (acc6).drew)) (show na ≤ 4194304 by omega) (show Rd _ r6 r6n r6c (lm z6.natAbs) from (hO6_6.below (by first | exact Below.refl _ _ | exact (Below.refl _ _).drew)).rd) (show r6n ≤ 4194304 by omega) HXa.out (zvlm z6) Hz7.out).mono ?_); (rintro e w11 ⟨r7, r7n, r7c, rfl, hO7_7, hB⟩; have hst7 : Below w10.heap.size w10 w11 := (by first | exact hB | exact below_drew hB); have acc7 := acc6.next hst7; have Xa_h7 := Xa_h6.next hst7; have Xb_h7 := Xb_h6.next hst7; have Xc_h7 := Xc_h6.next hst7; have KXa0_7 : _ = some (Value.bool sa) := Xa_h7.cell 0; have KXa1_7 : _ = some (Value.slice a na ca) := Xa_h7.cell 1; have KXb0_7 : _ = some (Value.bool sb) := Xb_h7.cell 0; have KXb1_7 : _ = some (Value.slice b nb cb) := Xb_h7.cell 1; have KXc0_7 : _ = some (Value.bool sc) := Xc_h7.cell 0; have KXc1_7 : _ = some (Value.slice c nc cc) := Xc_h7.cell 1; have hlr7 : r7n ≤ 32 := len_le (l := la) hO7_7.len HBz7.out; have hO5_7 := hO5_6.below hst7)))
      | (go_at_call 30; ((with_reducible refine (zequalG (show Rd _ r5 r5n r5c (lm z5.natAbs) from (hO5_7.below (by first | exact Below.refl _ _ | exact (Below.refl _ _).drew)).rd) (show r5n ≤ 4194304 by omega) (show Rd _ r7 r7n r7c (lm z7.natAbs) from (hO7_7.below (by first | exact Below.refl _ _ | exact (Below.refl _ _).drew)).rd) (show r7n ≤ 4194304 by omega) (zvlm z5) (zvlm z7) HE8.out).mono ?_); (rintro e w12 ⟨rfl, hB⟩; have hst8 : Below w11.heap.size w11 w12 := (by first | exact hB | exact below_drew hB); have acc8 := acc7.next hst8; have Xa_h8 := Xa_h7.next hst8; have Xb_h8 := Xb_h7.next hst8; have Xc_h8 := Xc_h7.next hst8; have KXa0_8 : _ = some (Value.bool sa) := Xa_h8.cell 0; have KXa1_8 : _ = some (Value.slice a na ca) := Xa_h8.cell 1; have KXb0_8 : _ = some (Value.bool sb) := Xb_h8.cell 0; have KXb1_8 : _ = some (Value.slice b nb cb) := Xb_h8.cell 1; have KXc0_8 : _ = some (Value.bool sc) := Xc_h8.cell 0; have KXc1_8 : _ = some (Value.slice c nc cc) := Xc_h8.cell 1))))
  clear cXa0_31 cXa1_31 cXb0_31 cXb1_31 cXc0_31 cXc1_31
  have hstep : Below w4.heap.size w4 w12 := (by first | exact acc8 | exact below_drew acc8)
  have Xa_32 := Xa_25.next hstep
  have Xb_33 := Xb_26.next hstep
  have Xc_34 := Xc_27.next hstep
  have Ra_35 := Ra_28.below hstep
  have Rb_36 := Rb_29.below hstep
  have Rc_37 := Rc_30.below hstep
  have hbel38 := hbel31.next hstep
  have hle38 := hbel38.size
  have hls38 := hstep.size
  clear Xa_25 Xb_26 Xc_27 Ra_28 Rb_29 Rc_30 hbel31 hstep
  have cXa0_38 : _ = some (Value.bool sa) := Xa_32.cell 0
  have cXa1_38 : _ = some (Value.slice a na ca) := Xa_32.cell 1
  have cXb0_38 : _ = some (Value.bool sb) := Xb_33.cell 0
  have cXb1_38 : _ = some (Value.slice b nb cb) := Xb_33.cell 1
  have cXc0_38 : _ = some (Value.bool sc) := Xc_34.cell 0
  have cXc1_38 : _ = some (Value.slice c nc cc) := Xc_34.cell 1
  clear acc0 acc1 acc2 acc3 acc4 acc5 acc6 acc7 acc8 hst1 hst2 hst3 hst4 hst5 hst6 hst7 hst8 KXa0_0 KXa1_0 KXb0_0 KXb1_0 KXc0_0 KXc1_0 KXa0_1 KXa1_1 KXb0_1 KXb1_1 KXc0_1 KXc1_1 KXa0_2 KXa1_2 KXb0_2 KXb1_2 KXc0_2 KXc1_2 KXa0_3 KXa1_3 KXb0_3 KXb1_3 KXc0_3 KXc1_3 KXa0_4 KXa1_4 KXb0_4 KXb1_4 KXc0_4 KXc1_4 KXa0_5 KXa1_5 KXb0_5 KXb1_5 KXc0_5 KXc1_5 KXa0_6 KXa1_6 KXb0_6 KXb1_6 KXc0_6 KXc1_6 KXa0_7 KXa1_7 KXb0_7 KXb1_7 KXc0_7 KXc1_7 KXa0_8 KXa1_8 KXb0_8 KXb1_8 KXc0_8 KXc1_8 Xa_h0 Xa_h1 Xa_h2 Xa_h3 Xa_h4 Xa_h5 Xa_h6 Xa_h7 Xa_h8 Xb_h0 Xb_h1 Xb_h2 Xb_h3 Xb_h4 Xb_h5 Xb_h6 Xb_h7 Xb_h8 Xc_h0 Xc_h1 Xc_h2 Xc_h3 Xc_h4 Xc_h5 Xc_h6 Xc_h7 Xc_h8
  clear hO1_1 hO1_2 hO2_2 hO4_4 hO5_5 hO5_6 hO5_7 hO6_6 hO7_7
  go_wp2_with fail
  obtain ⟨z9, hzz⟩ : ∃ z, za * zb = z := ⟨_, rfl⟩
  have Hz9 := hid hzz
  have HBz9 : Hid (Sz z9.natAbs 60) := szI_mul HBza.out HBzb.out hzz
  clear hzz
  obtain ⟨z10, hzz⟩ : ∃ z, zb * za = z := ⟨_, rfl⟩
  have Hz10 := hid hzz
  have HBz10 : Hid (Sz z10.natAbs 60) := szI_mul HBzb.out HBza.out hzz
  clear hzz
  have HE11 := hid (show decide (z9 = z10) = true from decide_eq_true (by rw [← Hz9.out, ← Hz10.out]; exact Int.mul_comm _ _))
  obtain ⟨z12, hzz⟩ : ∃ z, za * zb = z := ⟨_, rfl⟩
  have Hz12 := hid hzz
  have HBz12 : Hid (Sz z12.natAbs 60) := szI_mul HBza.out HBzb.out hzz
  clear hzz
  obtain ⟨z13, hzz⟩ : ∃ z, z12 * zc = z := ⟨_, rfl⟩
  have Hz13 := hid hzz
  have HBz13 : Hid (Sz z13.natAbs 90) := szI_mul HBz12.out HBzc.out hzz
  clear hzz
  obtain ⟨z14, hzz⟩ : ∃ z, zb * zc = z := ⟨_, rfl⟩
  have Hz14 := hid hzz
  have HBz14 : Hid (Sz z14.natAbs 60) := szI_mul HBzb.out HBzc.out hzz
  clear hzz
  obtain ⟨z15, hzz⟩ : ∃ z, za * z14 = z := ⟨_, rfl⟩
  have Hz15 := hid hzz
  have HBz15 : Hid (Sz z15.natAbs 90) := szI_mul HBza.out HBz14.out hzz
  clear hzz
  have HE16 := hid (show decide (z13 = z15) = true from decide_eq_true (by rw [← Hz13.out, ← Hz12.out, ← Hz15.out, ← Hz14.out]; exact Int.mul_assoc _ _ _))
  go_wp2_with fail
  have KXa0_0 : _ = some (Value.bool sa) := Xa_32.cell 0
  have KXa1_0 : _ = some (Value.slice a na ca) := Xa_32.cell 1
  have KXb0_0 : _ = some (Value.bool sb) := Xb_33.cell 0
  have KXb1_0 : _ = some (Value.slice b nb cb) := Xb_33.cell 1
  have KXc0_0 : _ = some (Value.bool sc) := Xc_34.cell 0
  have KXc1_0 : _ = some (Value.slice c nc cc) := Xc_34.cell 1
  have Xa_h0 := Xa_32
  have Xb_h0 := Xb_33
  have Xc_h0 := Xc_34
  have acc0 : Below w12.heap.size w12 w12 := Below.refl _ _
  go_region_held3 (fun w' => w'.cell? ⟨w.heap.size, 0, none⟩ = some (Value.bool sa) ∧ w'.cell? ⟨w.heap.size, 1, none⟩ = some (Value.slice a na ca) ∧ w'.cell? ⟨w.heap.size + 1, 0, none⟩ = some (Value.bool sb) ∧ w'.cell? ⟨w.heap.size + 1, 1, none⟩ = some (Value.slice b nb cb) ∧ w'.cell? ⟨w.heap.size + 1 + 1, 0, none⟩ = some (Value.bool sc) ∧ w'.cell? ⟨w.heap.size + 1 + 1, 1, none⟩ = some (Value.slice c nc cc))
    (first | exact ⟨KXa0_0, KXa1_0, KXb0_0, KXb1_0, KXc0_0, KXc1_0⟩ | exact ⟨KXa0_1, KXa1_1, KXb0_1, KXb1_1, KXc0_1, KXc1_1⟩ | exact ⟨KXa0_2, KXa1_2, KXb0_2, KXb1_2, KXc0_2, KXc1_2⟩ | exact ⟨KXa0_3, KXa1_3, KXb0_3, KXb1_3, KXc0_3, KXc1_3⟩ | exact ⟨KXa0_4, KXa1_4, KXb0_4, KXb1_4, KXc0_4, KXc1_4⟩ | exact ⟨KXa0_5, KXa1_5, KXb0_5, KXb1_5, KXc0_5, KXc1_5⟩ | exact ⟨KXa0_6, KXa1_6, KXb0_6, KXb1_6, KXc0_6, KXc1_6⟩ | exact ⟨KXa0_7, KXa1_7, KXb0_7, KXb1_7, KXc0_7, KXc1_7⟩ | exact ⟨KXa0_8, KXa1_8, KXb0_8, KXb1_8, KXc0_8, KXc1_8⟩ | go_keep)
    (first
      | (go_at_call 32; ((with_reducible refine (zmulG (show Rd _ a na ca la from Ra_35.below (by first | exact acc0 | exact (acc0).drew)) (show na ≤ 4194304 by omega) (show Rd _ b nb cb lb from Rb_36.below (by first | exact acc0 | exact (acc0).drew)) (show nb ≤ 4194304 by omega) HXa.out HXb.out Hz9.out).mono ?_); (rintro e w13 ⟨r9, r9n, r9c, rfl, hO1_1, hB⟩; have hst1 : Below w12.heap.size w12 w13 := (by first | exact hB | exact below_drew hB); have acc1 := acc0.next hst1; have Xa_h1 := Xa_h0.next hst1; have Xb_h1 := Xb_h0.next hst1; have Xc_h1 := Xc_h0.next hst1; have KXa0_1 : _ = some (Value.bool sa) := Xa_h1.cell 0; have KXa1_1 : _ = some (Value.slice a na ca) := Xa_h1.cell 1; have KXb0_1 : _ = some (Value.bool sb) := Xb_h1.cell 0; have KXb1_1 : _ = some (Value.slice b nb cb) := Xb_h1.cell 1; have KXc0_1 : _ = some (Value.bool sc) := Xc_h1.cell 0; have KXc1_1 : _ = some (Value.slice c nc cc) := Xc_h1.cell 1; have hlr9 : r9n ≤ 60 := len_le (l := la) hO1_1.len HBz9.out)))
      | (go_at_call 32; ((with_reducible refine (zmulG (show Rd _ b nb cb lb from Rb_36.below (by first | exact acc1 | exact (acc1).drew)) (show nb ≤ 4194304 by omega) (show Rd _ a na ca la from Ra_35.below (by first | exact acc1 | exact (acc1).drew)) (show na ≤ 4194304 by omega) HXb.out HXa.out Hz10.out).mono ?_); (rintro e w14 ⟨r10, r10n, r10c, rfl, hO2_2, hB⟩; have hst2 : Below w13.heap.size w13 w14 := (by first | exact hB | exact below_drew hB); have acc2 := acc1.next hst2; have Xa_h2 := Xa_h1.next hst2; have Xb_h2 := Xb_h1.next hst2; have Xc_h2 := Xc_h1.next hst2; have KXa0_2 : _ = some (Value.bool sa) := Xa_h2.cell 0; have KXa1_2 : _ = some (Value.slice a na ca) := Xa_h2.cell 1; have KXb0_2 : _ = some (Value.bool sb) := Xb_h2.cell 0; have KXb1_2 : _ = some (Value.slice b nb cb) := Xb_h2.cell 1; have KXc0_2 : _ = some (Value.bool sc) := Xc_h2.cell 0; have KXc1_2 : _ = some (Value.slice c nc cc) := Xc_h2.cell 1; have hlr10 : r10n ≤ 60 := len_le (l := la) hO2_2.len HBz10.out; have hO1_2 := hO1_1.below hst2)))
      | (go_at_call 30; ((with_reducible refine (zequalG (show Rd _ r9 r9n r9c (lm z9.natAbs) from (hO1_2.below (by first | exact Below.refl _ _ | exact (Below.refl _ _).drew)).rd) (show r9n ≤ 4194304 by omega) (show Rd _ r10 r10n r10c (lm z10.natAbs) from (hO2_2.below (by first | exact Below.refl _ _ | exact (Below.refl _ _).drew)).rd) (show r10n ≤ 4194304 by omega) (zvlm z9) (zvlm z10) HE11.out).mono ?_); (rintro e w15 ⟨rfl, hB⟩; have hst3 : Below w14.heap.size w14 w15 := (by first | exact hB | exact below_drew hB); have acc3 := acc2.next hst3; have Xa_h3 := Xa_h2.next hst3; have Xb_h3 := Xb_h2.next hst3; have Xc_h3 := Xc_h2.next hst3; have KXa0_3 : _ = some (Value.bool sa) := Xa_h3.cell 0; have KXa1_3 : _ = some (Value.slice a na ca) := Xa_h3.cell 1; have KXb0_3 : _ = some (Value.bool sb) := Xb_h3.cell 0; have KXb1_3 : _ = some (Value.slice b nb cb) := Xb_h3.cell 1; have KXc0_3 : _ = some (Value.bool sc) := Xc_h3.cell 0; have KXc1_3 : _ = some (Value.slice c nc cc) := Xc_h3.cell 1)))
      | (go_at_call 32; ((with_reducible refine (zmulG (show Rd _ a na ca la from Ra_35.below (by first | exact acc3 | exact (acc3).drew)) (show na ≤ 4194304 by omega) (show Rd _ b nb cb lb from Rb_36.below (by first | exact acc3 | exact (acc3).drew)) (show nb ≤ 4194304 by omega) HXa.out HXb.out Hz12.out).mono ?_); (rintro e w16 ⟨r12, r12n, r12c, rfl, hO4_4, hB⟩; have hst4 : Below w15.heap.size w15 w16 := (by first | exact hB | exact below_drew hB); have acc4 := acc3.next hst4; have Xa_h4 := Xa_h3.next hst4; have Xb_h4 := Xb_h3.next hst4; have Xc_h4 := Xc_h3.next hst4; have KXa0_4 : _ = some (Value.bool sa) := Xa_h4.cell 0; have KXa1_4 : _ = some (Value.slice a na ca) := Xa_h4.cell 1; have KXb0_4 : _ = some (Value.bool sb) := Xb_h4.cell 0; have KXb1_4 : _ = some (Value.slice b nb cb) := Xb_h4.cell 1; have KXc0_4 : _ = some (Value.bool sc) := Xc_h4.cell 0; have KXc1_4 : _ = some (Value.slice c nc cc) := Xc_h4.cell 1; have hlr12 : r12n ≤ 60 := len_le (l := la) hO4_4.len HBz12.out)))
      | (go_at_call 32; ((with_reducible refine (zmulG (show Rd _ r12 r12n r12c (lm z12.natAbs) from (hO4_4.below (by first | exact Below.refl _ _ | exact (Below.refl _ _).drew)).rd) (show r12n ≤ 4194304 by omega) (show Rd _ c nc cc lc from Rc_37.below (by first | exact acc4 | exact (acc4).drew)) (show nc ≤ 4194304 by omega) (zvlm z12) HXc.out Hz13.out).mono ?_); (rintro e w17 ⟨r13, r13n, r13c, rfl, hO5_5, hB⟩; have hst5 : Below w16.heap.size w16 w17 := (by first | exact hB | exact below_drew hB); have acc5 := acc4.next hst5; have Xa_h5 := Xa_h4.next hst5; have Xb_h5 := Xb_h4.next hst5; have Xc_h5 := Xc_h4.next hst5; have KXa0_5 : _ = some (Value.bool sa) := Xa_h5.cell 0; have KXa1_5 : _ = some (Value.slice a na ca) := Xa_h5.cell 1; have KXb0_5 : _ = some (Value.bool sb) := Xb_h5.cell 0; have KXb1_5 : _ = some (Value.slice b nb cb) := Xb_h5.cell 1; have KXc0_5 : _ = some (Value.bool sc) := Xc_h5.cell 0; have KXc1_5 : _ = some (Value.slice c nc cc) := Xc_h5.cell 1; have hlr13 : r13n ≤ 90 := len_le (l := la) hO5_5.len HBz13.out)))
      | (go_at_call 32; ((with_reducible refine (zmulG (show Rd _ b nb cb lb from Rb_36.below (by first | exact acc5 | exact (acc5).drew)) (show nb ≤ 4194304 by omega) (show Rd _ c nc cc lc from Rc_37.below (by first | exact acc5 | exact (acc5).drew)) (show nc ≤ 4194304 by omega) HXb.out HXc.out Hz14.out).mono ?_); (rintro e w18 ⟨r14, r14n, r14c, rfl, hO6_6, hB⟩; have hst6 : Below w17.heap.size w17 w18 := (by first | exact hB | exact below_drew hB); have acc6 := acc5.next hst6; have Xa_h6 := Xa_h5.next hst6; have Xb_h6 := Xb_h5.next hst6; have Xc_h6 := Xc_h5.next hst6; have KXa0_6 : _ = some (Value.bool sa) := Xa_h6.cell 0; have KXa1_6 : _ = some (Value.slice a na ca) := Xa_h6.cell 1; have KXb0_6 : _ = some (Value.bool sb) := Xb_h6.cell 0; have KXb1_6 : _ = some (Value.slice b nb cb) := Xb_h6.cell 1; have KXc0_6 : _ = some (Value.bool sc) := Xc_h6.cell 0; have KXc1_6 : _ = some (Value.slice c nc cc) := Xc_h6.cell 1; have hlr14 : r14n ≤ 60 := len_le (l := la) hO6_6.len HBz14.out; have hO5_6 := hO5_5.below hst6)))
      | (go_at_call 32; ((with_reducible refine (zmulG (show Rd _ a na ca la from Ra_35.below (by first | exact acc6 | exact (acc6).drew)) (show na ≤ 4194304 by omega) (show Rd _ r14 r14n r14c (lm z14.natAbs) from (hO6_6.below (by first | exact Below.refl _ _ | exact (Below.refl _ _).drew)).rd) (show r14n ≤ 4194304 by omega) HXa.out (zvlm z14) Hz15.out).mono ?_); (rintro e w19 ⟨r15, r15n, r15c, rfl, hO7_7, hB⟩; have hst7 : Below w18.heap.size w18 w19 := (by first | exact hB | exact below_drew hB); have acc7 := acc6.next hst7; have Xa_h7 := Xa_h6.next hst7; have Xb_h7 := Xb_h6.next hst7; have Xc_h7 := Xc_h6.next hst7; have KXa0_7 : _ = some (Value.bool sa) := Xa_h7.cell 0; have KXa1_7 : _ = some (Value.slice a na ca) := Xa_h7.cell 1; have KXb0_7 : _ = some (Value.bool sb) := Xb_h7.cell 0; have KXb1_7 : _ = some (Value.slice b nb cb) := Xb_h7.cell 1; have KXc0_7 : _ = some (Value.bool sc) := Xc_h7.cell 0; have KXc1_7 : _ = some (Value.slice c nc cc) := Xc_h7.cell 1; have hlr15 : r15n ≤ 90 := len_le (l := la) hO7_7.len HBz15.out; have hO5_7 := hO5_6.below hst7)))
      | (go_at_call 30; ((with_reducible refine (zequalG (show Rd _ r13 r13n r13c (lm z13.natAbs) from (hO5_7.below (by first | exact Below.refl _ _ | exact (Below.refl _ _).drew)).rd) (show r13n ≤ 4194304 by omega) (show Rd _ r15 r15n r15c (lm z15.natAbs) from (hO7_7.below (by first | exact Below.refl _ _ | exact (Below.refl _ _).drew)).rd) (show r15n ≤ 4194304 by omega) (zvlm z13) (zvlm z15) HE16.out).mono ?_); (rintro e w20 ⟨rfl, hB⟩; have hst8 : Below w19.heap.size w19 w20 := (by first | exact hB | exact below_drew hB); have acc8 := acc7.next hst8; have Xa_h8 := Xa_h7.next hst8; have Xb_h8 := Xb_h7.next hst8; have Xc_h8 := Xc_h7.next hst8; have KXa0_8 : _ = some (Value.bool sa) := Xa_h8.cell 0; have KXa1_8 : _ = some (Value.slice a na ca) := Xa_h8.cell 1; have KXb0_8 : _ = some (Value.bool sb) := Xb_h8.cell 0; have KXb1_8 : _ = some (Value.slice b nb cb) := Xb_h8.cell 1; have KXc0_8 : _ = some (Value.bool sc) := Xc_h8.cell 0; have KXc1_8 : _ = some (Value.slice c nc cc) := Xc_h8.cell 1))))
  clear cXa0_38 cXa1_38 cXb0_38 cXb1_38 cXc0_38 cXc1_38
  have hstep : Below w12.heap.size w12 w20 := (by first | exact acc8 | exact below_drew acc8)
  have Xa_39 := Xa_32.next hstep
  have Xb_40 := Xb_33.next hstep
  have Xc_41 := Xc_34.next hstep
  have Ra_42 := Ra_35.below hstep
  have Rb_43 := Rb_36.below hstep
  have Rc_44 := Rc_37.below hstep
  have hbel45 := hbel38.next hstep
  have hle45 := hbel45.size
  have hls45 := hstep.size
  clear Xa_32 Xb_33 Xc_34 Ra_35 Rb_36 Rc_37 hbel38 hstep
  have cXa0_45 : _ = some (Value.bool sa) := Xa_39.cell 0
  have cXa1_45 : _ = some (Value.slice a na ca) := Xa_39.cell 1
  have cXb0_45 : _ = some (Value.bool sb) := Xb_40.cell 0
  have cXb1_45 : _ = some (Value.slice b nb cb) := Xb_40.cell 1
  have cXc0_45 : _ = some (Value.bool sc) := Xc_41.cell 0
  have cXc1_45 : _ = some (Value.slice c nc cc) := Xc_41.cell 1
  clear acc0 acc1 acc2 acc3 acc4 acc5 acc6 acc7 acc8 hst1 hst2 hst3 hst4 hst5 hst6 hst7 hst8 KXa0_0 KXa1_0 KXb0_0 KXb1_0 KXc0_0 KXc1_0 KXa0_1 KXa1_1 KXb0_1 KXb1_1 KXc0_1 KXc1_1 KXa0_2 KXa1_2 KXb0_2 KXb1_2 KXc0_2 KXc1_2 KXa0_3 KXa1_3 KXb0_3 KXb1_3 KXc0_3 KXc1_3 KXa0_4 KXa1_4 KXb0_4 KXb1_4 KXc0_4 KXc1_4 KXa0_5 KXa1_5 KXb0_5 KXb1_5 KXc0_5 KXc1_5 KXa0_6 KXa1_6 KXb0_6 KXb1_6 KXc0_6 KXc1_6 KXa0_7 KXa1_7 KXb0_7 KXb1_7 KXc0_7 KXc1_7 KXa0_8 KXa1_8 KXb0_8 KXb1_8 KXc0_8 KXc1_8 Xa_h0 Xa_h1 Xa_h2 Xa_h3 Xa_h4 Xa_h5 Xa_h6 Xa_h7 Xa_h8 Xb_h0 Xb_h1 Xb_h2 Xb_h3 Xb_h4 Xb_h5 Xb_h6 Xb_h7 Xb_h8 Xc_h0 Xc_h1 Xc_h2 Xc_h3 Xc_h4 Xc_h5 Xc_h6 Xc_h7 Xc_h8
  clear hO1_1 hO1_2 hO2_2 hO4_4 hO5_5 hO5_6 hO5_7 hO6_6 hO7_7
  go_wp2_with fail
  obtain ⟨z17, hzz⟩ : ∃ z, zb + zc = z := ⟨_, rfl⟩
  have Hz17 := hid hzz
  have HBz17 : Hid (Sz z17.natAbs 31) := szI_add HBzb.out HBzc.out hzz
  clear hzz
  obtain ⟨z18, hzz⟩ : ∃ z, za * z17 = z := ⟨_, rfl⟩
  have Hz18 := hid hzz
  have HBz18 : Hid (Sz z18.natAbs 61) := szI_mul HBza.out HBz17.out hzz
  clear hzz
  obtain ⟨z19, hzz⟩ : ∃ z, za * zb = z := ⟨_, rfl⟩
  have Hz19 := hid hzz
  have HBz19 : Hid (Sz z19.natAbs 60) := szI_mul HBza.out HBzb.out hzz
  clear hzz
  obtain ⟨z20, hzz⟩ : ∃ z, za * zc = z := ⟨_, rfl⟩
  have Hz20 := hid hzz
  have HBz20 : Hid (Sz z20.natAbs 60) := szI_mul HBza.out HBzc.out hzz
  clear hzz
  obtain ⟨z21, hzz⟩ : ∃ z, z19 + z20 = z := ⟨_, rfl⟩
  have Hz21 := hid hzz
  have HBz21 : Hid (Sz z21.natAbs 61) := szI_add HBz19.out HBz20.out hzz
  clear hzz
  have HE22 := hid (show decide (z18 = z21) = true from decide_eq_true (by rw [← Hz18.out, ← Hz17.out, ← Hz21.out, ← Hz19.out, ← Hz20.out]; exact Int.mul_add _ _ _))
  go_wp2_with fail
  have KXa0_0 : _ = some (Value.bool sa) := Xa_39.cell 0
  have KXa1_0 : _ = some (Value.slice a na ca) := Xa_39.cell 1
  have KXb0_0 : _ = some (Value.bool sb) := Xb_40.cell 0
  have KXb1_0 : _ = some (Value.slice b nb cb) := Xb_40.cell 1
  have KXc0_0 : _ = some (Value.bool sc) := Xc_41.cell 0
  have KXc1_0 : _ = some (Value.slice c nc cc) := Xc_41.cell 1
  have Xa_h0 := Xa_39
  have Xb_h0 := Xb_40
  have Xc_h0 := Xc_41
  have acc0 : Below w20.heap.size w20 w20 := Below.refl _ _
  go_region_held3 (fun w' => w'.cell? ⟨w.heap.size, 0, none⟩ = some (Value.bool sa) ∧ w'.cell? ⟨w.heap.size, 1, none⟩ = some (Value.slice a na ca) ∧ w'.cell? ⟨w.heap.size + 1, 0, none⟩ = some (Value.bool sb) ∧ w'.cell? ⟨w.heap.size + 1, 1, none⟩ = some (Value.slice b nb cb) ∧ w'.cell? ⟨w.heap.size + 1 + 1, 0, none⟩ = some (Value.bool sc) ∧ w'.cell? ⟨w.heap.size + 1 + 1, 1, none⟩ = some (Value.slice c nc cc))
    (first | exact ⟨KXa0_0, KXa1_0, KXb0_0, KXb1_0, KXc0_0, KXc1_0⟩ | exact ⟨KXa0_1, KXa1_1, KXb0_1, KXb1_1, KXc0_1, KXc1_1⟩ | exact ⟨KXa0_2, KXa1_2, KXb0_2, KXb1_2, KXc0_2, KXc1_2⟩ | exact ⟨KXa0_3, KXa1_3, KXb0_3, KXb1_3, KXc0_3, KXc1_3⟩ | exact ⟨KXa0_4, KXa1_4, KXb0_4, KXb1_4, KXc0_4, KXc1_4⟩ | exact ⟨KXa0_5, KXa1_5, KXb0_5, KXb1_5, KXc0_5, KXc1_5⟩ | exact ⟨KXa0_6, KXa1_6, KXb0_6, KXb1_6, KXc0_6, KXc1_6⟩ | go_keep)
    (first
      | (go_at_call 31; ((with_reducible refine (zaddG (show Rd _ b nb cb lb from Rb_43.below (by first | exact acc0 | exact (acc0).drew)) (show nb ≤ 4194304 by omega) (show Rd _ c nc cc lc from Rc_44.below (by first | exact acc0 | exact (acc0).drew)) (show nc ≤ 4194304 by omega) HXb.out HXc.out Hz17.out).mono ?_); (rintro e w21 ⟨r17, r17n, r17c, rfl, hO1_1, hB⟩; have hst1 : Below w20.heap.size w20 w21 := (by first | exact hB | exact below_drew hB); have acc1 := acc0.next hst1; have Xa_h1 := Xa_h0.next hst1; have Xb_h1 := Xb_h0.next hst1; have Xc_h1 := Xc_h0.next hst1; have KXa0_1 : _ = some (Value.bool sa) := Xa_h1.cell 0; have KXa1_1 : _ = some (Value.slice a na ca) := Xa_h1.cell 1; have KXb0_1 : _ = some (Value.bool sb) := Xb_h1.cell 0; have KXb1_1 : _ = some (Value.slice b nb cb) := Xb_h1.cell 1; have KXc0_1 : _ = some (Value.bool sc) := Xc_h1.cell 0; have KXc1_1 : _ = some (Value.slice c nc cc) := Xc_h1.cell 1; have hlr17 : r17n ≤ 31 := len_le (l := la) hO1_1.len HBz17.out)))
      | (go_at_call 32; ((with_reducible refine (zmulG (show Rd _ a na ca la from Ra_42.below (by first | exact acc1 | exact (acc1).drew)) (show na ≤ 4194304 by omega) (show Rd _ r17 r17n r17c (lm z17.natAbs) from (hO1_1.below (by first | exact Below.refl _ _ | exact (Below.refl _ _).drew)).rd) (show r17n ≤ 4194304 by omega) HXa.out (zvlm z17) Hz18.out).mono ?_); (rintro e w22 ⟨r18, r18n, r18c, rfl, hO2_2, hB⟩; have hst2 : Below w21.heap.size w21 w22 := (by first | exact hB | exact below_drew hB); have acc2 := acc1.next hst2; have Xa_h2 := Xa_h1.next hst2; have Xb_h2 := Xb_h1.next hst2; have Xc_h2 := Xc_h1.next hst2; have KXa0_2 : _ = some (Value.bool sa) := Xa_h2.cell 0; have KXa1_2 : _ = some (Value.slice a na ca) := Xa_h2.cell 1; have KXb0_2 : _ = some (Value.bool sb) := Xb_h2.cell 0; have KXb1_2 : _ = some (Value.slice b nb cb) := Xb_h2.cell 1; have KXc0_2 : _ = some (Value.bool sc) := Xc_h2.cell 0; have KXc1_2 : _ = some (Value.slice c nc cc) := Xc_h2.cell 1; have hlr18 : r18n ≤ 61 := len_le (l := la) hO2_2.len HBz18.out)))
      | (go_at_call 32; ((with_reducible refine (zmulG (show Rd _ a na ca la from Ra_42.below (by first | exact acc2 | exact (acc2).drew)) (show na ≤ 4194304 by omega) (show Rd _ b nb cb lb from Rb_43.below (by first | exact acc2 | exact (acc2).drew)) (show nb ≤ 4194304 by omega) HXa.out HXb.out Hz19.out).mono ?_); (rintro e w23 ⟨r19, r19n, r19c, rfl, hO3_3, hB⟩; have hst3 : Below w22.heap.size w22 w23 := (by first | exact hB | exact below_drew hB); have acc3 := acc2.next hst3; have Xa_h3 := Xa_h2.next hst3; have Xb_h3 := Xb_h2.next hst3; have Xc_h3 := Xc_h2.next hst3; have KXa0_3 : _ = some (Value.bool sa) := Xa_h3.cell 0; have KXa1_3 : _ = some (Value.slice a na ca) := Xa_h3.cell 1; have KXb0_3 : _ = some (Value.bool sb) := Xb_h3.cell 0; have KXb1_3 : _ = some (Value.slice b nb cb) := Xb_h3.cell 1; have KXc0_3 : _ = some (Value.bool sc) := Xc_h3.cell 0; have KXc1_3 : _ = some (Value.slice c nc cc) := Xc_h3.cell 1; have hlr19 : r19n ≤ 60 := len_le (l := la) hO3_3.len HBz19.out; have hO2_3 := hO2_2.below hst3)))
      | (go_at_call 32; ((with_reducible refine (zmulG (show Rd _ a na ca la from Ra_42.below (by first | exact acc3 | exact (acc3).drew)) (show na ≤ 4194304 by omega) (show Rd _ c nc cc lc from Rc_44.below (by first | exact acc3 | exact (acc3).drew)) (show nc ≤ 4194304 by omega) HXa.out HXc.out Hz20.out).mono ?_); (rintro e w24 ⟨r20, r20n, r20c, rfl, hO4_4, hB⟩; have hst4 : Below w23.heap.size w23 w24 := (by first | exact hB | exact below_drew hB); have acc4 := acc3.next hst4; have Xa_h4 := Xa_h3.next hst4; have Xb_h4 := Xb_h3.next hst4; have Xc_h4 := Xc_h3.next hst4; have KXa0_4 : _ = some (Value.bool sa) := Xa_h4.cell 0; have KXa1_4 : _ = some (Value.slice a na ca) := Xa_h4.cell 1; have KXb0_4 : _ = some (Value.bool sb) := Xb_h4.cell 0; have KXb1_4 : _ = some (Value.slice b nb cb) := Xb_h4.cell 1; have KXc0_4 : _ = some (Value.bool sc) := Xc_h4.cell 0; have KXc1_4 : _ = some (Value.slice c nc cc) := Xc_h4.cell 1; have hlr20 : r20n ≤ 60 := len_le (l := la) hO4_4.len HBz20.out; have hO2_4 := hO2_3.below hst4; have hO3_4 := hO3_3.below hst4)))
      | (go_at_call 31; ((with_reducible refine (zaddG (show Rd _ r19 r19n r19c (lm z19.natAbs) from (hO3_4.below (by first | exact Below.refl _ _ | exact (Below.refl _ _).drew)).rd) (show r19n ≤ 4194304 by omega) (show Rd _ r20 r20n r20c (lm z20.natAbs) from (hO4_4.below (by first | exact Below.refl _ _ | exact (Below.refl _ _).drew)).rd) (show r20n ≤ 4194304 by omega) (zvlm z19) (zvlm z20) Hz21.out).mono ?_); (rintro e w25 ⟨r21, r21n, r21c, rfl, hO5_5, hB⟩; have hst5 : Below w24.heap.size w24 w25 := (by first | exact hB | exact below_drew hB); have acc5 := acc4.next hst5; have Xa_h5 := Xa_h4.next hst5; have Xb_h5 := Xb_h4.next hst5; have Xc_h5 := Xc_h4.next hst5; have KXa0_5 : _ = some (Value.bool sa) := Xa_h5.cell 0; have KXa1_5 : _ = some (Value.slice a na ca) := Xa_h5.cell 1; have KXb0_5 : _ = some (Value.bool sb) := Xb_h5.cell 0; have KXb1_5 : _ = some (Value.slice b nb cb) := Xb_h5.cell 1; have KXc0_5 : _ = some (Value.bool sc) := Xc_h5.cell 0; have KXc1_5 : _ = some (Value.slice c nc cc) := Xc_h5.cell 1; have hlr21 : r21n ≤ 61 := len_le (l := la) hO5_5.len HBz21.out; have hO2_5 := hO2_4.below hst5)))
      | (go_at_call 30; ((with_reducible refine (zequalG (show Rd _ r18 r18n r18c (lm z18.natAbs) from (hO2_5.below (by first | exact Below.refl _ _ | exact (Below.refl _ _).drew)).rd) (show r18n ≤ 4194304 by omega) (show Rd _ r21 r21n r21c (lm z21.natAbs) from (hO5_5.below (by first | exact Below.refl _ _ | exact (Below.refl _ _).drew)).rd) (show r21n ≤ 4194304 by omega) (zvlm z18) (zvlm z21) HE22.out).mono ?_); (rintro e w26 ⟨rfl, hB⟩; have hst6 : Below w25.heap.size w25 w26 := (by first | exact hB | exact below_drew hB); have acc6 := acc5.next hst6; have Xa_h6 := Xa_h5.next hst6; have Xb_h6 := Xb_h5.next hst6; have Xc_h6 := Xc_h5.next hst6; have KXa0_6 : _ = some (Value.bool sa) := Xa_h6.cell 0; have KXa1_6 : _ = some (Value.slice a na ca) := Xa_h6.cell 1; have KXb0_6 : _ = some (Value.bool sb) := Xb_h6.cell 0; have KXb1_6 : _ = some (Value.slice b nb cb) := Xb_h6.cell 1; have KXc0_6 : _ = some (Value.bool sc) := Xc_h6.cell 0; have KXc1_6 : _ = some (Value.slice c nc cc) := Xc_h6.cell 1))))
  clear cXa0_45 cXa1_45 cXb0_45 cXb1_45 cXc0_45 cXc1_45
  have hstep : Below w20.heap.size w20 w26 := (by first | exact acc6 | exact below_drew acc6)
  have Xa_46 := Xa_39.next hstep
  have Xb_47 := Xb_40.next hstep
  have Xc_48 := Xc_41.next hstep
  have Ra_49 := Ra_42.below hstep
  have Rb_50 := Rb_43.below hstep
  have Rc_51 := Rc_44.below hstep
  have hbel52 := hbel45.next hstep
  have hle52 := hbel52.size
  have hls52 := hstep.size
  clear Xa_39 Xb_40 Xc_41 Ra_42 Rb_43 Rc_44 hbel45 hstep
  have cXa0_52 : _ = some (Value.bool sa) := Xa_46.cell 0
  have cXa1_52 : _ = some (Value.slice a na ca) := Xa_46.cell 1
  have cXb0_52 : _ = some (Value.bool sb) := Xb_47.cell 0
  have cXb1_52 : _ = some (Value.slice b nb cb) := Xb_47.cell 1
  have cXc0_52 : _ = some (Value.bool sc) := Xc_48.cell 0
  have cXc1_52 : _ = some (Value.slice c nc cc) := Xc_48.cell 1
  clear acc0 acc1 acc2 acc3 acc4 acc5 acc6 hst1 hst2 hst3 hst4 hst5 hst6 KXa0_0 KXa1_0 KXb0_0 KXb1_0 KXc0_0 KXc1_0 KXa0_1 KXa1_1 KXb0_1 KXb1_1 KXc0_1 KXc1_1 KXa0_2 KXa1_2 KXb0_2 KXb1_2 KXc0_2 KXc1_2 KXa0_3 KXa1_3 KXb0_3 KXb1_3 KXc0_3 KXc1_3 KXa0_4 KXa1_4 KXb0_4 KXb1_4 KXc0_4 KXc1_4 KXa0_5 KXa1_5 KXb0_5 KXb1_5 KXc0_5 KXc1_5 KXa0_6 KXa1_6 KXb0_6 KXb1_6 KXc0_6 KXc1_6 Xa_h0 Xa_h1 Xa_h2 Xa_h3 Xa_h4 Xa_h5 Xa_h6 Xb_h0 Xb_h1 Xb_h2 Xb_h3 Xb_h4 Xb_h5 Xb_h6 Xc_h0 Xc_h1 Xc_h2 Xc_h3 Xc_h4 Xc_h5 Xc_h6
  clear hO1_1 hO2_2 hO2_3 hO2_4 hO2_5 hO3_3 hO3_4 hO4_4 hO5_5
  go_wp2_with fail
  obtain ⟨z23, hzz⟩ : ∃ z, za - za = z := ⟨_, rfl⟩
  have Hz23 := hid hzz
  have HBz23 : Hid (Sz z23.natAbs 31) := szI_sub HBza.out HBza.out hzz
  clear hzz
  have HE24 := hid (show sgn z23 = 0 from (by rw [← Hz23.out, Int.sub_self]; rfl))
  obtain ⟨z25, hzz⟩ : ∃ z, (0 : Int) = z := ⟨_, rfl⟩
  have Hz25 := hid hzz
  have HBz25 : Hid (Sz z25.natAbs 1) := (by rw [← hzz]; show _ < _; decide)
  clear hzz
  obtain ⟨z26, hzz⟩ : ∃ z, za + z25 = z := ⟨_, rfl⟩
  have Hz26 := hid hzz
  have HBz26 : Hid (Sz z26.natAbs 31) := szI_add HBza.out (HBz25.out.mono (Nat.le_refl _) (by omega)) hzz
  clear hzz
  have HE27 := hid (show decide (z26 = za) = true from decide_eq_true (by rw [← Hz26.out, ← Hz25.out]; exact Int.add_zero _))
  obtain ⟨z28, hzz⟩ : ∃ z, (1 : Int) = z := ⟨_, rfl⟩
  have Hz28 := hid hzz
  have HBz28 : Hid (Sz z28.natAbs 1) := (by rw [← hzz]; show _ < _; decide)
  clear hzz
  obtain ⟨z29, hzz⟩ : ∃ z, za * z28 = z := ⟨_, rfl⟩
  have Hz29 := hid hzz
  have HBz29 : Hid (Sz z29.natAbs 31) := szI_mul HBza.out HBz28.out hzz
  clear hzz
  have HE30 := hid (show decide (z29 = za) = true from decide_eq_true (by rw [← Hz29.out, ← Hz28.out]; exact Int.mul_one _))
  obtain ⟨z31, hzz⟩ : ∃ z, -za = z := ⟨_, rfl⟩
  have Hz31 := hid hzz
  have HBz31 : Hid (Sz z31.natAbs 30) := szI_neg HBza.out hzz
  clear hzz
  obtain ⟨z32, hzz⟩ : ∃ z, (0 : Int) = z := ⟨_, rfl⟩
  have Hz32 := hid hzz
  have HBz32 : Hid (Sz z32.natAbs 1) := (by rw [← hzz]; show _ < _; decide)
  clear hzz
  obtain ⟨z33, hzz⟩ : ∃ z, z32 - za = z := ⟨_, rfl⟩
  have Hz33 := hid hzz
  have HBz33 : Hid (Sz z33.natAbs 31) := szI_sub (HBz32.out.mono (Nat.le_refl _) (by omega)) HBza.out hzz
  clear hzz
  have HE34 := hid (show decide (z31 = z33) = true from decide_eq_true (by rw [← Hz31.out, ← Hz33.out, ← Hz32.out]; exact (Int.zero_sub _).symm))
  go_wp2_with fail
  have KXa0_0 : _ = some (Value.bool sa) := Xa_46.cell 0
  have KXa1_0 : _ = some (Value.slice a na ca) := Xa_46.cell 1
  have KXb0_0 : _ = some (Value.bool sb) := Xb_47.cell 0
  have KXb1_0 : _ = some (Value.slice b nb cb) := Xb_47.cell 1
  have KXc0_0 : _ = some (Value.bool sc) := Xc_48.cell 0
  have KXc1_0 : _ = some (Value.slice c nc cc) := Xc_48.cell 1
  have Xa_h0 := Xa_46
  have Xb_h0 := Xb_47
  have Xc_h0 := Xc_48
  have acc0 : Below w26.heap.size w26 w26 := Below.refl _ _
  go_region_held3 (fun w' => w'.cell? ⟨w.heap.size, 0, none⟩ = some (Value.bool sa) ∧ w'.cell? ⟨w.heap.size, 1, none⟩ = some (Value.slice a na ca) ∧ w'.cell? ⟨w.heap.size + 1, 0, none⟩ = some (Value.bool sb) ∧ w'.cell? ⟨w.heap.size + 1, 1, none⟩ = some (Value.slice b nb cb) ∧ w'.cell? ⟨w.heap.size + 1 + 1, 0, none⟩ = some (Value.bool sc) ∧ w'.cell? ⟨w.heap.size + 1 + 1, 1, none⟩ = some (Value.slice c nc cc))
    (first | exact ⟨KXa0_0, KXa1_0, KXb0_0, KXb1_0, KXc0_0, KXc1_0⟩ | exact ⟨KXa0_1, KXa1_1, KXb0_1, KXb1_1, KXc0_1, KXc1_1⟩ | exact ⟨KXa0_2, KXa1_2, KXb0_2, KXb1_2, KXc0_2, KXc1_2⟩ | exact ⟨KXa0_3, KXa1_3, KXb0_3, KXb1_3, KXc0_3, KXc1_3⟩ | exact ⟨KXa0_4, KXa1_4, KXb0_4, KXb1_4, KXc0_4, KXc1_4⟩ | exact ⟨KXa0_5, KXa1_5, KXb0_5, KXb1_5, KXc0_5, KXc1_5⟩ | exact ⟨KXa0_6, KXa1_6, KXb0_6, KXb1_6, KXc0_6, KXc1_6⟩ | exact ⟨KXa0_7, KXa1_7, KXb0_7, KXb1_7, KXc0_7, KXc1_7⟩ | exact ⟨KXa0_8, KXa1_8, KXb0_8, KXb1_8, KXc0_8, KXc1_8⟩ | exact ⟨KXa0_9, KXa1_9, KXb0_9, KXb1_9, KXc0_9, KXc1_9⟩ | exact ⟨KXa0_10, KXa1_10, KXb0_10, KXb1_10, KXc0_10, KXc1_10⟩ | exact ⟨KXa0_11, KXa1_11, KXb0_11, KXb1_11, KXc0_11, KXc1_11⟩ | exact ⟨KXa0_12, KXa1_12, KXb0_12, KXb1_12, KXc0_12, KXc1_12⟩ | go_keep)
    (first
      | (go_at_call 27; ((with_reducible refine (zsubG (show Rd _ a na ca la from Ra_49.below (by first | exact acc0 | exact (acc0).drew)) (show na ≤ 4194304 by omega) (show Rd _ a na ca la from Ra_49.below (by first | exact acc0 | exact (acc0).drew)) (show na ≤ 4194304 by omega) HXa.out HXa.out Hz23.out).mono ?_); (rintro e w27 ⟨r23, r23n, r23c, rfl, hO1_1, hB⟩; have hst1 : Below w26.heap.size w26 w27 := (by first | exact hB | exact below_drew hB); have acc1 := acc0.next hst1; have Xa_h1 := Xa_h0.next hst1; have Xb_h1 := Xb_h0.next hst1; have Xc_h1 := Xc_h0.next hst1; have KXa0_1 : _ = some (Value.bool sa) := Xa_h1.cell 0; have KXa1_1 : _ = some (Value.slice a na ca) := Xa_h1.cell 1; have KXb0_1 : _ = some (Value.bool sb) := Xb_h1.cell 0; have KXb1_1 : _ = some (Value.slice b nb cb) := Xb_h1.cell 1; have KXc0_1 : _ = some (Value.bool sc) := Xc_h1.cell 0; have KXc1_1 : _ = some (Value.slice c nc cc) := Xc_h1.cell 1; have hlr23 : r23n ≤ 31 := len_le (l := la) hO1_1.len HBz23.out)))
      | (go_at_call 22; ((with_reducible refine (zsignG (show Rd _ r23 r23n r23c (lm z23.natAbs) from (hO1_1.below (by first | exact Below.refl _ _ | exact (Below.refl _ _).drew)).rd) (show r23n ≤ 4194304 by omega) (zvlm z23) HE24.out).mono ?_); (rintro e w28 ⟨rfl, hB⟩; have hst2 : Below w27.heap.size w27 w28 := (by first | exact hB | exact below_drew hB); have acc2 := acc1.next hst2; have Xa_h2 := Xa_h1.next hst2; have Xb_h2 := Xb_h1.next hst2; have Xc_h2 := Xc_h1.next hst2; have KXa0_2 : _ = some (Value.bool sa) := Xa_h2.cell 0; have KXa1_2 : _ = some (Value.slice a na ca) := Xa_h2.cell 1; have KXb0_2 : _ = some (Value.bool sb) := Xb_h2.cell 0; have KXb1_2 : _ = some (Value.slice b nb cb) := Xb_h2.cell 1; have KXc0_2 : _ = some (Value.bool sc) := Xc_h2.cell 0; have KXc1_2 : _ = some (Value.slice c nc cc) := Xc_h2.cell 1)))
      | (go_at_call 19; ((with_reducible refine (zofG (q := 0) (by omega) (by omega) Hz25.out).mono ?_); (rintro e w29 ⟨r25, r25n, r25c, rfl, hO3_3, hB⟩; have hst3 : Below w28.heap.size w28 w29 := (by first | exact hB | exact below_drew hB); have acc3 := acc2.next hst3; have Xa_h3 := Xa_h2.next hst3; have Xb_h3 := Xb_h2.next hst3; have Xc_h3 := Xc_h2.next hst3; have KXa0_3 : _ = some (Value.bool sa) := Xa_h3.cell 0; have KXa1_3 : _ = some (Value.slice a na ca) := Xa_h3.cell 1; have KXb0_3 : _ = some (Value.bool sb) := Xb_h3.cell 0; have KXb1_3 : _ = some (Value.slice b nb cb) := Xb_h3.cell 1; have KXc0_3 : _ = some (Value.bool sc) := Xc_h3.cell 0; have KXc1_3 : _ = some (Value.slice c nc cc) := Xc_h3.cell 1; have hlr25 : r25n ≤ 1 := len_le (l := la) hO3_3.len HBz25.out)))
      | (go_at_call 31; ((with_reducible refine (zaddG (show Rd _ a na ca la from Ra_49.below (by first | exact acc3 | exact (acc3).drew)) (show na ≤ 4194304 by omega) (show Rd _ r25 r25n r25c (lm z25.natAbs) from (hO3_3.below (by first | exact Below.refl _ _ | exact (Below.refl _ _).drew)).rd) (show r25n ≤ 4194304 by omega) HXa.out (zvlm z25) Hz26.out).mono ?_); (rintro e w30 ⟨r26, r26n, r26c, rfl, hO4_4, hB⟩; have hst4 : Below w29.heap.size w29 w30 := (by first | exact hB | exact below_drew hB); have acc4 := acc3.next hst4; have Xa_h4 := Xa_h3.next hst4; have Xb_h4 := Xb_h3.next hst4; have Xc_h4 := Xc_h3.next hst4; have KXa0_4 : _ = some (Value.bool sa) := Xa_h4.cell 0; have KXa1_4 : _ = some (Value.slice a na ca) := Xa_h4.cell 1; have KXb0_4 : _ = some (Value.bool sb) := Xb_h4.cell 0; have KXb1_4 : _ = some (Value.slice b nb cb) := Xb_h4.cell 1; have KXc0_4 : _ = some (Value.bool sc) := Xc_h4.cell 0; have KXc1_4 : _ = some (Value.slice c nc cc) := Xc_h4.cell 1; have hlr26 : r26n ≤ 31 := len_le (l := la) hO4_4.len HBz26.out)))
      | (go_at_call 30; ((with_reducible refine (zequalG (show Rd _ r26 r26n r26c (lm z26.natAbs) from (hO4_4.below (by first | exact Below.refl _ _ | exact (Below.refl _ _).drew)).rd) (show r26n ≤ 4194304 by omega) (show Rd _ a na ca la from Ra_49.below (by first | exact acc4 | exact (acc4).drew)) (show na ≤ 4194304 by omega) (zvlm z26) HXa.out HE27.out).mono ?_); (rintro e w31 ⟨rfl, hB⟩; have hst5 : Below w30.heap.size w30 w31 := (by first | exact hB | exact below_drew hB); have acc5 := acc4.next hst5; have Xa_h5 := Xa_h4.next hst5; have Xb_h5 := Xb_h4.next hst5; have Xc_h5 := Xc_h4.next hst5; have KXa0_5 : _ = some (Value.bool sa) := Xa_h5.cell 0; have KXa1_5 : _ = some (Value.slice a na ca) := Xa_h5.cell 1; have KXb0_5 : _ = some (Value.bool sb) := Xb_h5.cell 0; have KXb1_5 : _ = some (Value.slice b nb cb) := Xb_h5.cell 1; have KXc0_5 : _ = some (Value.bool sc) := Xc_h5.cell 0; have KXc1_5 : _ = some (Value.slice c nc cc) := Xc_h5.cell 1)))
      | (go_at_call 19; ((with_reducible refine (zofG (q := 1) (by omega) (by omega) Hz28.out).mono ?_); (rintro e w32 ⟨r28, r28n, r28c, rfl, hO6_6, hB⟩; have hst6 : Below w31.heap.size w31 w32 := (by first | exact hB | exact below_drew hB); have acc6 := acc5.next hst6; have Xa_h6 := Xa_h5.next hst6; have Xb_h6 := Xb_h5.next hst6; have Xc_h6 := Xc_h5.next hst6; have KXa0_6 : _ = some (Value.bool sa) := Xa_h6.cell 0; have KXa1_6 : _ = some (Value.slice a na ca) := Xa_h6.cell 1; have KXb0_6 : _ = some (Value.bool sb) := Xb_h6.cell 0; have KXb1_6 : _ = some (Value.slice b nb cb) := Xb_h6.cell 1; have KXc0_6 : _ = some (Value.bool sc) := Xc_h6.cell 0; have KXc1_6 : _ = some (Value.slice c nc cc) := Xc_h6.cell 1; have hlr28 : r28n ≤ 1 := len_le (l := la) hO6_6.len HBz28.out)))
      | (go_at_call 32; ((with_reducible refine (zmulG (show Rd _ a na ca la from Ra_49.below (by first | exact acc6 | exact (acc6).drew)) (show na ≤ 4194304 by omega) (show Rd _ r28 r28n r28c (lm z28.natAbs) from (hO6_6.below (by first | exact Below.refl _ _ | exact (Below.refl _ _).drew)).rd) (show r28n ≤ 4194304 by omega) HXa.out (zvlm z28) Hz29.out).mono ?_); (rintro e w33 ⟨r29, r29n, r29c, rfl, hO7_7, hB⟩; have hst7 : Below w32.heap.size w32 w33 := (by first | exact hB | exact below_drew hB); have acc7 := acc6.next hst7; have Xa_h7 := Xa_h6.next hst7; have Xb_h7 := Xb_h6.next hst7; have Xc_h7 := Xc_h6.next hst7; have KXa0_7 : _ = some (Value.bool sa) := Xa_h7.cell 0; have KXa1_7 : _ = some (Value.slice a na ca) := Xa_h7.cell 1; have KXb0_7 : _ = some (Value.bool sb) := Xb_h7.cell 0; have KXb1_7 : _ = some (Value.slice b nb cb) := Xb_h7.cell 1; have KXc0_7 : _ = some (Value.bool sc) := Xc_h7.cell 0; have KXc1_7 : _ = some (Value.slice c nc cc) := Xc_h7.cell 1; have hlr29 : r29n ≤ 31 := len_le (l := la) hO7_7.len HBz29.out)))
      | (go_at_call 30; ((with_reducible refine (zequalG (show Rd _ r29 r29n r29c (lm z29.natAbs) from (hO7_7.below (by first | exact Below.refl _ _ | exact (Below.refl _ _).drew)).rd) (show r29n ≤ 4194304 by omega) (show Rd _ a na ca la from Ra_49.below (by first | exact acc7 | exact (acc7).drew)) (show na ≤ 4194304 by omega) (zvlm z29) HXa.out HE30.out).mono ?_); (rintro e w34 ⟨rfl, hB⟩; have hst8 : Below w33.heap.size w33 w34 := (by first | exact hB | exact below_drew hB); have acc8 := acc7.next hst8; have Xa_h8 := Xa_h7.next hst8; have Xb_h8 := Xb_h7.next hst8; have Xc_h8 := Xc_h7.next hst8; have KXa0_8 : _ = some (Value.bool sa) := Xa_h8.cell 0; have KXa1_8 : _ = some (Value.slice a na ca) := Xa_h8.cell 1; have KXb0_8 : _ = some (Value.bool sb) := Xb_h8.cell 0; have KXb1_8 : _ = some (Value.slice b nb cb) := Xb_h8.cell 1; have KXc0_8 : _ = some (Value.bool sc) := Xc_h8.cell 0; have KXc1_8 : _ = some (Value.slice c nc cc) := Xc_h8.cell 1)))
      | (go_at_call 33; ((with_reducible refine (znegG (show Rd _ a na ca la from Ra_49.below (by first | exact acc8 | exact (acc8).drew)) (show na ≤ 4194304 by omega) HXa.out Hz31.out).mono ?_); (rintro e w35 ⟨r31, r31n, r31c, rfl, hO9_9, hB⟩; have hst9 : Below w34.heap.size w34 w35 := (by first | exact hB | exact below_drew hB); have acc9 := acc8.next hst9; have Xa_h9 := Xa_h8.next hst9; have Xb_h9 := Xb_h8.next hst9; have Xc_h9 := Xc_h8.next hst9; have KXa0_9 : _ = some (Value.bool sa) := Xa_h9.cell 0; have KXa1_9 : _ = some (Value.slice a na ca) := Xa_h9.cell 1; have KXb0_9 : _ = some (Value.bool sb) := Xb_h9.cell 0; have KXb1_9 : _ = some (Value.slice b nb cb) := Xb_h9.cell 1; have KXc0_9 : _ = some (Value.bool sc) := Xc_h9.cell 0; have KXc1_9 : _ = some (Value.slice c nc cc) := Xc_h9.cell 1; have hlr31 : r31n ≤ 30 := len_le (l := la) hO9_9.len HBz31.out)))
      | (go_at_call 19; ((with_reducible refine (zofG (q := 0) (by omega) (by omega) Hz32.out).mono ?_); (rintro e w36 ⟨r32, r32n, r32c, rfl, hO10_10, hB⟩; have hst10 : Below w35.heap.size w35 w36 := (by first | exact hB | exact below_drew hB); have acc10 := acc9.next hst10; have Xa_h10 := Xa_h9.next hst10; have Xb_h10 := Xb_h9.next hst10; have Xc_h10 := Xc_h9.next hst10; have KXa0_10 : _ = some (Value.bool sa) := Xa_h10.cell 0; have KXa1_10 : _ = some (Value.slice a na ca) := Xa_h10.cell 1; have KXb0_10 : _ = some (Value.bool sb) := Xb_h10.cell 0; have KXb1_10 : _ = some (Value.slice b nb cb) := Xb_h10.cell 1; have KXc0_10 : _ = some (Value.bool sc) := Xc_h10.cell 0; have KXc1_10 : _ = some (Value.slice c nc cc) := Xc_h10.cell 1; have hlr32 : r32n ≤ 1 := len_le (l := la) hO10_10.len HBz32.out; have hO9_10 := hO9_9.below hst10)))
      | (go_at_call 27; ((with_reducible refine (zsubG (show Rd _ r32 r32n r32c (lm z32.natAbs) from (hO10_10.below (by first | exact Below.refl _ _ | exact (Below.refl _ _).drew)).rd) (show r32n ≤ 4194304 by omega) (show Rd _ a na ca la from Ra_49.below (by first | exact acc10 | exact (acc10).drew)) (show na ≤ 4194304 by omega) (zvlm z32) HXa.out Hz33.out).mono ?_); (rintro e w37 ⟨r33, r33n, r33c, rfl, hO11_11, hB⟩; have hst11 : Below w36.heap.size w36 w37 := (by first | exact hB | exact below_drew hB); have acc11 := acc10.next hst11; have Xa_h11 := Xa_h10.next hst11; have Xb_h11 := Xb_h10.next hst11; have Xc_h11 := Xc_h10.next hst11; have KXa0_11 : _ = some (Value.bool sa) := Xa_h11.cell 0; have KXa1_11 : _ = some (Value.slice a na ca) := Xa_h11.cell 1; have KXb0_11 : _ = some (Value.bool sb) := Xb_h11.cell 0; have KXb1_11 : _ = some (Value.slice b nb cb) := Xb_h11.cell 1; have KXc0_11 : _ = some (Value.bool sc) := Xc_h11.cell 0; have KXc1_11 : _ = some (Value.slice c nc cc) := Xc_h11.cell 1; have hlr33 : r33n ≤ 31 := len_le (l := la) hO11_11.len HBz33.out; have hO9_11 := hO9_10.below hst11)))
      | (go_at_call 30; ((with_reducible refine (zequalG (show Rd _ r31 r31n r31c (lm z31.natAbs) from (hO9_11.below (by first | exact Below.refl _ _ | exact (Below.refl _ _).drew)).rd) (show r31n ≤ 4194304 by omega) (show Rd _ r33 r33n r33c (lm z33.natAbs) from (hO11_11.below (by first | exact Below.refl _ _ | exact (Below.refl _ _).drew)).rd) (show r33n ≤ 4194304 by omega) (zvlm z31) (zvlm z33) HE34.out).mono ?_); (rintro e w38 ⟨rfl, hB⟩; have hst12 : Below w37.heap.size w37 w38 := (by first | exact hB | exact below_drew hB); have acc12 := acc11.next hst12; have Xa_h12 := Xa_h11.next hst12; have Xb_h12 := Xb_h11.next hst12; have Xc_h12 := Xc_h11.next hst12; have KXa0_12 : _ = some (Value.bool sa) := Xa_h12.cell 0; have KXa1_12 : _ = some (Value.slice a na ca) := Xa_h12.cell 1; have KXb0_12 : _ = some (Value.bool sb) := Xb_h12.cell 0; have KXb1_12 : _ = some (Value.slice b nb cb) := Xb_h12.cell 1; have KXc0_12 : _ = some (Value.bool sc) := Xc_h12.cell 0; have KXc1_12 : _ = some (Value.slice c nc cc) := Xc_h12.cell 1))))
  clear cXa0_52 cXa1_52 cXb0_52 cXb1_52 cXc0_52 cXc1_52
  have hstep : Below w26.heap.size w26 w38 := (by first | exact acc12 | exact below_drew acc12)
  have Xa_53 := Xa_46.next hstep
  have Xb_54 := Xb_47.next hstep
  have Xc_55 := Xc_48.next hstep
  have Ra_56 := Ra_49.below hstep
  have Rb_57 := Rb_50.below hstep
  have Rc_58 := Rc_51.below hstep
  have hbel59 := hbel52.next hstep
  have hle59 := hbel59.size
  have hls59 := hstep.size
  clear Xa_46 Xb_47 Xc_48 Ra_49 Rb_50 Rc_51 hbel52 hstep
  have cXa0_59 : _ = some (Value.bool sa) := Xa_53.cell 0
  have cXa1_59 : _ = some (Value.slice a na ca) := Xa_53.cell 1
  have cXb0_59 : _ = some (Value.bool sb) := Xb_54.cell 0
  have cXb1_59 : _ = some (Value.slice b nb cb) := Xb_54.cell 1
  have cXc0_59 : _ = some (Value.bool sc) := Xc_55.cell 0
  have cXc1_59 : _ = some (Value.slice c nc cc) := Xc_55.cell 1
  clear acc0 acc1 acc2 acc3 acc4 acc5 acc6 acc7 acc8 acc9 acc10 acc11 acc12 hst1 hst2 hst3 hst4 hst5 hst6 hst7 hst8 hst9 hst10 hst11 hst12 KXa0_0 KXa1_0 KXb0_0 KXb1_0 KXc0_0 KXc1_0 KXa0_1 KXa1_1 KXb0_1 KXb1_1 KXc0_1 KXc1_1 KXa0_2 KXa1_2 KXb0_2 KXb1_2 KXc0_2 KXc1_2 KXa0_3 KXa1_3 KXb0_3 KXb1_3 KXc0_3 KXc1_3 KXa0_4 KXa1_4 KXb0_4 KXb1_4 KXc0_4 KXc1_4 KXa0_5 KXa1_5 KXb0_5 KXb1_5 KXc0_5 KXc1_5 KXa0_6 KXa1_6 KXb0_6 KXb1_6 KXc0_6 KXc1_6 KXa0_7 KXa1_7 KXb0_7 KXb1_7 KXc0_7 KXc1_7 KXa0_8 KXa1_8 KXb0_8 KXb1_8 KXc0_8 KXc1_8 KXa0_9 KXa1_9 KXb0_9 KXb1_9 KXc0_9 KXc1_9 KXa0_10 KXa1_10 KXb0_10 KXb1_10 KXc0_10 KXc1_10 KXa0_11 KXa1_11 KXb0_11 KXb1_11 KXc0_11 KXc1_11 KXa0_12 KXa1_12 KXb0_12 KXb1_12 KXc0_12 KXc1_12 Xa_h0 Xa_h1 Xa_h2 Xa_h3 Xa_h4 Xa_h5 Xa_h6 Xa_h7 Xa_h8 Xa_h9 Xa_h10 Xa_h11 Xa_h12 Xb_h0 Xb_h1 Xb_h2 Xb_h3 Xb_h4 Xb_h5 Xb_h6 Xb_h7 Xb_h8 Xb_h9 Xb_h10 Xb_h11 Xb_h12 Xc_h0 Xc_h1 Xc_h2 Xc_h3 Xc_h4 Xc_h5 Xc_h6 Xc_h7 Xc_h8 Xc_h9 Xc_h10 Xc_h11 Xc_h12
  clear hO1_1 hO3_3 hO4_4 hO6_6 hO7_7 hO9_9 hO9_10 hO9_11 hO10_10 hO11_11
  go_wp2_with fail
  obtain ⟨z35, hzz⟩ : ∃ z, za - zb = z := ⟨_, rfl⟩
  have Hz35 := hid hzz
  have HBz35 : Hid (Sz z35.natAbs 31) := szI_sub HBza.out HBzb.out hzz
  clear hzz
  obtain ⟨z36, hzz⟩ : ∃ z, z35 + zb = z := ⟨_, rfl⟩
  have Hz36 := hid hzz
  have HBz36 : Hid (Sz z36.natAbs 32) := szI_add HBz35.out (HBzb.out.mono (Nat.le_refl _) (by omega)) hzz
  clear hzz
  have HE37 := hid (show decide (z36 = za) = true from decide_eq_true (by rw [← Hz36.out, ← Hz35.out]; exact Int.sub_add_cancel _ _))
  go_wp2_with fail
  have KXa0_0 : _ = some (Value.bool sa) := Xa_53.cell 0
  have KXa1_0 : _ = some (Value.slice a na ca) := Xa_53.cell 1
  have KXb0_0 : _ = some (Value.bool sb) := Xb_54.cell 0
  have KXb1_0 : _ = some (Value.slice b nb cb) := Xb_54.cell 1
  have KXc0_0 : _ = some (Value.bool sc) := Xc_55.cell 0
  have KXc1_0 : _ = some (Value.slice c nc cc) := Xc_55.cell 1
  have Xa_h0 := Xa_53
  have Xb_h0 := Xb_54
  have Xc_h0 := Xc_55
  have acc0 : Below w38.heap.size w38 w38 := Below.refl _ _
  go_region_held3 (fun w' => w'.cell? ⟨w.heap.size, 0, none⟩ = some (Value.bool sa) ∧ w'.cell? ⟨w.heap.size, 1, none⟩ = some (Value.slice a na ca) ∧ w'.cell? ⟨w.heap.size + 1, 0, none⟩ = some (Value.bool sb) ∧ w'.cell? ⟨w.heap.size + 1, 1, none⟩ = some (Value.slice b nb cb) ∧ w'.cell? ⟨w.heap.size + 1 + 1, 0, none⟩ = some (Value.bool sc) ∧ w'.cell? ⟨w.heap.size + 1 + 1, 1, none⟩ = some (Value.slice c nc cc))
    (first | exact ⟨KXa0_0, KXa1_0, KXb0_0, KXb1_0, KXc0_0, KXc1_0⟩ | exact ⟨KXa0_1, KXa1_1, KXb0_1, KXb1_1, KXc0_1, KXc1_1⟩ | exact ⟨KXa0_2, KXa1_2, KXb0_2, KXb1_2, KXc0_2, KXc1_2⟩ | exact ⟨KXa0_3, KXa1_3, KXb0_3, KXb1_3, KXc0_3, KXc1_3⟩ | go_keep)
    (first
      | (go_at_call 27; ((with_reducible refine (zsubG (show Rd _ a na ca la from Ra_56.below (by first | exact acc0 | exact (acc0).drew)) (show na ≤ 4194304 by omega) (show Rd _ b nb cb lb from Rb_57.below (by first | exact acc0 | exact (acc0).drew)) (show nb ≤ 4194304 by omega) HXa.out HXb.out Hz35.out).mono ?_); (rintro e w39 ⟨r35, r35n, r35c, rfl, hO1_1, hB⟩; have hst1 : Below w38.heap.size w38 w39 := (by first | exact hB | exact below_drew hB); have acc1 := acc0.next hst1; have Xa_h1 := Xa_h0.next hst1; have Xb_h1 := Xb_h0.next hst1; have Xc_h1 := Xc_h0.next hst1; have KXa0_1 : _ = some (Value.bool sa) := Xa_h1.cell 0; have KXa1_1 : _ = some (Value.slice a na ca) := Xa_h1.cell 1; have KXb0_1 : _ = some (Value.bool sb) := Xb_h1.cell 0; have KXb1_1 : _ = some (Value.slice b nb cb) := Xb_h1.cell 1; have KXc0_1 : _ = some (Value.bool sc) := Xc_h1.cell 0; have KXc1_1 : _ = some (Value.slice c nc cc) := Xc_h1.cell 1; have hlr35 : r35n ≤ 31 := len_le (l := la) hO1_1.len HBz35.out)))
      | (go_at_call 31; ((with_reducible refine (zaddG (show Rd _ r35 r35n r35c (lm z35.natAbs) from (hO1_1.below (by first | exact Below.refl _ _ | exact (Below.refl _ _).drew)).rd) (show r35n ≤ 4194304 by omega) (show Rd _ b nb cb lb from Rb_57.below (by first | exact acc1 | exact (acc1).drew)) (show nb ≤ 4194304 by omega) (zvlm z35) HXb.out Hz36.out).mono ?_); (rintro e w40 ⟨r36, r36n, r36c, rfl, hO2_2, hB⟩; have hst2 : Below w39.heap.size w39 w40 := (by first | exact hB | exact below_drew hB); have acc2 := acc1.next hst2; have Xa_h2 := Xa_h1.next hst2; have Xb_h2 := Xb_h1.next hst2; have Xc_h2 := Xc_h1.next hst2; have KXa0_2 : _ = some (Value.bool sa) := Xa_h2.cell 0; have KXa1_2 : _ = some (Value.slice a na ca) := Xa_h2.cell 1; have KXb0_2 : _ = some (Value.bool sb) := Xb_h2.cell 0; have KXb1_2 : _ = some (Value.slice b nb cb) := Xb_h2.cell 1; have KXc0_2 : _ = some (Value.bool sc) := Xc_h2.cell 0; have KXc1_2 : _ = some (Value.slice c nc cc) := Xc_h2.cell 1; have hlr36 : r36n ≤ 32 := len_le (l := la) hO2_2.len HBz36.out)))
      | (go_at_call 30; ((with_reducible refine (zequalG (show Rd _ r36 r36n r36c (lm z36.natAbs) from (hO2_2.below (by first | exact Below.refl _ _ | exact (Below.refl _ _).drew)).rd) (show r36n ≤ 4194304 by omega) (show Rd _ a na ca la from Ra_56.below (by first | exact acc2 | exact (acc2).drew)) (show na ≤ 4194304 by omega) (zvlm z36) HXa.out HE37.out).mono ?_); (rintro e w41 ⟨rfl, hB⟩; have hst3 : Below w40.heap.size w40 w41 := (by first | exact hB | exact below_drew hB); have acc3 := acc2.next hst3; have Xa_h3 := Xa_h2.next hst3; have Xb_h3 := Xb_h2.next hst3; have Xc_h3 := Xc_h2.next hst3; have KXa0_3 : _ = some (Value.bool sa) := Xa_h3.cell 0; have KXa1_3 : _ = some (Value.slice a na ca) := Xa_h3.cell 1; have KXb0_3 : _ = some (Value.bool sb) := Xb_h3.cell 0; have KXb1_3 : _ = some (Value.slice b nb cb) := Xb_h3.cell 1; have KXc0_3 : _ = some (Value.bool sc) := Xc_h3.cell 0; have KXc1_3 : _ = some (Value.slice c nc cc) := Xc_h3.cell 1))))
  clear cXa0_59 cXa1_59 cXb0_59 cXb1_59 cXc0_59 cXc1_59
  have hstep : Below w38.heap.size w38 w41 := (by first | exact acc3 | exact below_drew acc3)
  have Xa_60 := Xa_53.next hstep
  have Xb_61 := Xb_54.next hstep
  have Xc_62 := Xc_55.next hstep
  have Ra_63 := Ra_56.below hstep
  have Rb_64 := Rb_57.below hstep
  have Rc_65 := Rc_58.below hstep
  have hbel66 := hbel59.next hstep
  have hle66 := hbel66.size
  have hls66 := hstep.size
  clear Xa_53 Xb_54 Xc_55 Ra_56 Rb_57 Rc_58 hbel59 hstep
  have cXa0_66 : _ = some (Value.bool sa) := Xa_60.cell 0
  have cXa1_66 : _ = some (Value.slice a na ca) := Xa_60.cell 1
  have cXb0_66 : _ = some (Value.bool sb) := Xb_61.cell 0
  have cXb1_66 : _ = some (Value.slice b nb cb) := Xb_61.cell 1
  have cXc0_66 : _ = some (Value.bool sc) := Xc_62.cell 0
  have cXc1_66 : _ = some (Value.slice c nc cc) := Xc_62.cell 1
  clear acc0 acc1 acc2 acc3 hst1 hst2 hst3 KXa0_0 KXa1_0 KXb0_0 KXb1_0 KXc0_0 KXc1_0 KXa0_1 KXa1_1 KXb0_1 KXb1_1 KXc0_1 KXc1_1 KXa0_2 KXa1_2 KXb0_2 KXb1_2 KXc0_2 KXc1_2 KXa0_3 KXa1_3 KXb0_3 KXb1_3 KXc0_3 KXc1_3 Xa_h0 Xa_h1 Xa_h2 Xa_h3 Xb_h0 Xb_h1 Xb_h2 Xb_h3 Xc_h0 Xc_h1 Xc_h2 Xc_h3
  clear hO1_1 hO2_2
  go_wp2
  go_ret
  exact ⟨rfl, hbel66⟩

end Go.Proofs.Ytflmdcmlhpifeaa
