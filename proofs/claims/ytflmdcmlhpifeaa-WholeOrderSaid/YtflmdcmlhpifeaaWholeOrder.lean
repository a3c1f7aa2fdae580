/- THE WALK OF credencelaw02.WholeOrder: the order goes with sums, and with products. -/
import Derived.Test.YtflmdcmlhpifeaaZo
namespace Go.Proofs.Ytflmdcmlhpifeaa
set_option linter.unusedVariables false
set_option linter.unusedSimpArgs false
open Go.ChangeShapes Go.WideShapes Go.ChangeAt Go.RowKit Go.NatP

theorem cmpZ_flip (x y : Int) : cmpZ y x = -cmpZ x y := by have h1 := cmpZ_cases x y; have h2 := cmpZ_cases y x; omega
theorem cmpZ_plus {x y z u v e : Int} (hu : x + z = u) (hv : y + z = v) (h : cmpZ x y = e) : cmpZ u v = e := by have h1 := cmpZ_cases x y; have h2 := cmpZ_cases u v; omega
theorem cmpZ_times {x y z u v e g P : Int} (hu : x * z = u) (hv : y * z = v) (h : cmpZ x y = e) (hg : sgn z = g) (hP : e * g = P) : cmpZ u v = P := by
  have h1 := cmpZ_cases x y; have h2 := cmpZ_cases u v; have h3 := sgn_cases z
  rcases h3 with ⟨h3, e3⟩ | ⟨h3, e3⟩ | ⟨h3, e3⟩
  · have k : ∀ p q : Int, p < q → q * z < p * z := fun p q hpq => Int.mul_lt_mul_of_neg_right hpq h3
    have k1 := k x y; have k2 := k y x
    rw [← hg, e3] at hP
    rw [← hu, ← hv] at h2 ⊢
    rcases h1 with ⟨h1, e1⟩ | ⟨h1, e1⟩ | ⟨h1, e1⟩
    · have := k1 h1; omega
    · subst h1; omega
    · have := k2 h1; omega
  · subst h3; simp at hu hv; rw [← hg, e3] at hP; omega
  · have k : ∀ p q : Int, p < q → p * z < q * z := fun p q hpq => Int.mul_lt_mul_of_pos_right hpq h3
    have k1 := k x y; have k2 := k y x
    rw [← hg, e3] at hP
    rw [← hu, ← hv] at h2 ⊢
    rcases h1 with ⟨h1, e1⟩ | ⟨h1, e1⟩ | ⟨h1, e1⟩
    · have := k1 h1; omega
    · subst h1; omega
    · have := k2 h1; omega

set_option maxRecDepth 100000 in
set_option maxHeartbeats 8000000 in
theorem wholeOrder_walk {w : World} {a : Option Addr} {na ca : Nat} {la : List Nat} {b : Option Addr} {nb cb : Nat} {lb : List Nat} {c : Option Addr} {nc cc : Nat} {lc : List Nat} (sa : Bool) (ha : Rd w a na ca la) (sb : Bool) (hb : Rd w b nb cb lb) (sc : Bool) (hc : Rd w c nc cc lc) :
    Calls Try.prog 8 #[.agg #[.bool sa, .slice a na ca], .agg #[.bool sb, .slice b nb cb], .agg #[.bool sc, .slice c nc cc]] w fun e w' => e = .returned (.bool true) ∧ Below w.heap.size w w' := by
  have hba := ha.bnd
  have hbb := hb.bnd
  have hbc := hc.bnd
  by_cases hga : 30 < na
  · have da : decide (30 < na) = true := decide_eq_true hga
    have hent := ent3 w #[Value.bool sa, Value.slice a na ca] #[Value.bool sb, Value.slice b nb cb] #[Value.bool sc, Value.slice c nc cc] 25 25 25
    go_enter Try.func8, Try.ntmps8
    go_wp2_with fail
    generalize (((w.alloc (.cells #[Value.bool sa, Value.slice a na ca] 25)).alloc (.cells #[Value.bool sb, Value.slice b nb cb] 25)).alloc (.cells #[Value.bool sc, Value.slice c nc cc] 25)) = W0 at hent ⊢
    obtain ⟨Xa_0, Xb_0, Xc_0, hbel0, hsz0⟩ := hent
    have Ra_1 := ha.below hbel0
    have Rb_2 := hb.below hbel0
    have Rc_3 := hc.below hbel0
    have cXa0_3 : _ = some (Value.bool sa) := Xa_0.cell 0
    have cXa1_3 : _ = some (Value.slice a na ca) := Xa_0.cell 1
    have cXb0_3 : _ = some (Value.bool sb) := Xb_0.cell 0
    have cXb1_3 : _ = some (Value.slice b nb cb) := Xb_0.cell 1
    have cXc0_3 : _ = some (Value.bool sc) := Xc_0.cell 0
    have cXc1_3 : _ = some (Value.slice c nc cc) := Xc_0.cell 1
    go_wp2_with fail
    refine (alive_any).mono ?_
    rintro e w1 ⟨rfl, hB⟩
    clear cXa0_3 cXa1_3 cXb0_3 cXb1_3 cXc0_3 cXc1_3
    have hstep : Below W0.heap.size W0 w1 := (by first | exact hB | exact below_drew hB)
    have Xa_4 := Xa_0.next hstep
    have Xb_5 := Xb_0.next hstep
    have Xc_6 := Xc_0.next hstep
    have Ra_7 := Ra_1.below hstep
    have Rb_8 := Rb_2.below hstep
    have Rc_9 := Rc_3.below hstep
    have hbel10 := hbel0.next hstep
    have hle10 := hbel10.size
    have hls10 := hstep.size
    clear Xa_0 Xb_0 Xc_0 Ra_1 Rb_2 Rc_3 hbel0 hstep
    have cXa0_10 : _ = some (Value.bool sa) := Xa_4.cell 0
    have cXa1_10 : _ = some (Value.slice a na ca) := Xa_4.cell 1
    have cXb0_10 : _ = some (Value.bool sb) := Xb_5.cell 0
    have cXb1_10 : _ = some (Value.slice b nb cb) := Xb_5.cell 1
    have cXc0_10 : _ = some (Value.bool sc) := Xc_6.cell 0
    have cXc1_10 : _ = some (Value.slice c nc cc) := Xc_6.cell 1
    go_wp2_with fail
    refine (big_any sa Ra_7 (by omega)).mono ?_
    rw [da]
    rintro e w2 ⟨rfl, hB⟩
    clear cXa0_10 cXa1_10 cXb0_10 cXb1_10 cXc0_10 cXc1_10
    have hstep : Below w1.heap.size w1 w2 := (by first | exact hB | exact below_drew hB)
    have Xa_11 := Xa_4.next hstep
    have Xb_12 := Xb_5.next hstep
    have Xc_13 := Xc_6.next hstep
    have Ra_14 := Ra_7.below hstep
    have Rb_15 := Rb_8.below hstep
    have Rc_16 := Rc_9.below hstep
    have hbel17 := hbel10.next hstep
    have hle17 := hbel17.size
    have hls17 := hstep.size
    clear Xa_4 Xb_5 Xc_6 Ra_7 Rb_8 Rc_9 hbel10 hstep
    have cXa0_17 : _ = some (Value.bool sa) := Xa_11.cell 0
    have cXa1_17 : _ = some (Value.slice a na ca) := Xa_11.cell 1
    have cXb0_17 : _ = some (Value.bool sb) := Xb_12.cell 0
    have cXb1_17 : _ = some (Value.slice b nb cb) := Xb_12.cell 1
    have cXc0_17 : _ = some (Value.bool sc) := Xc_13.cell 0
    have cXc1_17 : _ = some (Value.slice c nc cc) := Xc_13.cell 1
    go_wp2
    go_ret
    exact ⟨rfl, hbel17⟩
  have da : decide (30 < na) = false := decide_eq_false hga
  by_cases hgb : 30 < nb
  · have db : decide (30 < nb) = true := decide_eq_true hgb
    have hent := ent3 w #[Value.bool sa, Value.slice a na ca] #[Value.bool sb, Value.slice b nb cb] #[Value.bool sc, Value.slice c nc cc] 25 25 25
    go_enter Try.func8, Try.ntmps8
    go_wp2_with fail
    generalize (((w.alloc (.cells #[Value.bool sa, Value.slice a na ca] 25)).alloc (.cells #[Value.bool sb, Value.slice b nb cb] 25)).alloc (.cells #[Value.bool sc, Value.slice c nc cc] 25)) = W0 at hent ⊢
    obtain ⟨Xa_0, Xb_0, Xc_0, hbel0, hsz0⟩ := hent
    have Ra_1 := ha.below hbel0
    have Rb_2 := hb.below hbel0
    have Rc_3 := hc.below hbel0
    have cXa0_3 : _ = some (Value.bool sa) := Xa_0.cell 0
    have cXa1_3 : _ = some (Value.slice a na ca) := Xa_0.cell 1
    have cXb0_3 : _ = some (Value.bool sb) := Xb_0.cell 0
    have cXb1_3 : _ = some (Value.slice b nb cb) := Xb_0.cell 1
    have cXc0_3 : _ = some (Value.bool sc) := Xc_0.cell 0
    have cXc1_3 : _ = some (Value.slice c nc cc) := Xc_0.cell 1
    go_wp2_with fail
    refine (alive_any).mono ?_
    rintro e w1 ⟨rfl, hB⟩
    clear cXa0_3 cXa1_3 cXb0_3 cXb1_3 cXc0_3 cXc1_3
    have hstep : Below W0.heap.size W0 w1 := (by first | exact hB | exact below_drew hB)
    have Xa_4 := Xa_0.next hstep
    have Xb_5 := Xb_0.next hstep
    have Xc_6 := Xc_0.next hstep
    have Ra_7 := Ra_1.below hstep
    have Rb_8 := Rb_2.below hstep
    have Rc_9 := Rc_3.below hstep
    have hbel10 := hbel0.next hstep
    have hle10 := hbel10.size
    have hls10 := hstep.size
    clear Xa_0 Xb_0 Xc_0 Ra_1 Rb_2 Rc_3 hbel0 hstep
    have cXa0_10 : _ = some (Value.bool sa) := Xa_4.cell 0
    have cXa1_10 : _ = some (Value.slice a na ca) := Xa_4.cell 1
    have cXb0_10 : _ = some (Value.bool sb) := Xb_5.cell 0
    have cXb1_10 : _ = some (Value.slice b nb cb) := Xb_5.cell 1
    have cXc0_10 : _ = some (Value.bool sc) := Xc_6.cell 0
    have cXc1_10 : _ = some (Value.slice c nc cc) := Xc_6.cell 1
    go_wp2_with fail
    refine (big_any sa Ra_7 (by omega)).mono ?_
    rw [da]
    rintro e w2 ⟨rfl, hB⟩
    clear cXa0_10 cXa1_10 cXb0_10 cXb1_10 cXc0_10 cXc1_10
    have hstep : Below w1.heap.size w1 w2 := (by first | exact hB | exact below_drew hB)
    have Xa_11 := Xa_4.next hstep
    have Xb_12 := Xb_5.next hstep
    have Xc_13 := Xc_6.next hstep
    have Ra_14 := Ra_7.below hstep
    have Rb_15 := Rb_8.below hstep
    have Rc_16 := Rc_9.below hstep
    have hbel17 := hbel10.next hstep
    have hle17 := hbel17.size
    have hls17 := hstep.size
    clear Xa_4 Xb_5 Xc_6 Ra_7 Rb_8 Rc_9 hbel10 hstep
    have cXa0_17 : _ = some (Value.bool sa) := Xa_11.cell 0
    have cXa1_17 : _ = some (Value.slice a na ca) := Xa_11.cell 1
    have cXb0_17 : _ = some (Value.bool sb) := Xb_12.cell 0
    have cXb1_17 : _ = some (Value.slice b nb cb) := Xb_12.cell 1
    have cXc0_17 : _ = some (Value.bool sc) := Xc_13.cell 0
    have cXc1_17 : _ = some (Value.slice c nc cc) := Xc_13.cell 1
    go_wp2_with fail
    refine (big_any sb Rb_15 (by omega)).mono ?_
    rw [db]
    rintro e w3 ⟨rfl, hB⟩
    clear cXa0_17 cXa1_17 cXb0_17 cXb1_17 cXc0_17 cXc1_17
    have hstep : Below w2.heap.size w2 w3 := (by first | exact hB | exact below_drew hB)
    have Xa_18 := Xa_11.next hstep
    have Xb_19 := Xb_12.next hstep
    have Xc_20 := Xc_13.next hstep
    have Ra_21 := Ra_14.below hstep
    have Rb_22 := Rb_15.below hstep
    have Rc_23 := Rc_16.below hstep
    have hbel24 := hbel17.next hstep
    have hle24 := hbel24.size
    have hls24 := hstep.size
    clear Xa_11 Xb_12 Xc_13 Ra_14 Rb_15 Rc_16 hbel17 hstep
    have cXa0_24 : _ = some (Value.bool sa) := Xa_18.cell 0
    have cXa1_24 : _ = some (Value.slice a na ca) := Xa_18.cell 1
    have cXb0_24 : _ = some (Value.bool sb) := Xb_19.cell 0
    have cXb1_24 : _ = some (Value.slice b nb cb) := Xb_19.cell 1
    have cXc0_24 : _ = some (Value.bool sc) := Xc_20.cell 0
    have cXc1_24 : _ = some (Value.slice c nc cc) := Xc_20.cell 1
    go_wp2
    go_ret
    exact ⟨rfl, hbel24⟩
  have db : decide (30 < nb) = false := decide_eq_false hgb
  by_cases hgc : 30 < nc
  · have dc : decide (30 < nc) = true := decide_eq_true hgc
    have hent := ent3 w #[Value.bool sa, Value.slice a na ca] #[Value.bool sb, Value.slice b nb cb] #[Value.bool sc, Value.slice c nc cc] 25 25 25
    go_enter Try.func8, Try.ntmps8
    go_wp2_with fail
    generalize (((w.alloc (.cells #[Value.bool sa, Value.slice a na ca] 25)).alloc (.cells #[Value.bool sb, Value.slice b nb cb] 25)).alloc (.cells #[Value.bool sc, Value.slice c nc cc] 25)) = W0 at hent ⊢
    obtain ⟨Xa_0, Xb_0, Xc_0, hbel0, hsz0⟩ := hent
    have Ra_1 := ha.below hbel0
    have Rb_2 := hb.below hbel0
    have Rc_3 := hc.below hbel0
    have cXa0_3 : _ = some (Value.bool sa) := Xa_0.cell 0
    have cXa1_3 : _ = some (Value.slice a na ca) := Xa_0.cell 1
    have cXb0_3 : _ = some (Value.bool sb) := Xb_0.cell 0
    have cXb1_3 : _ = some (Value.slice b nb cb) := Xb_0.cell 1
    have cXc0_3 : _ = some (Value.bool sc) := Xc_0.cell 0
    have cXc1_3 : _ = some (Value.slice c nc cc) := Xc_0.cell 1
    go_wp2_with fail
    refine (alive_any).mono ?_
    rintro e w1 ⟨rfl, hB⟩
    clear cXa0_3 cXa1_3 cXb0_3 cXb1_3 cXc0_3 cXc1_3
    have hstep : Below W0.heap.size W0 w1 := (by first | exact hB | exact below_drew hB)
    have Xa_4 := Xa_0.next hstep
    have Xb_5 := Xb_0.next hstep
    have Xc_6 := Xc_0.next hstep
    have Ra_7 := Ra_1.below hstep
    have Rb_8 := Rb_2.below hstep
    have Rc_9 := Rc_3.below hstep
    have hbel10 := hbel0.next hstep
    have hle10 := hbel10.size
    have hls10 := hstep.size
    clear Xa_0 Xb_0 Xc_0 Ra_1 Rb_2 Rc_3 hbel0 hstep
    have cXa0_10 : _ = some (Value.bool sa) := Xa_4.cell 0
    have cXa1_10 : _ = some (Value.slice a na ca) := Xa_4.cell 1
    have cXb0_10 : _ = some (Value.bool sb) := Xb_5.cell 0
    have cXb1_10 : _ = some (Value.slice b nb cb) := Xb_5.cell 1
    have cXc0_10 : _ = some (Value.bool sc) := Xc_6.cell 0
    have cXc1_10 : _ = some (Value.slice c nc cc) := Xc_6.cell 1
    go_wp2_with fail
    refine (big_any sa Ra_7 (by omega)).mono ?_
    rw [da]
    rintro e w2 ⟨rfl, hB⟩
    clear cXa0_10 cXa1_10 cXb0_10 cXb1_10 cXc0_10 cXc1_10
    have hstep : Below w1.heap.size w1 w2 := (by first | exact hB | exact below_drew hB)
    have Xa_11 := Xa_4.next hstep
    have Xb_12 := Xb_5.next hstep
    have Xc_13 := Xc_6.next hstep
    have Ra_14 := Ra_7.below hstep
    have Rb_15 := Rb_8.below hstep
    have Rc_16 := Rc_9.below hstep
    have hbel17 := hbel10.next hstep
    have hle17 := hbel17.size
    have hls17 := hstep.size
    clear Xa_4 Xb_5 Xc_6 Ra_7 Rb_8 Rc_9 hbel10 hstep
    have cXa0_17 : _ = some (Value.bool sa) := Xa_11.cell 0
    have cXa1_17 : _ = some (Value.slice a na ca) := Xa_11.cell 1
    have cXb0_17 : _ = some (Value.bool sb) := Xb_12.cell 0
    have cXb1_17 : _ = some (Value.slice b nb cb) := Xb_12.cell 1
    have cXc0_17 : _ = some (Value.bool sc) := Xc_13.cell 0
    have cXc1_17 : _ = some (Value.slice c nc cc) := Xc_13.cell 1
    go_wp2_with fail
    refine (big_any sb Rb_15 (by omega)).mono ?_
    rw [db]
    rintro e w3 ⟨rfl, hB⟩
    clear cXa0_17 cXa1_17 cXb0_17 cXb1_17 cXc0_17 cXc1_17
    have hstep : Below w2.heap.size w2 w3 := (by first | exact hB | exact below_drew hB)
    have Xa_18 := Xa_11.next hstep
    have Xb_19 := Xb_12.next hstep
    have Xc_20 := Xc_13.next hstep
    have Ra_21 := Ra_14.below hstep
    have Rb_22 := Rb_15.below hstep
    have Rc_23 := Rc_16.below hstep
    have hbel24 := hbel17.next hstep
    have hle24 := hbel24.size
    have hls24 := hstep.size
    clear Xa_11 Xb_12 Xc_13 Ra_14 Rb_15 Rc_16 hbel17 hstep
    have cXa0_24 : _ = some (Value.bool sa) := Xa_18.cell 0
    have cXa1_24 : _ = some (Value.slice a na ca) := Xa_18.cell 1
    have cXb0_24 : _ = some (Value.bool sb) := Xb_19.cell 0
    have cXb1_24 : _ = some (Value.slice b nb cb) := Xb_19.cell 1
    have cXc0_24 : _ = some (Value.bool sc) := Xc_20.cell 0
    have cXc1_24 : _ = some (Value.slice c nc cc) := Xc_20.cell 1
    go_wp2_with fail
    refine (big_any sc Rc_23 (by omega)).mono ?_
    rw [dc]
    rintro e w4 ⟨rfl, hB⟩
    clear cXa0_24 cXa1_24 cXb0_24 cXb1_24 cXc0_24 cXc1_24
    have hstep : Below w3.heap.size w3 w4 := (by first | exact hB | exact below_drew hB)
    have Xa_25 := Xa_18.next hstep
    have Xb_26 := Xb_19.next hstep
    have Xc_27 := Xc_20.next hstep
    have Ra_28 := Ra_21.below hstep
    have Rb_29 := Rb_22.below hstep
    have Rc_30 := Rc_23.below hstep
    have hbel31 := hbel24.next hstep
    have hle31 := hbel31.size
    have hls31 := hstep.size
    clear Xa_18 Xb_19 Xc_20 Ra_21 Rb_22 Rc_23 hbel24 hstep
    have cXa0_31 : _ = some (Value.bool sa) := Xa_25.cell 0
    have cXa1_31 : _ = some (Value.slice a na ca) := Xa_25.cell 1
    have cXb0_31 : _ = some (Value.bool sb) := Xb_26.cell 0
    have cXb1_31 : _ = some (Value.slice b nb cb) := Xb_26.cell 1
    have cXc0_31 : _ = some (Value.bool sc) := Xc_27.cell 0
    have cXc1_31 : _ = some (Value.slice c nc cc) := Xc_27.cell 1
    go_wp2
    go_ret
    exact ⟨rfl, hbel31⟩
  have dc : decide (30 < nc) = false := decide_eq_false hgc
  obtain ⟨za, hza⟩ : ∃ z, zv sa (val la) = z := ⟨_, rfl⟩
  have HXa := hid hza
  have HBza : Hid (Sz za.natAbs 30) := by show Sz _ _; rw [← hza, zv_abs]; exact ha.szv.mono (Nat.le_refl _) (by omega)
  clear hza
  obtain ⟨zb, hzb⟩ : ∃ z, zv sb (val lb) = z := ⟨_, rfl⟩
  have HXb := hid hzb
  have HBzb : Hid (Sz zb.natAbs 30) := by show Sz _ _; rw [← hzb, zv_abs]; exact hb.szv.mono (Nat.le_refl _) (by omega)
  clear hzb
  obtain ⟨zc, hzc⟩ : ∃ z, zv sc (val lc) = z := ⟨_, rfl⟩
  have HXc := hid hzc
  have HBzc : Hid (Sz zc.natAbs 30) := by show Sz _ _; rw [← hzc, zv_abs]; exact hc.szv.mono (Nat.le_refl _) (by omega)
  clear hzc
  have hent := ent3 w #[Value.bool sa, Value.slice a na ca] #[Value.bool sb, Value.slice b nb cb] #[Value.bool sc, Value.slice c nc cc] 25 25 25
  go_enter Try.func8, Try.ntmps8
  go_wp2_with fail
  generalize (((w.alloc (.cells #[Value.bool sa, Value.slice a na ca] 25)).alloc (.cells #[Value.bool sb, Value.slice b nb cb] 25)).alloc (.cells #[Value.bool sc, Value.slice c nc cc] 25)) = W0 at hent ⊢
  obtain ⟨Xa_0, Xb_0, Xc_0, hbel0, hsz0⟩ := hent
  have Ra_1 := ha.below hbel0
  have Rb_2 := hb.below hbel0
  have Rc_3 := hc.below hbel0
  have cXa0_3 : _ = some (Value.bool sa) := Xa_0.cell 0
  have cXa1_3 : _ = some (Value.slice a na ca) := Xa_0.cell 1
  have cXb0_3 : _ = some (Value.bool sb) := Xb_0.cell 0
  have cXb1_3 : _ = some (Value.slice b nb cb) := Xb_0.cell 1
  have cXc0_3 : _ = some (Value.bool sc) := Xc_0.cell 0
  have cXc1_3 : _ = some (Value.slice c nc cc) := Xc_0.cell 1
  go_wp2_with fail
  refine (alive_any).mono ?_
  rintro e w1 ⟨rfl, hB⟩
  clear cXa0_3 cXa1_3 cXb0_3 cXb1_3 cXc0_3 cXc1_3
  have hstep : Below W0.heap.size W0 w1 := (by first | exact hB | exact below_drew hB)
  have Xa_4 := Xa_0.next hstep
  have Xb_5 := Xb_0.next hstep
  have Xc_6 := Xc_0.next hstep
  have Ra_7 := Ra_1.below hstep
  have Rb_8 := Rb_2.below hstep
  have Rc_9 := Rc_3.below hstep
  have hbel10 := hbel0.next hstep
  have hle10 := hbel10.size
  have hls10 := hstep.size
  clear Xa_0 Xb_0 Xc_0 Ra_1 Rb_2 Rc_3 hbel0 hstep
  have cXa0_10 : _ = some (Value.bool sa) := Xa_4.cell 0
  have cXa1_10 : _ = some (Value.slice a na ca) := Xa_4.cell 1
  have cXb0_10 : _ = some (Value.bool sb) := Xb_5.cell 0
  have cXb1_10 : _ = some (Value.slice b nb cb) := Xb_5.cell 1
  have cXc0_10 : _ = some (Value.bool sc) := Xc_6.cell 0
  have cXc1_10 : _ = some (Value.slice c nc cc) := Xc_6.cell 1
  go_wp2_with fail
  refine (big_any sa Ra_7 (by omega)).mono ?_
  rw [da]
  rintro e w2 ⟨rfl, hB⟩
  clear cXa0_10 cXa1_10 cXb0_10 cXb1_10 cXc0_10 cXc1_10
  have hstep : Below w1.heap.size w1 w2 := (by first | exact hB | exact below_drew hB)
  have Xa_11 := Xa_4.next hstep
  have Xb_12 := Xb_5.next hstep
  have Xc_13 := Xc_6.next hstep
  have Ra_14 := Ra_7.below hstep
  have Rb_15 := Rb_8.below hstep
  have Rc_16 := Rc_9.below hstep
  have hbel17 := hbel10.next hstep
  have hle17 := hbel17.size
  have hls17 := hstep.size
  clear Xa_4 Xb_5 Xc_6 Ra_7 Rb_8 Rc_9 hbel10 hstep
  have cXa0_17 : _ = some (Value.bool sa) := Xa_11.cell 0
  have cXa1_17 : _ = some (Value.slice a na ca) := Xa_11.cell 1
  have cXb0_17 : _ = some (Value.bool sb) := Xb_12.cell 0
  have cXb1_17 : _ = some (Value.slice b nb cb) := Xb_12.cell 1
  have cXc0_17 : _ = some (Value.bool sc) := Xc_13.cell 0
  have cXc1_17 : _ = some (Value.slice c nc cc) := Xc_13.cell 1
  go_wp2_with fail
  refine (big_any sb Rb_15 (by omega)).mono ?_
  rw [db]
  rintro e w3 ⟨rfl, hB⟩
  clear cXa0_17 cXa1_17 cXb0_17 cXb1_17 cXc0_17 cXc1_17
  have hstep : Below w2.heap.size w2 w3 := (by first | exact hB | exact below_drew hB)
  have Xa_18 := Xa_11.next hstep
  have Xb_19 := Xb_12.next hstep
  have Xc_20 := Xc_13.next hstep
  have Ra_21 := Ra_14.below hstep
  have Rb_22 := Rb_15.below hstep
  have Rc_23 := Rc_16.below hstep
  have hbel24 := hbel17.next hstep
  have hle24 := hbel24.size
  have hls24 := hstep.size
  clear Xa_11 Xb_12 Xc_13 Ra_14 Rb_15 Rc_16 hbel17 hstep
  have cXa0_24 : _ = some (Value.bool sa) := Xa_18.cell 0
  have cXa1_24 : _ = some (Value.slice a na ca) := Xa_18.cell 1
  have cXb0_24 : _ = some (Value.bool sb) := Xb_19.cell 0
  have cXb1_24 : _ = some (Value.slice b nb cb) := Xb_19.cell 1
  have cXc0_24 : _ = some (Value.bool sc) := Xc_20.cell 0
  have cXc1_24 : _ = some (Value.slice c nc cc) := Xc_20.cell 1
  go_wp2_with fail
  refine (big_any sc Rc_23 (by omega)).mono ?_
  rw [dc]
  rintro e w4 ⟨rfl, hB⟩
  clear cXa0_24 cXa1_24 cXb0_24 cXb1_24 cXc0_24 cXc1_24
  have hstep : Below w3.heap.size w3 w4 := (by first | exact hB | exact below_drew hB)
  have Xa_25 := Xa_18.next hstep
  have Xb_26 := Xb_19.next hstep
  have Xc_27 := Xc_20.next hstep
  have Ra_28 := Ra_21.below hstep
  have Rb_29 := Rb_22.below hstep
  have Rc_30 := Rc_23.below hstep
  have hbel31 := hbel24.next hstep
  have hle31 := hbel31.size
  have hls31 := hstep.size
  clear Xa_18 Xb_19 Xc_20 Ra_21 Rb_22 Rc_23 hbel24 hstep
  have cXa0_31 : _ = some (Value.bool sa) := Xa_25.cell 0
  have cXa1_31 : _ = some (Value.slice a na ca) := Xa_25.cell 1
  have cXb0_31 : _ = some (Value.bool sb) := Xb_26.cell 0
  have cXb1_31 : _ = some (Value.slice b nb cb) := Xb_26.cell 1
  have cXc0_31 : _ = some (Value.bool sc) := Xc_27.cell 0
  have cXc1_31 : _ = some (Value.slice c nc cc) := Xc_27.cell 1
  obtain ⟨e0, he0⟩ : ∃ e, cmpZ za zb = e := ⟨_, rfl⟩
  obtain ⟨g0, hg0⟩ : ∃ g, sgn zc = g := ⟨_, rfl⟩
  obtain ⟨P, hP⟩ : ∃ P, e0 * g0 = P := ⟨_, rfl⟩
  have hre : -1 ≤ e0 ∧ e0 ≤ 1 := by have := cmpZ_range za zb; omega
  have hrg : -1 ≤ g0 ∧ g0 ≤ 1 := by have := sgn_range zc; omega
  have hrP : -1 ≤ P ∧ P ≤ 1 := by rw [← hP]; rcases (show e0 = -1 ∨ e0 = 0 ∨ e0 = 1 by omega) with h | h | h <;> rw [h] <;> omega
  have HE0 := hid he0
  have HG0 := hid hg0
  have HP0 := hid hP
  clear he0 hg0
  have hW0 : IntKind.i64.wrap P = P := IntWalk.i64_in _ (by omega)
  have HE1 := hid (show cmpZ za zb = e0 from (by exact HE0.out))
  go_wp2_with fail
  refine (zcmpG (show Rd _ a na ca la from Ra_28) (show na ≤ 4194304 by omega) (show Rd _ b nb cb lb from Rb_29) (show nb ≤ 4194304 by omega) HXa.out HXb.out HE1.out).mono ?_
  rintro e w5 ⟨rfl, hB⟩
  clear cXa0_31 cXa1_31 cXb0_31 cXb1_31 cXc0_31 cXc1_31
  have hstep : Below w4.heap.size w4 w5 := (by first | exact hB | exact below_drew hB)
  have Xa_32 := Xa_25.next hstep
  have Xb_33 := Xb_26.next hstep
  have Xc_34 := Xc_27.next hstep
  have Ra_35 := Ra_28.below hstep
  have Rb_36 := Rb_29.below hstep
  have Rc_37 := Rc_30.below hstep
  have hbel38 := hbel31.next hstep
  have hle38 := hbel38.size
  have hls38 := hstep.size
  clear Xa_25 Xb_26 Xc_27 Ra_28 Rb_29 Rc_30 hbel31 hstep
  have cXa0_38 : _ = some (Value.bool sa) := Xa_32.cell 0
  have cXa1_38 : _ = some (Value.slice a na ca) := Xa_32.cell 1
  have cXb0_38 : _ = some (Value.bool sb) := Xb_33.cell 0
  have cXb1_38 : _ = some (Value.slice b nb cb) := Xb_33.cell 1
  have cXc0_38 : _ = some (Value.bool sc) := Xc_34.cell 0
  have cXc1_38 : _ = some (Value.slice c nc cc) := Xc_34.cell 1
  obtain ⟨z2, hzz⟩ : ∃ z, za - zb = z := ⟨_, rfl⟩
  have Hz2 := hid hzz
  have HBz2 : Hid (Sz z2.natAbs 31) := szI_sub HBza.out HBzb.out hzz
  clear hzz
  have HE3 := hid (show sgn z2 = e0 from (by rw [← Hz2.out, sgn_sub]; exact HE0.out))
  have HE4 := hid (show cmpZ zb za = (-e0) from (by rw [cmpZ_flip]; rw [HE0.out]))
  go_wp2_with fail
  refine (zsubG (show Rd _ a na ca la from Ra_35) (show na ≤ 4194304 by omega) (show Rd _ b nb cb lb from Rb_36) (show nb ≤ 4194304 by omega) HXa.out HXb.out Hz2.out).mono ?_
  rintro e w6 ⟨r2, r2n, r2c, rfl, hO1_1, hB⟩
  clear cXa0_38 cXa1_38 cXb0_38 cXb1_38 cXc0_38 cXc1_38
  have hstep : Below w5.heap.size w5 w6 := (by first | exact hB | exact below_drew hB)
  have Xa_39 := Xa_32.next hstep
  have Xb_40 := Xb_33.next hstep
  have Xc_41 := Xc_34.next hstep
  have Ra_42 := Ra_35.below hstep
  have Rb_43 := Rb_36.below hstep
  have Rc_44 := Rc_37.below hstep
  have hbel45 := hbel38.next hstep
  have hle45 := hbel45.size
  have hls45 := hstep.size
  clear Xa_32 Xb_33 Xc_34 Ra_35 Rb_36 Rc_37 hbel38 hstep
  have cXa0_45 : _ = some (Value.bool sa) := Xa_39.cell 0
  have cXa1_45 : _ = some (Value.slice a na ca) := Xa_39.cell 1
  have cXb0_45 : _ = some (Value.bool sb) := Xb_40.cell 0
  have cXb1_45 : _ = some (Value.slice b nb cb) := Xb_40.cell 1
  have cXc0_45 : _ = some (Value.bool sc) := Xc_41.cell 0
  have cXc1_45 : _ = some (Value.slice c nc cc) := Xc_41.cell 1
  have hlr2 : r2n ≤ 31 := len_le (l := la) hO1_1.len HBz2.out
  have Or2_46 := hO1_1
  clear hO1_1
  go_wp2_with fail
  refine (zsignG (show Rd _ r2 r2n r2c (lm z2.natAbs) from Or2_46.rd) (show r2n ≤ 4194304 by omega) (zvlm z2) HE3.out).mono ?_
  rintro e w7 ⟨rfl, hB⟩
  clear cXa0_45 cXa1_45 cXb0_45 cXb1_45 cXc0_45 cXc1_45
  have hstep : Below w6.heap.size w6 w7 := (by first | exact hB | exact below_drew hB)
  have Xa_47 := Xa_39.next hstep
  have Xb_48 := Xb_40.next hstep
  have Xc_49 := Xc_41.next hstep
  have Ra_50 := Ra_42.below hstep
  have Rb_51 := Rb_43.below hstep
  have Rc_52 := Rc_44.below hstep
  have Or2_53 := Or2_46.below hstep
  have hbel54 := hbel45.next hstep
  have hle54 := hbel54.size
  have hls54 := hstep.size
  clear Xa_39 Xb_40 Xc_41 Ra_42 Rb_43 Rc_44 Or2_46 hbel45 hstep
  have cXa0_54 : _ = some (Value.bool sa) := Xa_47.cell 0
  have cXa1_54 : _ = some (Value.slice a na ca) := Xa_47.cell 1
  have cXb0_54 : _ = some (Value.bool sb) := Xb_48.cell 0
  have cXb1_54 : _ = some (Value.slice b nb cb) := Xb_48.cell 1
  have cXc0_54 : _ = some (Value.bool sc) := Xc_49.cell 0
  have cXc1_54 : _ = some (Value.slice c nc cc) := Xc_49.cell 1
  go_wp2_with fail
  refine (zcmpG (show Rd _ b nb cb lb from Rb_51) (show nb ≤ 4194304 by omega) (show Rd _ a na ca la from Ra_50) (show na ≤ 4194304 by omega) HXb.out HXa.out HE4.out).mono ?_
  rintro e w8 ⟨rfl, hB⟩
  clear cXa0_54 cXa1_54 cXb0_54 cXb1_54 cXc0_54 cXc1_54
  have hstep : Below w7.heap.size w7 w8 := (by first | exact hB | exact below_drew hB)
  have Xa_55 := Xa_47.next hstep
  have Xb_56 := Xb_48.next hstep
  have Xc_57 := Xc_49.next hstep
  have Ra_58 := Ra_50.below hstep
  have Rb_59 := Rb_51.below hstep
  have Rc_60 := Rc_52.below hstep
  have Or2_61 := Or2_53.below hstep
  have hbel62 := hbel54.next hstep
  have hle62 := hbel62.size
  have hls62 := hstep.size
  clear Xa_47 Xb_48 Xc_49 Ra_50 Rb_51 Rc_52 Or2_53 hbel54 hstep
  have cXa0_62 : _ = some (Value.bool sa) := Xa_55.cell 0
  have cXa1_62 : _ = some (Value.slice a na ca) := Xa_55.cell 1
  have cXb0_62 : _ = some (Value.bool sb) := Xb_56.cell 0
  have cXb1_62 : _ = some (Value.slice b nb cb) := Xb_56.cell 1
  have cXc0_62 : _ = some (Value.bool sc) := Xc_57.cell 0
  have cXc1_62 : _ = some (Value.slice c nc cc) := Xc_57.cell 1
  go_wp2_with fail
  obtain ⟨z5, hzz⟩ : ∃ z, za + zc = z := ⟨_, rfl⟩
  have Hz5 := hid hzz
  have HBz5 : Hid (Sz z5.natAbs 31) := szI_add HBza.out HBzc.out hzz
  clear hzz
  obtain ⟨z6, hzz⟩ : ∃ z, zb + zc = z := ⟨_, rfl⟩
  have Hz6 := hid hzz
  have HBz6 : Hid (Sz z6.natAbs 31) := szI_add HBzb.out HBzc.out hzz
  clear hzz
  have HE7 := hid (show cmpZ z5 z6 = e0 from (by exact cmpZ_plus Hz5.out Hz6.out HE0.out))
  go_wp2_with fail
  have KXa0_0 : _ = some (Value.bool sa) := Xa_55.cell 0
  have KXa1_0 : _ = some (Value.slice a na ca) := Xa_55.cell 1
  have KXb0_0 : _ = some (Value.bool sb) := Xb_56.cell 0
  have KXb1_0 : _ = some (Value.slice b nb cb) := Xb_56.cell 1
  have KXc0_0 : _ = some (Value.bool sc) := Xc_57.cell 0
  have KXc1_0 : _ = some (Value.slice c nc cc) := Xc_57.cell 1
  have Xa_h0 := Xa_55
  have Xb_h0 := Xb_56
  have Xc_h0 := Xc_57
  have acc0 : Below w8.heap.size w8 w8 := Below.refl _ _
  go_region_held3 (fun w' => w'.cell? ⟨w.heap.size, 0, none⟩ = some (Value.bool sa) ∧ w'.cell? ⟨w.heap.size, 1, none⟩ = some (Value.slice a na ca) ∧ w'.cell? ⟨w.heap.size + 1, 0, none⟩ = some (Value.bool sb) ∧ w'.cell? ⟨w.heap.size + 1, 1, none⟩ = some (Value.slice b nb cb) ∧ w'.cell? ⟨w.heap.size + 1 + 1, 0, none⟩ = some (Value.bool sc) ∧ w'.cell? ⟨w.heap.size + 1 + 1, 1, none⟩ = some (Value.slice c nc cc))
    (first | exact ⟨KXa0_0, KXa1_0, KXb0_0, KXb1_0, KXc0_0, KXc1_0⟩ | exact ⟨KXa0_1, KXa1_1, KXb0_1, KXb1_1, KXc0_1, KXc1_1⟩ | exact ⟨KXa0_2, KXa1_2, KXb0_2, KXb1_2, KXc0_2, KXc1_2⟩ | exact ⟨KXa0_3, KXa1_3, KXb0_3, KXb1_3, KXc0_3, KXc1_3⟩ | go_keep)
    (first
      | (go_at_call 31; ((with_reducible refine (zaddG (show Rd _ a na ca la from Ra_58.below (by first | exact acc0 | exact (acc0).drew)) (show na ≤ 4194304 by omega) (show Rd _ c nc cc lc from Rc_60.below (by first | exact acc0 | exact (acc0).drew)) (show nc ≤ 4194304 by omega) HXa.out HXc.out Hz5.out).mono ?_); (rintro e w9 ⟨r5, r5n, r5c, rfl, hO1_1, hB⟩; have hst1 : Below w8.heap.size w8 w9 := (by first | exact hB | exact below_drew hB); have acc1 := acc0.next hst1; have Xa_h1 := Xa_h0.next hst1; have Xb_h1 := Xb_h0.next hst1; have Xc_h1 := Xc_h0.next hst1; have KXa0_1 : _ = some (Value.bool sa) := Xa_h1.cell 0; have KXa1_1 : _ = some (Value.slice a na ca) := Xa_h1.cell 1; have KXb0_1 : _ = some (Value.bool sb) := Xb_h1.cell 0; have KXb1_1 : _ = some (Value.slice b nb cb) := Xb_h1.cell 1; have KXc0_1 : _ = some (Value.bool sc) := Xc_h1.cell 0; have KXc1_1 : _ = some (Value.slice c nc cc) := Xc_h1.cell 1; have hlr5 : r5n ≤ 31 := len_le (l := la) hO1_1.len HBz5.out)))
      | (go_at_call 31; ((with_reducible refine (zaddG (show Rd _ b nb cb lb from Rb_59.below (by first | exact acc1 | exact (acc1).drew)) (show nb ≤ 4194304 by omega) (show Rd _ c nc cc lc from Rc_60.below (by first | exact acc1 | exact (acc1).drew)) (show nc ≤ 4194304 by omega) HXb.out HXc.out Hz6.out).mono ?_); (rintro e w10 ⟨r6, r6n, r6c, rfl, hO2_2, hB⟩; have hst2 : Below w9.heap.size w9 w10 := (by first | exact hB | exact below_drew hB); have acc2 := acc1.next hst2; have Xa_h2 := Xa_h1.next hst2; have Xb_h2 := Xb_h1.next hst2; have Xc_h2 := Xc_h1.next hst2; have KXa0_2 : _ = some (Value.bool sa) := Xa_h2.cell 0; have KXa1_2 : _ = some (Value.slice a na ca) := Xa_h2.cell 1; have KXb0_2 : _ = some (Value.bool sb) := Xb_h2.cell 0; have KXb1_2 : _ = some (Value.slice b nb cb) := Xb_h2.cell 1; have KXc0_2 : _ = some (Value.bool sc) := Xc_h2.cell 0; have KXc1_2 : _ = some (Value.slice c nc cc) := Xc_h2.cell 1; have hlr6 : r6n ≤ 31 := len_le (l := la) hO2_2.len HBz6.out; have hO1_2 := hO1_1.below hst2)))
      | (go_at_call 20; ((with_reducible refine (zcmpG (show Rd _ r5 r5n r5c (lm z5.natAbs) from (hO1_2.below (by first | exact Below.refl _ _ | exact (Below.refl _ _).drew)).rd) (show r5n ≤ 4194304 by omega) (show Rd _ r6 r6n r6c (lm z6.natAbs) from (hO2_2.below (by first | exact Below.refl _ _ | exact (Below.refl _ _).drew)).rd) (show r6n ≤ 4194304 by omega) (zvlm z5) (zvlm z6) HE7.out).mono ?_); (rintro e w11 ⟨rfl, hB⟩; have hst3 : Below w10.heap.size w10 w11 := (by first | exact hB | exact below_drew hB); have acc3 := acc2.next hst3; have Xa_h3 := Xa_h2.next hst3; have Xb_h3 := Xb_h2.next hst3; have Xc_h3 := Xc_h2.next hst3; have KXa0_3 : _ = some (Value.bool sa) := Xa_h3.cell 0; have KXa1_3 : _ = some (Value.slice a na ca) := Xa_h3.cell 1; have KXb0_3 : _ = some (Value.bool sb) := Xb_h3.cell 0; have KXb1_3 : _ = some (Value.slice b nb cb) := Xb_h3.cell 1; have KXc0_3 : _ = some (Value.bool sc) := Xc_h3.cell 0; have KXc1_3 : _ = some (Value.slice c nc cc) := Xc_h3.cell 1))))
  clear cXa0_62 cXa1_62 cXb0_62 cXb1_62 cXc0_62 cXc1_62
  have hstep : Below w8.heap.size w8 w11 := (by first | exact acc3 | exact below_drew acc3)
  have Xa_63 := Xa_55.next hstep
  have Xb_64 := Xb_56.next hstep
  have Xc_65 := Xc_57.next hstep
  have Ra_66 := Ra_58.below hstep
  have Rb_67 := Rb_59.below hstep
  have Rc_68 := Rc_60.below hstep
  have Or2_69 := Or2_61.below hstep
  have hbel70 := hbel62.next hstep
  have hle70 := hbel70.size
  have hls70 := hstep.size
  clear Xa_55 Xb_56 Xc_57 Ra_58 Rb_59 Rc_60 Or2_61 hbel62 hstep
  have cXa0_70 : _ = some (Value.bool sa) := Xa_63.cell 0
  have cXa1_70 : _ = some (Value.slice a na ca) := Xa_63.cell 1
  have cXb0_70 : _ = some (Value.bool sb) := Xb_64.cell 0
  have cXb1_70 : _ = some (Value.slice b nb cb) := Xb_64.cell 1
  have cXc0_70 : _ = some (Value.bool sc) := Xc_65.cell 0
  have cXc1_70 : _ = some (Value.slice c nc cc) := Xc_65.cell 1
  clear acc0 acc1 acc2 acc3 hst1 hst2 hst3 KXa0_0 KXa1_0 KXb0_0 KXb1_0 KXc0_0 KXc1_0 KXa0_1 KXa1_1 KXb0_1 KXb1_1 KXc0_1 KXc1_1 KXa0_2 KXa1_2 KXb0_2 KXb1_2 KXc0_2 KXc1_2 KXa0_3 KXa1_3 KXb0_3 KXb1_3 KXc0_3 KXc1_3 Xa_h0 Xa_h1 Xa_h2 Xa_h3 Xb_h0 Xb_h1 Xb_h2 Xb_h3 Xc_h0 Xc_h1 Xc_h2 Xc_h3
  clear hO1_1 hO1_2 hO2_2
  go_wp2_with fail
  obtain ⟨z8, hzz⟩ : ∃ z, za * zc = z := ⟨_, rfl⟩
  have Hz8 := hid hzz
  have HBz8 : Hid (Sz z8.natAbs 60) := szI_mul HBza.out HBzc.out hzz
  clear hzz
  obtain ⟨z9, hzz⟩ : ∃ z, zb * zc = z := ⟨_, rfl⟩
  have Hz9 := hid hzz
  have HBz9 : Hid (Sz z9.natAbs 60) := szI_mul HBzb.out HBzc.out hzz
  clear hzz
  have HE10 := hid (show cmpZ z8 z9 = P from (by exact cmpZ_times Hz8.out Hz9.out HE0.out HG0.out HP0.out))
  have HE11 := hid (show sgn zc = g0 from (by exact HG0.out))
  go_wp2_with fail
  have KXa0_0 : _ = some (Value.bool sa) := Xa_63.cell 0
  have KXa1_0 : _ = some (Value.slice a na ca) := Xa_63.cell 1
  have KXb0_0 : _ = some (Value.bool sb) := Xb_64.cell 0
  have KXb1_0 : _ = some (Value.slice b nb cb) := Xb_64.cell 1
  have KXc0_0 : _ = some (Value.bool sc) := Xc_65.cell 0
  have KXc1_0 : _ = some (Value.slice c nc cc) := Xc_65.cell 1
  have Xa_h0 := Xa_63
  have Xb_h0 := Xb_64
  have Xc_h0 := Xc_65
  have acc0 : Below w11.heap.size w11 w11 := Below.refl _ _
  go_region_held3 (fun w' => w'.cell? ⟨w.heap.size, 0, none⟩ = some (Value.bool sa) ∧ w'.cell? ⟨w.heap.size, 1, none⟩ = some (Value.slice a na ca) ∧ w'.cell? ⟨w.heap.size + 1, 0, none⟩ = some (Value.bool sb) ∧ w'.cell? ⟨w.heap.size + 1, 1, none⟩ = some (Value.slice b nb cb) ∧ w'.cell? ⟨w.heap.size + 1 + 1, 0, none⟩ = some (Value.bool sc) ∧ w'.cell? ⟨w.heap.size + 1 + 1, 1, none⟩ = some (Value.slice c nc cc))
    (first | exact ⟨KXa0_0, KXa1_0, KXb0_0, KXb1_0, KXc0_0, KXc1_0⟩ | exact ⟨KXa0_1, KXa1_1, KXb0_1, KXb1_1, KXc0_1, KXc1_1⟩ | exact ⟨KXa0_2, KXa1_2, KXb0_2, KXb1_2, KXc0_2, KXc1_2⟩ | exact ⟨KXa0_3, KXa1_3, KXb0_3, KXb1_3, KXc0_3, KXc1_3⟩ | exact ⟨KXa0_4, KXa1_4, KXb0_4, KXb1_4, KXc0_4, KXc1_4⟩ | go_keep)
    (first
      | (go_at_call 32; ((with_reducible refine (zmulG (show Rd _ a na ca la from Ra_66.below (by first | exact acc0 | exact (acc0).drew)) (show na ≤ 4194304 by omega) (show Rd _ c nc cc lc from Rc_68.below (by first | exact acc0 | exact (acc0).drew)) (show nc ≤ 4194304 by omega) HXa.out HXc.out Hz8.out).mono ?_); (rintro e w12 ⟨r8, r8n, r8c, rfl, hO1_1, hB⟩; have hst1 : Below w11.heap.size w11 w12 := (by first | exact hB | exact below_drew hB); have acc1 := acc0.next hst1; have Xa_h1 := Xa_h0.next hst1; have Xb_h1 := Xb_h0.next hst1; have Xc_h1 := Xc_h0.next hst1; have KXa0_1 : _ = some (Value.bool sa) := Xa_h1.cell 0; have KXa1_1 : _ = some (Value.slice a na ca) := Xa_h1.cell 1; have KXb0_1 : _ = some (Value.bool sb) := Xb_h1.cell 0; have KXb1_1 : _ = some (Value.slice b nb cb) := Xb_h1.cell 1; have KXc0_1 : _ = some (Value.bool sc) := Xc_h1.cell 0; have KXc1_1 : _ = some (Value.slice c nc cc) := Xc_h1.cell 1; have hlr8 : r8n ≤ 60 := len_le (l := la) hO1_1.len HBz8.out)))
      | (go_at_call 32; ((with_reducible refine (zmulG (show Rd _ b nb cb lb from Rb_67.below (by first | exact acc1 | exact (acc1).drew)) (show nb ≤ 4194304 by omega) (show Rd _ c nc cc lc from Rc_68.below (by first | exact acc1 | exact (acc1).drew)) (show nc ≤ 4194304 by omega) HXb.out HXc.out Hz9.out).mono ?_); (rintro e w13 ⟨r9, r9n, r9c, rfl, hO2_2, hB⟩; have hst2 : Below w12.heap.size w12 w13 := (by first | exact hB | exact below_drew hB); have acc2 := acc1.next hst2; have Xa_h2 := Xa_h1.next hst2; have Xb_h2 := Xb_h1.next hst2; have Xc_h2 := Xc_h1.next hst2; have KXa0_2 : _ = some (Value.bool sa) := Xa_h2.cell 0; have KXa1_2 : _ = some (Value.slice a na ca) := Xa_h2.cell 1; have KXb0_2 : _ = some (Value.bool sb) := Xb_h2.cell 0; have KXb1_2 : _ = some (Value.slice b nb cb) := Xb_h2.cell 1; have KXc0_2 : _ = some (Value.bool sc) := Xc_h2.cell 0; have KXc1_2 : _ = some (Value.slice c nc cc) := Xc_h2.cell 1; have hlr9 : r9n ≤ 60 := len_le (l := la) hO2_2.len HBz9.out; have hO1_2 := hO1_1.below hst2)))
      | (go_at_call 20; ((with_reducible refine (zcmpG (show Rd _ r8 r8n r8c (lm z8.natAbs) from (hO1_2.below (by first | exact Below.refl _ _ | exact (Below.refl _ _).drew)).rd) (show r8n ≤ 4194304 by omega) (show Rd _ r9 r9n r9c (lm z9.natAbs) from (hO2_2.below (by first | exact Below.refl _ _ | exact (Below.refl _ _).drew)).rd) (show r9n ≤ 4194304 by omega) (zvlm z8) (zvlm z9) HE10.out).mono ?_); (rintro e w14 ⟨rfl, hB⟩; have hst3 : Below w13.heap.size w13 w14 := (by first | exact hB | exact below_drew hB); have acc3 := acc2.next hst3; have Xa_h3 := Xa_h2.next hst3; have Xb_h3 := Xb_h2.next hst3; have Xc_h3 := Xc_h2.next hst3; have KXa0_3 : _ = some (Value.bool sa) := Xa_h3.cell 0; have KXa1_3 : _ = some (Value.slice a na ca) := Xa_h3.cell 1; have KXb0_3 : _ = some (Value.bool sb) := Xb_h3.cell 0; have KXb1_3 : _ = some (Value.slice b nb cb) := Xb_h3.cell 1; have KXc0_3 : _ = some (Value.bool sc) := Xc_h3.cell 0; have KXc1_3 : _ = some (Value.slice c nc cc) := Xc_h3.cell 1)))
      | (go_at_call 22; ((with_reducible refine (zsignG (show Rd _ c nc cc lc from Rc_68.below (by first | exact acc3 | exact (acc3).drew)) (show nc ≤ 4194304 by omega) HXc.out HE11.out).mono ?_); (rintro e w15 ⟨rfl, hB⟩; have hst4 : Below w14.heap.size w14 w15 := (by first | exact hB | exact below_drew hB); have acc4 := acc3.next hst4; have Xa_h4 := Xa_h3.next hst4; have Xb_h4 := Xb_h3.next hst4; have Xc_h4 := Xc_h3.next hst4; have KXa0_4 : _ = some (Value.bool sa) := Xa_h4.cell 0; have KXa1_4 : _ = some (Value.slice a na ca) := Xa_h4.cell 1; have KXb0_4 : _ = some (Value.bool sb) := Xb_h4.cell 0; have KXb1_4 : _ = some (Value.slice b nb cb) := Xb_h4.cell 1; have KXc0_4 : _ = some (Value.bool sc) := Xc_h4.cell 0; have KXc1_4 : _ = some (Value.slice c nc cc) := Xc_h4.cell 1))))
  clear cXa0_70 cXa1_70 cXb0_70 cXb1_70 cXc0_70 cXc1_70
  have hstep : Below w11.heap.size w11 w15 := (by first | exact acc4 | exact below_drew acc4)
  have Xa_71 := Xa_63.next hstep
  have Xb_72 := Xb_64.next hstep
  have Xc_73 := Xc_65.next hstep
  have Ra_74 := Ra_66.below hstep
  have Rb_75 := Rb_67.below hstep
  have Rc_76 := Rc_68.below hstep
  have Or2_77 := Or2_69.below hstep
  have hbel78 := hbel70.next hstep
  have hle78 := hbel78.size
  have hls78 := hstep.size
  clear Xa_63 Xb_64 Xc_65 Ra_66 Rb_67 Rc_68 Or2_69 hbel70 hstep
  have cXa0_78 : _ = some (Value.bool sa) := Xa_71.cell 0
  have cXa1_78 : _ = some (Value.slice a na ca) := Xa_71.cell 1
  have cXb0_78 : _ = some (Value.bool sb) := Xb_72.cell 0
  have cXb1_78 : _ = some (Value.slice b nb cb) := Xb_72.cell 1
  have cXc0_78 : _ = some (Value.bool sc) := Xc_73.cell 0
  have cXc1_78 : _ = some (Value.slice c nc cc) := Xc_73.cell 1
  clear acc0 acc1 acc2 acc3 acc4 hst1 hst2 hst3 hst4 KXa0_0 KXa1_0 KXb0_0 KXb1_0 KXc0_0 KXc1_0 KXa0_1 KXa1_1 KXb0_1 KXb1_1 KXc0_1 KXc1_1 KXa0_2 KXa1_2 KXb0_2 KXb1_2 KXc0_2 KXc1_2 KXa0_3 KXa1_3 KXb0_3 KXb1_3 KXc0_3 KXc1_3 KXa0_4 KXa1_4 KXb0_4 KXb1_4 KXc0_4 KXc1_4 Xa_h0 Xa_h1 Xa_h2 Xa_h3 Xa_h4 Xb_h0 Xb_h1 Xb_h2 Xb_h3 Xb_h4 Xc_h0 Xc_h1 Xc_h2 Xc_h3 Xc_h4
  clear hO1_1 hO1_2 hO2_2
  go_wp2
  go_ret
  exact ⟨rfl, hbel78⟩

end Go.Proofs.Ytflmdcmlhpifeaa
