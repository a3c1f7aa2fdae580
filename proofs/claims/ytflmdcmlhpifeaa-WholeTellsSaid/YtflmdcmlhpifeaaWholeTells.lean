/- THE WALK OF credencelaw02.WholeTells: which is greater, the sign, the int, the digits. -/
import Derived.Test.YtflmdcmlhpifeaaZg
namespace Go.Proofs.Ytflmdcmlhpifeaa
set_option linter.unusedVariables false
set_option linter.unusedSimpArgs false
open Go.ChangeShapes Go.WideShapes Go.ChangeAt Go.RowKit Go.NatP

set_option maxRecDepth 100000 in
set_option maxHeartbeats 4000000 in
theorem big_any {w : World} {a : Option Addr} {n c : Nat} {la : List Nat} (s : Bool) (ha : Rd w a n c la) (hn : n ≤ 9223372036854775807) :
    Calls Try.prog 16 #[.agg #[.bool s, .slice a n c]] w (fun e w' => e = .returned (.bool (decide (30 < n))) ∧ Below w.heap.size w w') := by
  have hent := ent1 w #[Value.bool s, Value.slice a n c] 25
  go_enter Try.func16, Try.ntmps16
  go_wp2_with fail
  generalize (w.alloc (.cells #[Value.bool s, Value.slice a n c] 25)) = W0 at hent ⊢
  obtain ⟨Xa_0, hbel, hsz⟩ := hent
  have Xa_0_0 : _ = some (Value.bool s) := Xa_0.cell 0
  have Xa_0_1 : _ = some (Value.slice a n c) := Xa_0.cell 1
  have HA := hid (fun W (h : Below W0.heap.size W0 W) => ha.below (hbel.next h))
  have hza := hid ha.szv
  clear ha
  go_ret
  exact ⟨by simp; omega, hbel⟩

set_option maxRecDepth 100000 in
set_option maxHeartbeats 4000000 in
theorem wholeTells_walk {w : World} {a b : Option Addr} {na ca nb cb : Nat} {la lb : List Nat} (s : Bool) (ha : Rd w a na ca la) (t : Bool) (hb : Rd w b nb cb lb) (k : Int) (hlo : -9223372036854775808 ≤ k) (hhi : k ≤ 9223372036854775807) :
    Calls Try.prog 4 #[.agg #[.bool s, .slice a na ca], .agg #[.bool t, .slice b nb cb], .int .i64 k] w fun e w' => e = .returned (.bool true) ∧ Below w.heap.size w w' := by
  have hba := ha.bnd
  have hbb := hb.bnd
  by_cases h1 : 30 < na
  · have d1 : decide (30 < na) = true := decide_eq_true h1
    have hent := ent2 w #[Value.bool s, Value.slice a na ca] #[Value.bool t, Value.slice b nb cb] 25 25
    go_enter Try.func4, Try.ntmps4
    go_wp2_with fail
    generalize ((w.alloc (.cells #[Value.bool s, Value.slice a na ca] 25)).alloc (.cells #[Value.bool t, Value.slice b nb cb] 25)) = W0 at hent ⊢
    obtain ⟨Xa_0, Xb_0, hbel0, hsz0⟩ := hent
    have Ra_1 := ha.below hbel0
    have Rb_2 := hb.below hbel0
    have cXa0_2 : _ = some (Value.bool s) := Xa_0.cell 0
    have cXa1_2 : _ = some (Value.slice a na ca) := Xa_0.cell 1
    have cXb0_2 : _ = some (Value.bool t) := Xb_0.cell 0
    have cXb1_2 : _ = some (Value.slice b nb cb) := Xb_0.cell 1
    go_wp2_with fail
    refine (big_any s Ra_1 (by omega)).mono ?_
    rw [d1]
    rintro e w1 ⟨rfl, hB⟩
    clear cXa0_2 cXa1_2 cXb0_2 cXb1_2
    have hstep : Below W0.heap.size W0 w1 := (by first | exact hB | exact below_drew hB)
    have Xa_3 := Xa_0.next hstep
    have Xb_4 := Xb_0.next hstep
    have Ra_5 := Ra_1.below hstep
    have Rb_6 := Rb_2.below hstep
    have hbel7 := hbel0.next hstep
    have hle7 := hbel7.size
    have hls7 := hstep.size
    clear Xa_0 Xb_0 Ra_1 Rb_2 hbel0 hstep
    have cXa0_7 : _ = some (Value.bool s) := Xa_3.cell 0
    have cXa1_7 : _ = some (Value.slice a na ca) := Xa_3.cell 1
    have cXb0_7 : _ = some (Value.bool t) := Xb_4.cell 0
    have cXb1_7 : _ = some (Value.slice b nb cb) := Xb_4.cell 1
    go_wp2
    go_ret
    exact ⟨rfl, hbel7⟩
  have d1 : decide (30 < na) = false := decide_eq_false h1
  by_cases h2 : 30 < nb
  · have d2 : decide (30 < nb) = true := decide_eq_true h2
    have hent := ent2 w #[Value.bool s, Value.slice a na ca] #[Value.bool t, Value.slice b nb cb] 25 25
    go_enter Try.func4, Try.ntmps4
    go_wp2_with fail
    generalize ((w.alloc (.cells #[Value.bool s, Value.slice a na ca] 25)).alloc (.cells #[Value.bool t, Value.slice b nb cb] 25)) = W0 at hent ⊢
    obtain ⟨Xa_0, Xb_0, hbel0, hsz0⟩ := hent
    have Ra_1 := ha.below hbel0
    have Rb_2 := hb.below hbel0
    have cXa0_2 : _ = some (Value.bool s) := Xa_0.cell 0
    have cXa1_2 : _ = some (Value.slice a na ca) := Xa_0.cell 1
    have cXb0_2 : _ = some (Value.bool t) := Xb_0.cell 0
    have cXb1_2 : _ = some (Value.slice b nb cb) := Xb_0.cell 1
    go_wp2_with fail
    refine (big_any s Ra_1 (by omega)).mono ?_
    rw [d1]
    rintro e w1 ⟨rfl, hB⟩
    clear cXa0_2 cXa1_2 cXb0_2 cXb1_2
    have hstep : Below W0.heap.size W0 w1 := (by first | exact hB | exact below_drew hB)
    have Xa_3 := Xa_0.next hstep
    have Xb_4 := Xb_0.next hstep
    have Ra_5 := Ra_1.below hstep
    have Rb_6 := Rb_2.below hstep
    have hbel7 := hbel0.next hstep
    have hle7 := hbel7.size
    have hls7 := hstep.size
    clear Xa_0 Xb_0 Ra_1 Rb_2 hbel0 hstep
    have cXa0_7 : _ = some (Value.bool s) := Xa_3.cell 0
    have cXa1_7 : _ = some (Value.slice a na ca) := Xa_3.cell 1
    have cXb0_7 : _ = some (Value.bool t) := Xb_4.cell 0
    have cXb1_7 : _ = some (Value.slice b nb cb) := Xb_4.cell 1
    go_wp2_with fail
    refine (big_any t Rb_6 (by omega)).mono ?_
    rw [d2]
    rintro e w2 ⟨rfl, hB⟩
    clear cXa0_7 cXa1_7 cXb0_7 cXb1_7
    have hstep : Below w1.heap.size w1 w2 := (by first | exact hB | exact below_drew hB)
    have Xa_8 := Xa_3.next hstep
    have Xb_9 := Xb_4.next hstep
    have Ra_10 := Ra_5.below hstep
    have Rb_11 := Rb_6.below hstep
    have hbel12 := hbel7.next hstep
    have hle12 := hbel12.size
    have hls12 := hstep.size
    clear Xa_3 Xb_4 Ra_5 Rb_6 hbel7 hstep
    have cXa0_12 : _ = some (Value.bool s) := Xa_8.cell 0
    have cXa1_12 : _ = some (Value.slice a na ca) := Xa_8.cell 1
    have cXb0_12 : _ = some (Value.bool t) := Xb_9.cell 0
    have cXb1_12 : _ = some (Value.slice b nb cb) := Xb_9.cell 1
    go_wp2
    go_ret
    exact ⟨rfl, hbel12⟩
  have d2 : decide (30 < nb) = false := decide_eq_false h2
  have hent := ent2 w #[Value.bool s, Value.slice a na ca] #[Value.bool t, Value.slice b nb cb] 25 25
  go_enter Try.func4, Try.ntmps4
  go_wp2_with fail
  generalize ((w.alloc (.cells #[Value.bool s, Value.slice a na ca] 25)).alloc (.cells #[Value.bool t, Value.slice b nb cb] 25)) = W0 at hent ⊢
  obtain ⟨Xa_0, Xb_0, hbel0, hsz0⟩ := hent
  have Ra_1 := ha.below hbel0
  have Rb_2 := hb.below hbel0
  have cXa0_2 : _ = some (Value.bool s) := Xa_0.cell 0
  have cXa1_2 : _ = some (Value.slice a na ca) := Xa_0.cell 1
  have cXb0_2 : _ = some (Value.bool t) := Xb_0.cell 0
  have cXb1_2 : _ = some (Value.slice b nb cb) := Xb_0.cell 1
  go_wp2_with fail
  refine (big_any s Ra_1 (by omega)).mono ?_
  rw [d1]
  rintro e w1 ⟨rfl, hB⟩
  clear cXa0_2 cXa1_2 cXb0_2 cXb1_2
  have hstep : Below W0.heap.size W0 w1 := (by first | exact hB | exact below_drew hB)
  have Xa_3 := Xa_0.next hstep
  have Xb_4 := Xb_0.next hstep
  have Ra_5 := Ra_1.below hstep
  have Rb_6 := Rb_2.below hstep
  have hbel7 := hbel0.next hstep
  have hle7 := hbel7.size
  have hls7 := hstep.size
  clear Xa_0 Xb_0 Ra_1 Rb_2 hbel0 hstep
  have cXa0_7 : _ = some (Value.bool s) := Xa_3.cell 0
  have cXa1_7 : _ = some (Value.slice a na ca) := Xa_3.cell 1
  have cXb0_7 : _ = some (Value.bool t) := Xb_4.cell 0
  have cXb1_7 : _ = some (Value.slice b nb cb) := Xb_4.cell 1
  go_wp2_with fail
  refine (big_any t Rb_6 (by omega)).mono ?_
  rw [d2]
  rintro e w2 ⟨rfl, hB⟩
  clear cXa0_7 cXa1_7 cXb0_7 cXb1_7
  have hstep : Below w1.heap.size w1 w2 := (by first | exact hB | exact below_drew hB)
  have Xa_8 := Xa_3.next hstep
  have Xb_9 := Xb_4.next hstep
  have Ra_10 := Ra_5.below hstep
  have Rb_11 := Rb_6.below hstep
  have hbel12 := hbel7.next hstep
  have hle12 := hbel12.size
  have hls12 := hstep.size
  clear Xa_3 Xb_4 Ra_5 Rb_6 hbel7 hstep
  have cXa0_12 : _ = some (Value.bool s) := Xa_8.cell 0
  have cXa1_12 : _ = some (Value.slice a na ca) := Xa_8.cell 1
  have cXb0_12 : _ = some (Value.bool t) := Xb_9.cell 0
  have cXb1_12 : _ = some (Value.slice b nb cb) := Xb_9.cell 1
  have hkV := hid (ivI_yes (z := k) ⟨hlo, hhi⟩)
  have hkI := hid (isI_yes (z := k) ⟨hlo, hhi⟩)
  go_wp2_with fail
  refine (zint_any s Ra_10 (by omega)).mono ?_
  rintro e w3 ⟨rfl, hB⟩
  clear cXa0_12 cXa1_12 cXb0_12 cXb1_12
  have hstep : Below w2.heap.size w2 w3 := (by first | exact hB | exact below_drew hB)
  have Xa_13 := Xa_8.next hstep
  have Xb_14 := Xb_9.next hstep
  have Ra_15 := Ra_10.below hstep
  have Rb_16 := Rb_11.below hstep
  have hbel17 := hbel12.next hstep
  have hle17 := hbel17.size
  have hls17 := hstep.size
  clear Xa_8 Xb_9 Ra_10 Rb_11 hbel12 hstep
  have cXa0_17 : _ = some (Value.bool s) := Xa_13.cell 0
  have cXa1_17 : _ = some (Value.slice a na ca) := Xa_13.cell 1
  have cXb0_17 : _ = some (Value.bool t) := Xb_14.cell 0
  have cXb1_17 : _ = some (Value.slice b nb cb) := Xb_14.cell 1
  go_wp2_with fail
  refine (rzint_any s Ra_15 (by omega)).mono ?_
  rintro e w4 ⟨rfl, hB⟩
  clear cXa0_17 cXa1_17 cXb0_17 cXb1_17
  have hstep : Below w3.heap.size w3 w4 := (by first | exact hB | exact below_drew hB)
  have Xa_18 := Xa_13.next hstep
  have Xb_19 := Xb_14.next hstep
  have Ra_20 := Ra_15.below hstep
  have Rb_21 := Rb_16.below hstep
  have hbel22 := hbel17.next hstep
  have hle22 := hbel22.size
  have hls22 := hstep.size
  clear Xa_13 Xb_14 Ra_15 Rb_16 hbel17 hstep
  have cXa0_22 : _ = some (Value.bool s) := Xa_18.cell 0
  have cXa1_22 : _ = some (Value.slice a na ca) := Xa_18.cell 1
  have cXb0_22 : _ = some (Value.bool t) := Xb_19.cell 0
  have cXb1_22 : _ = some (Value.slice b nb cb) := Xb_19.cell 1
  go_wp2_with fail
  refine (zofi_any k hlo hhi).mono ?_
  rintro e w5 ⟨q, qn, qc, rfl, hO, hB⟩
  clear cXa0_22 cXa1_22 cXb0_22 cXb1_22
  have hstep : Below w4.heap.size w4 w5 := (by first | exact hB | exact below_drew hB)
  have Xa_23 := Xa_18.next hstep
  have Xb_24 := Xb_19.next hstep
  have Ra_25 := Ra_20.below hstep
  have Rb_26 := Rb_21.below hstep
  have hbel27 := hbel22.next hstep
  have hle27 := hbel27.size
  have hls27 := hstep.size
  clear Xa_18 Xb_19 Ra_20 Rb_21 hbel22 hstep
  have cXa0_27 : _ = some (Value.bool s) := Xa_23.cell 0
  have cXa1_27 : _ = some (Value.slice a na ca) := Xa_23.cell 1
  have cXb0_27 : _ = some (Value.bool t) := Xb_24.cell 0
  have cXb1_27 : _ = some (Value.slice b nb cb) := Xb_24.cell 1
  have hqn : qn ≤ 2 := len_le (l := []) hO.len (show Sz k.natAbs 2 by show _ < _; omega)
  have Oq_28 := hO
  clear hO hB
  go_wp2_with fail
  refine (zint_any (decide (k < 0)) Oq_28.rd (by omega)).mono ?_
  rw [val_lm, zv_self]
  rintro e w6 ⟨rfl, hB⟩
  clear cXa0_27 cXa1_27 cXb0_27 cXb1_27
  have hstep : Below w5.heap.size w5 w6 := (by first | exact hB | exact below_drew hB)
  have Xa_29 := Xa_23.next hstep
  have Xb_30 := Xb_24.next hstep
  have Ra_31 := Ra_25.below hstep
  have Rb_32 := Rb_26.below hstep
  have Oq_33 := Oq_28.below hstep
  have hbel34 := hbel27.next hstep
  have hle34 := hbel34.size
  have hls34 := hstep.size
  clear Xa_23 Xb_24 Ra_25 Rb_26 Oq_28 hbel27 hstep
  have cXa0_34 : _ = some (Value.bool s) := Xa_29.cell 0
  have cXa1_34 : _ = some (Value.slice a na ca) := Xa_29.cell 1
  have cXb0_34 : _ = some (Value.bool t) := Xb_30.cell 0
  have cXb1_34 : _ = some (Value.slice b nb cb) := Xb_30.cell 1
  rw [hkI.out, hkV.out]
  go_wp2_with fail
  have KXa0_0 : _ = some (Value.bool s) := Xa_29.cell 0
  have KXa1_0 : _ = some (Value.slice a na ca) := Xa_29.cell 1
  have KXb0_0 : _ = some (Value.bool t) := Xb_30.cell 0
  have KXb1_0 : _ = some (Value.slice b nb cb) := Xb_30.cell 1
  have Xa_h0 := Xa_29
  have Xb_h0 := Xb_30
  have acc0 : Below w6.heap.size w6 w6 := Below.refl _ _
  go_region_held3 (fun w' => w'.cell? ⟨w.heap.size, 0, none⟩ = some (Value.bool s) ∧ w'.cell? ⟨w.heap.size, 1, none⟩ = some (Value.slice a na ca) ∧ w'.cell? ⟨w.heap.size + 1, 0, none⟩ = some (Value.bool t) ∧ w'.cell? ⟨w.heap.size + 1, 1, none⟩ = some (Value.slice b nb cb))
    (first | exact ⟨KXa0_0, KXa1_0, KXb0_0, KXb1_0⟩ | exact ⟨KXa0_1, KXa1_1, KXb0_1, KXb1_1⟩ | exact ⟨KXa0_2, KXa1_2, KXb0_2, KXb1_2⟩ | exact ⟨KXa0_3, KXa1_3, KXb0_3, KXb1_3⟩ | exact ⟨KXa0_4, KXa1_4, KXb0_4, KXb1_4⟩ | go_keep)
    (first
      | (go_at_call 20; ((with_reducible refine (zcmp_any s t (show Rd _ a na ca la from Ra_31.below (by first | exact acc0 | exact (acc0).drew)) (by omega) (show Rd _ b nb cb lb from Rb_32.below (by first | exact acc0 | exact (acc0).drew)) (by omega)).mono ?_); (rintro e w7 ⟨rfl, hB⟩; have hst1 : Below w6.heap.size w6 w7 := (by first | exact hB | exact below_drew hB); have acc1 := acc0.next hst1; have Xa_h1 := Xa_h0.next hst1; have Xb_h1 := Xb_h0.next hst1; have KXa0_1 : _ = some (Value.bool s) := Xa_h1.cell 0; have KXa1_1 : _ = some (Value.slice a na ca) := Xa_h1.cell 1; have KXb0_1 : _ = some (Value.bool t) := Xb_h1.cell 0; have KXb1_1 : _ = some (Value.slice b nb cb) := Xb_h1.cell 1)))
      | (go_at_call 21; ((with_reducible refine (rzcmp_any s t (show Rd _ a na ca la from Ra_31.below (by first | exact acc1 | exact (acc1).drew)) (by omega) (show Rd _ b nb cb lb from Rb_32.below (by first | exact acc1 | exact (acc1).drew)) (by omega)).mono ?_); (rintro e w8 ⟨rfl, hB⟩; have hst2 : Below w7.heap.size w7 w8 := (by first | exact hB | exact below_drew hB); have acc2 := acc1.next hst2; have Xa_h2 := Xa_h1.next hst2; have Xb_h2 := Xb_h1.next hst2; have KXa0_2 : _ = some (Value.bool s) := Xa_h2.cell 0; have KXa1_2 : _ = some (Value.slice a na ca) := Xa_h2.cell 1; have KXb0_2 : _ = some (Value.bool t) := Xb_h2.cell 0; have KXb1_2 : _ = some (Value.slice b nb cb) := Xb_h2.cell 1)))
      | (go_at_call 22; ((with_reducible refine (zsign_any s (show Rd _ a na ca la from Ra_31.below (by first | exact acc2 | exact (acc2).drew)) (by omega)).mono ?_); (rintro e w9 ⟨rfl, hB⟩; have hst3 : Below w8.heap.size w8 w9 := (by first | exact hB | exact below_drew hB); have acc3 := acc2.next hst3; have Xa_h3 := Xa_h2.next hst3; have Xb_h3 := Xb_h2.next hst3; have KXa0_3 : _ = some (Value.bool s) := Xa_h3.cell 0; have KXa1_3 : _ = some (Value.slice a na ca) := Xa_h3.cell 1; have KXb0_3 : _ = some (Value.bool t) := Xb_h3.cell 0; have KXb1_3 : _ = some (Value.slice b nb cb) := Xb_h3.cell 1)))
      | (go_at_call 23; ((with_reducible refine (rzsign_any s (show Rd _ a na ca la from Ra_31.below (by first | exact acc3 | exact (acc3).drew)) (by omega)).mono ?_); (rintro e w10 ⟨rfl, hB⟩; have hst4 : Below w9.heap.size w9 w10 := (by first | exact hB | exact below_drew hB); have acc4 := acc3.next hst4; have Xa_h4 := Xa_h3.next hst4; have Xb_h4 := Xb_h3.next hst4; have KXa0_4 : _ = some (Value.bool s) := Xa_h4.cell 0; have KXa1_4 : _ = some (Value.slice a na ca) := Xa_h4.cell 1; have KXb0_4 : _ = some (Value.bool t) := Xb_h4.cell 0; have KXb1_4 : _ = some (Value.slice b nb cb) := Xb_h4.cell 1))))
  clear cXa0_34 cXa1_34 cXb0_34 cXb1_34
  have hstep : Below w6.heap.size w6 w10 := (by first | exact acc4 | exact below_drew acc4)
  have Xa_35 := Xa_29.next hstep
  have Xb_36 := Xb_30.next hstep
  have Ra_37 := Ra_31.below hstep
  have Rb_38 := Rb_32.below hstep
  have Oq_39 := Oq_33.below hstep
  have hbel40 := hbel34.next hstep
  have hle40 := hbel40.size
  have hls40 := hstep.size
  clear Xa_29 Xb_30 Ra_31 Rb_32 Oq_33 hbel34 hstep
  have cXa0_40 : _ = some (Value.bool s) := Xa_35.cell 0
  have cXa1_40 : _ = some (Value.slice a na ca) := Xa_35.cell 1
  have cXb0_40 : _ = some (Value.bool t) := Xb_36.cell 0
  have cXb1_40 : _ = some (Value.slice b nb cb) := Xb_36.cell 1
  go_wp2_with fail
  have KXa0_0 : _ = some (Value.bool s) := Xa_35.cell 0
  have KXa1_0 : _ = some (Value.slice a na ca) := Xa_35.cell 1
  have KXb0_0 : _ = some (Value.bool t) := Xb_36.cell 0
  have KXb1_0 : _ = some (Value.slice b nb cb) := Xb_36.cell 1
  have Xa_h0 := Xa_35
  have Xb_h0 := Xb_36
  have acc0 : Below w10.heap.size w10 w10 := Below.refl _ _
  go_region_held3 (fun w' => w'.cell? ⟨w.heap.size, 0, none⟩ = some (Value.bool s) ∧ w'.cell? ⟨w.heap.size, 1, none⟩ = some (Value.slice a na ca) ∧ w'.cell? ⟨w.heap.size + 1, 0, none⟩ = some (Value.bool t) ∧ w'.cell? ⟨w.heap.size + 1, 1, none⟩ = some (Value.slice b nb cb))
    (first | exact ⟨KXa0_0, KXa1_0, KXb0_0, KXb1_0⟩ | exact ⟨KXa0_1, KXa1_1, KXb0_1, KXb1_1⟩ | exact ⟨KXa0_2, KXa1_2, KXb0_2, KXb1_2⟩ | exact ⟨KXa0_3, KXa1_3, KXb0_3, KXb1_3⟩ | exact ⟨KXa0_4, KXa1_4, KXb0_4, KXb1_4⟩ | exact ⟨KXa0_5, KXa1_5, KXb0_5, KXb1_5⟩ | go_keep)
    (first
      | (go_at_call 24; ((with_reducible refine (ztext_any s (show Rd _ a na ca la from Ra_37.below (by first | exact acc0 | exact (acc0).drew)) (by omega)).mono ?_); (rintro e w11 ⟨rfl, hB⟩; have hst1 : Below w10.heap.size w10 w11 := (by first | exact hB | exact below_drew hB); have acc1 := acc0.next hst1; have Xa_h1 := Xa_h0.next hst1; have Xb_h1 := Xb_h0.next hst1; have KXa0_1 : _ = some (Value.bool s) := Xa_h1.cell 0; have KXa1_1 : _ = some (Value.slice a na ca) := Xa_h1.cell 1; have KXb0_1 : _ = some (Value.bool t) := Xb_h1.cell 0; have KXb1_1 : _ = some (Value.slice b nb cb) := Xb_h1.cell 1)))
      | (go_at_call 25; ((with_reducible refine (rztext_any s (show Rd _ a na ca la from Ra_37.below (by first | exact acc1 | exact (acc1).drew)) (by omega)).mono ?_); (rintro e w12 ⟨rfl, hB⟩; have hst2 : Below w11.heap.size w11 w12 := (by first | exact hB | exact below_drew hB); have acc2 := acc1.next hst2; have Xa_h2 := Xa_h1.next hst2; have Xb_h2 := Xb_h1.next hst2; have KXa0_2 : _ = some (Value.bool s) := Xa_h2.cell 0; have KXa1_2 : _ = some (Value.slice a na ca) := Xa_h2.cell 1; have KXb0_2 : _ = some (Value.bool t) := Xb_h2.cell 0; have KXb1_2 : _ = some (Value.slice b nb cb) := Xb_h2.cell 1)))
      | (go_at_call 19; ((with_reducible refine (zofi_any k hlo hhi).mono ?_); (rintro e w13 ⟨qa, qan, qac, rfl, hO3, hB⟩; have hst3 : Below w12.heap.size w12 w13 := (by first | exact hB | exact below_drew hB); have acc3 := acc2.next hst3; have Xa_h3 := Xa_h2.next hst3; have Xb_h3 := Xb_h2.next hst3; have KXa0_3 : _ = some (Value.bool s) := Xa_h3.cell 0; have KXa1_3 : _ = some (Value.slice a na ca) := Xa_h3.cell 1; have KXb0_3 : _ = some (Value.bool t) := Xb_h3.cell 0; have KXb1_3 : _ = some (Value.slice b nb cb) := Xb_h3.cell 1)))
      | (go_at_call 26; ((with_reducible refine (rzofi_any k hlo hhi).mono ?_); (rintro e w14 ⟨qb, qbn, qbc, rfl, hO4, hB⟩; have hst4 : Below w13.heap.size w13 w14 := (by first | exact hB | exact below_drew hB); have acc4 := acc3.next hst4; have Xa_h4 := Xa_h3.next hst4; have Xb_h4 := Xb_h3.next hst4; have KXa0_4 : _ = some (Value.bool s) := Xa_h4.cell 0; have KXa1_4 : _ = some (Value.slice a na ca) := Xa_h4.cell 1; have KXb0_4 : _ = some (Value.bool t) := Xb_h4.cell 0; have KXb1_4 : _ = some (Value.slice b nb cb) := Xb_h4.cell 1; have hO3' := hO3.below hst4)))
      | (go_at_call 15; ((with_reducible refine (zsame_true (l := lm k.natAbs) (decide (k < 0)) hO3'.rd hO4.rd).mono ?_); (rintro e w15 ⟨rfl, hB⟩; have hst5 : Below w14.heap.size w14 w15 := (by first | exact hB | exact below_drew hB); have acc5 := acc4.next hst5; have Xa_h5 := Xa_h4.next hst5; have Xb_h5 := Xb_h4.next hst5; have KXa0_5 : _ = some (Value.bool s) := Xa_h5.cell 0; have KXa1_5 : _ = some (Value.slice a na ca) := Xa_h5.cell 1; have KXb0_5 : _ = some (Value.bool t) := Xb_h5.cell 0; have KXb1_5 : _ = some (Value.slice b nb cb) := Xb_h5.cell 1))))
  clear cXa0_40 cXa1_40 cXb0_40 cXb1_40
  have hstep : Below w10.heap.size w10 w15 := (by first | exact acc5 | exact below_drew acc5)
  have Xa_41 := Xa_35.next hstep
  have Xb_42 := Xb_36.next hstep
  have Ra_43 := Ra_37.below hstep
  have Rb_44 := Rb_38.below hstep
  have Oq_45 := Oq_39.below hstep
  have hbel46 := hbel40.next hstep
  have hle46 := hbel46.size
  have hls46 := hstep.size
  clear Xa_35 Xb_36 Ra_37 Rb_38 Oq_39 hbel40 hstep
  have cXa0_46 : _ = some (Value.bool s) := Xa_41.cell 0
  have cXa1_46 : _ = some (Value.slice a na ca) := Xa_41.cell 1
  have cXb0_46 : _ = some (Value.bool t) := Xb_42.cell 0
  have cXb1_46 : _ = some (Value.slice b nb cb) := Xb_42.cell 1
  go_wp2
  go_ret
  exact ⟨rfl, hbel46⟩

end Go.Proofs.Ytflmdcmlhpifeaa
