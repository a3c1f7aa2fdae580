/- WALKS OF WHOLE NUMBERS, 12: the statements' own equal, size, big. -/
import Derived.Test.YtflmdcmlhpifeaaZg
import Derived.Test.YtflmdcmlhpifeaaZi
import Derived.Test.YtflmdcmlhpifeaaZk
namespace Go.Proofs.Ytflmdcmlhpifeaa
set_option linter.unusedVariables false
set_option linter.unusedSimpArgs false
open Go.ChangeShapes Go.WideShapes Go.ChangeAt Go.RowKit Go.NatP

set_option maxRecDepth 100000 in
set_option maxHeartbeats 4000000 in
theorem big_any {w : World} {a : Option Addr} {n c : Nat} {la : List Nat} (s : Bool) (ha : Rd w a n c la) (hn : n ≤ 9223372036854775807) :
    Calls Try.prog 16 #[.agg #[.bool s, .slice a n c]] w (fun e w' => e = .returned (.bool (decide (30 < n))) ∧ Below w.heap.size w w') := by
  have hent := ent1 w #[Value.bool s, Value.slice a n c] 25
  go_enter Try.func16, Try.ntmps16
  go_wp2_with fail
  generalize (w.alloc (.cells #[Value.bool s, Value.slice a n c] 25)) = W0 at hent ⊢
  obtain ⟨Xa_0, hbel, hsz⟩ := hent
  have Xa_0_0 : _ = some (Value.bool s) := Xa_0.cell 0
  have Xa_0_1 : _ = some (Value.slice a n c) := Xa_0.cell 1
  have HA := hid (fun W (h : Below W0.heap.size W0 W) => ha.below (hbel.next h))
  have hza := hid ha.szv
  clear ha
  go_ret
  exact ⟨by simp; omega, hbel⟩

set_option maxRecDepth 100000 in
set_option maxHeartbeats 4000000 in
theorem zequal_any {w : World} {a : Option Addr} {n c : Nat} {la : List Nat} {b : Option Addr} {m d : Nat} {lb : List Nat} (s t : Bool) (ha : Rd w a n c la) (hn : n ≤ 4194304) (hb : Rd w b m d lb) (hm : m ≤ 4194304) :
    Calls Try.prog 30 #[.agg #[.bool s, .slice a n c], .agg #[.bool t, .slice b m d]] w (fun e w' => e = .returned (.bool (decide (zv s (val la) = zv t (val lb)))) ∧ Below w.heap.size w w') := by
  have hc := cmpZ_cases (zv s (val la)) (zv t (val lb))
  have hE : decide (cmpZ (zv s (val la)) (zv t (val lb)) = 0) = decide (zv s (val la) = zv t (val lb)) := by rw [decide_eq_decide]; omega
  clear hc
  have hent := ent2 w #[Value.bool s, Value.slice a n c] #[Value.bool t, Value.slice b m d] 25 25
  go_enter Try.func30, Try.ntmps30
  go_wp2_with fail
  generalize ((w.alloc (.cells #[Value.bool s, Value.slice a n c] 25)).alloc (.cells #[Value.bool t, Value.slice b m d] 25)) = W0 at hent ⊢
  obtain ⟨Xa_0, Xb_0, hbel, hsz⟩ := hent
  have Xa_0_0 : _ = some (Value.bool s) := Xa_0.cell 0
  have Xa_0_1 : _ = some (Value.slice a n c) := Xa_0.cell 1
  have Xb_0_0 : _ = some (Value.bool t) := Xb_0.cell 0
  have Xb_0_1 : _ = some (Value.slice b m d) := Xb_0.cell 1
  have HA := hid (fun W (h : Below W0.heap.size W0 W) => ha.below (hbel.next h))
  have hza := hid ha.szv
  have HB := hid (fun W (h : Below W0.heap.size W0 W) => hb.below (hbel.next h))
  have hzb := hid hb.szv
  clear ha hb
  go_wp2_with fail
  refine (zcmp_any s t (HA.out _ (Below.refl _ _)) (by omega) (HB.out _ (Below.refl _ _)) (by omega)).mono ?_
  rintro e w1 ⟨rfl, hB⟩
  have hB1 : Below W0.heap.size W0 w1 := (by first | exact hB | exact below_drew hB)
  have Xa_1 := Xa_0.next hB1
  have Xa_1_0 : _ = some (Value.bool s) := Xa_1.cell 0
  have Xa_1_1 : _ = some (Value.slice a n c) := Xa_1.cell 1
  have Xb_1 := Xb_0.next hB1
  have Xb_1_0 : _ = some (Value.bool t) := Xb_1.cell 0
  have Xb_1_1 : _ = some (Value.slice b m d) := Xb_1.cell 1
  have hbel1 := hbel.next hB1
  have hsz1 := hB1.size
  generalize cmpZ (zv s (val la)) (zv t (val lb)) = z at *
  go_wp2
  go_ret
  refine ⟨?_, hbel1⟩
  rw [← hE]; by_cases hz : z = 0 <;> simp [hz]

set_option maxRecDepth 100000 in
set_option maxHeartbeats 4000000 in
theorem zsize_any {w : World} {a : Option Addr} {n c : Nat} {la : List Nat} (s : Bool) (ha : Rd w a n c la) (hn : n ≤ 9223372036854775807) :
    Calls Try.prog 36 #[.agg #[.bool s, .slice a n c]] w (fun e w' => e = .returned (.agg #[.bool false, .slice a n c]) ∧ Below w.heap.size w w') := by
  have hent := ent2 w #[Value.bool s, Value.slice a n c] #[Value.bool false, Value.slice a n c] 25 25
  go_enter Try.func36, Try.ntmps36
  go_wp2
  generalize ((w.alloc (.cells #[Value.bool s, Value.slice a n c] 25)).alloc (.cells #[Value.bool false, Value.slice a n c] 25)) = W0 at hent ⊢
  obtain ⟨Xa_0, R0_0, hbel, hsz⟩ := hent
  have h0 : _ = some (Value.bool false) := R0_0.cell 0
  have h1 : _ = some (Value.slice a n c) := R0_0.cell 1
  refine bodyPost_ret (v := .agg #[.bool false, .slice a n c]) (by simp [results, Try.results36, go_sem, h0, h1]) rfl ?_
  exact ⟨rfl, hbel⟩


end Go.Proofs.Ytflmdcmlhpifeaa
/- WALKS OF WHOLE NUMBERS, 13: a few numbers are reckoned with. -/
namespace Go.Proofs.Ytflmdcmlhpifeaa
set_option linter.unusedVariables false
set_option linter.unusedSimpArgs false
open Go.ChangeShapes Go.WideShapes Go.ChangeAt Go.RowKit Go.NatP

theorem bz_x240 : bzX 240 46 1 0 = -9 := by
  rw [bzX_step (by decide), bzX_step (by decide), bzX_step (by decide), bzX_step (by decide), bzX_step (by decide), bzX_end (by decide)]; decide
theorem bz_y240 : bzX 240 46 0 1 = 47 := by
  rw [bzX_step (by decide), bzX_step (by decide), bzX_step (by decide), bzX_step (by decide), bzX_step (by decide), bzX_end (by decide)]; decide
theorem floor72 {w : World} {a : Option Addr} {n c : Nat} {b : Option Addr} {m d : Nat} (ha : Rd w a n c (lm (Int.natAbs (-7)))) (hn : n ≤ 4194304) (hb : Rd w b m d (lm (Int.natAbs 2))) (hm : m ≤ 4194304) :
    Calls Try.prog 35 #[.agg #[.bool true, .slice a n c], .agg #[.bool false, .slice b m d]] w (RetZZ w (-4) 1 0) := by
  have h := zfloor_any true false ha hn hb hm
  simp only [val_lm] at h
  exact h
theorem bez240 {w : World} {a : Option Addr} {n c : Nat} {b : Option Addr} {m d : Nat} (ha : Rd w a n c (lm (Int.natAbs 240))) (hn : n ≤ 4194304) (hb : Rd w b m d (lm (Int.natAbs (-46)))) (hm : m ≤ 4194304) :
    Calls Try.prog 37 #[.agg #[.bool false, .slice a n c], .agg #[.bool true, .slice b m d]] w (RetBz w 2 (-9) (-47)) := by
  have h := zbez_any false true ha hn hb hm
  simp only [val_lm] at h
  rw [show Nat.gcd (Int.natAbs 240) (Int.natAbs (-46)) = 2 from by decide, show bzX (Int.natAbs 240) (Int.natAbs (-46)) 1 0 = -9 from bz_x240, show bzX (Int.natAbs 240) (Int.natAbs (-46)) 0 1 = 47 from bz_y240] at h
  exact h

set_option maxRecDepth 100000 in
set_option maxHeartbeats 4000000 in
theorem alive_any {w : World} : Calls Try.prog 29 #[] w fun e w' => e = .returned (.bool true) ∧ Below w.heap.size w w' := by
  go_enter Try.func29, Try.ntmps29
  go_wp2_with fail
  refine (zofi_any (-7) (by omega) (by omega)).mono ?_
  rintro e w1 ⟨a, an, ac, rfl, hO, hB⟩
  have hstep : Below w.heap.size w w1 := (by first | exact hB | exact below_drew hB)
  have hbel1 := (Below.refl w.heap.size w).next hstep
  have hle1 := hbel1.size
  have hls1 := hstep.size
  clear hstep
  have hna : an ≤ 20 := by have := hO.len; rw [show (lm (Int.natAbs (-7))).length = 1 from by decide +kernel] at this; omega
  have Oa_2 := hO
  clear hO hB
  go_wp2_with fail
  refine (zofi_any (2) (by omega) (by omega)).mono ?_
  rintro e w2 ⟨b, bn, bc, rfl, hO, hB⟩
  have hstep : Below w1.heap.size w1 w2 := (by first | exact hB | exact below_drew hB)
  have Oa_3 := Oa_2.below hstep
  have hbel4 := hbel1.next hstep
  have hle4 := hbel4.size
  have hls4 := hstep.size
  clear Oa_2 hbel1 hstep
  have hnb : bn ≤ 20 := by have := hO.len; rw [show (lm (Int.natAbs (2))).length = 1 from by decide +kernel] at this; omega
  have Ob_5 := hO
  clear hO hB
  go_wp2_with fail
  refine (floor72 Oa_3.rd (by omega) Ob_5.rd (by omega)).mono ?_
  rintro e w3 ⟨q, qn, qc, r, rn, rc, rfl, hO, hO2, hD, hB⟩
  have hstep : Below w2.heap.size w2 w3 := (by first | exact hB | exact below_drew hB)
  have Oa_6 := Oa_3.below hstep
  have Ob_7 := Ob_5.below hstep
  have hbel8 := hbel4.next hstep
  have hle8 := hbel8.size
  have hls8 := hstep.size
  clear Oa_3 Ob_5 hbel4 hstep
  have hnq : qn ≤ 20 := by have := hO.len; rw [show (lm (Int.natAbs (-4))).length = 1 from by decide +kernel] at this; omega
  have hnr : rn ≤ 20 := by have := hO2.len; rw [show (lm (Int.natAbs 1)).length = 1 from by decide +kernel] at this; omega
  have Oq_9 := hO
  have Or_10 := hO2
  clear hO hO2 hB hD
  have hbx := blk_new' w3 #[Value.bool true, Value.slice q qn qc] 25 (g := w3.heap.size) (by simp)
  have hbB := (Below.refl w3.heap.size w3).alloc (Nat.le_refl _) (.cells #[Value.bool true, Value.slice q qn qc] 25)
  have hbg := hbx.lt
  have hstep : Below w3.heap.size w3 (w3.alloc (.cells #[Value.bool true, Value.slice q qn qc] 25)) := (by first | exact hbB | exact below_drew hbB)
  have Oa_11 := Oa_6.below hstep
  have Ob_12 := Ob_7.below hstep
  have Oq_13 := Oq_9.below hstep
  have Or_14 := Or_10.below hstep
  have hbel15 := hbel8.next hstep
  have hle15 := hbel15.size
  have hls15 := hstep.size
  clear Oa_6 Ob_7 Oq_9 Or_10 hbel8 hstep
  have Xq_16 := hbx
  have cXq0_16 : _ = some (Value.bool true) := Xq_16.cell 0
  have cXq1_16 : _ = some (Value.slice q qn qc) := Xq_16.cell 1
  clear hbx hbB
  have hbx := blk_new' (w3.alloc (.cells #[Value.bool true, Value.slice q qn qc] 25)) #[Value.bool false, Value.slice r rn rc] 25 (g := w3.heap.size + 1) (by simp)
  have hbB := (Below.refl (w3.alloc (.cells #[Value.bool true, Value.slice q qn qc] 25)).heap.size (w3.alloc (.cells #[Value.bool true, Value.slice q qn qc] 25))).alloc (Nat.le_refl _) (.cells #[Value.bool false, Value.slice r rn rc] 25)
  have hbg := hbx.lt
  clear cXq0_16 cXq1_16
  have hstep : Below (w3.alloc (.cells #[Value.bool true, Value.slice q qn qc] 25)).heap.size (w3.alloc (.cells #[Value.bool true, Value.slice q qn qc] 25)) ((w3.alloc (.cells #[Value.bool true, Value.slice q qn qc] 25)).alloc (.cells #[Value.bool false, Value.slice r rn rc] 25)) := (by first | exact hbB | exact below_drew hbB)
  have Xq_17 := Xq_16.next hstep
  have Oa_18 := Oa_11.below hstep
  have Ob_19 := Ob_12.below hstep
  have Oq_20 := Oq_13.below hstep
  have Or_21 := Or_14.below hstep
  have hbel22 := hbel15.next hstep
  have hle22 := hbel22.size
  have hls22 := hstep.size
  clear Xq_16 Oa_11 Ob_12 Oq_13 Or_14 hbel15 hstep
  have cXq0_22 : _ = some (Value.bool true) := Xq_17.cell 0
  have cXq1_22 : _ = some (Value.slice q qn qc) := Xq_17.cell 1
  have Xr_23 := hbx
  have cXr0_23 : _ = some (Value.bool false) := Xr_23.cell 0
  have cXr1_23 : _ = some (Value.slice r rn rc) := Xr_23.cell 1
  clear hbx hbB
  go_wp2_with fail
  generalize ((w3.alloc (.cells #[Value.bool true, Value.slice q qn qc] 25)).alloc (.cells #[Value.bool false, Value.slice r rn rc] 25)) = v4 at *
  go_wp2_with fail
  refine (zofi_any (240) (by omega) (by omega)).mono ?_
  rintro e w6 ⟨d, dn, dc, rfl, hO, hB⟩
  clear cXq0_22 cXq1_22 cXr0_23 cXr1_23
  have hstep : Below v4.heap.size v4 w6 := (by first | exact hB | exact below_drew hB)
  have Xq_24 := Xq_17.next hstep
  have Xr_25 := Xr_23.next hstep
  have Oa_26 := Oa_18.below hstep
  have Ob_27 := Ob_19.below hstep
  have Oq_28 := Oq_20.below hstep
  have Or_29 := Or_21.below hstep
  have hbel30 := hbel22.next hstep
  have hle30 := hbel30.size
  have hls30 := hstep.size
  clear Xq_17 Xr_23 Oa_18 Ob_19 Oq_20 Or_21 hbel22 hstep
  have cXq0_30 : _ = some (Value.bool true) := Xq_24.cell 0
  have cXq1_30 : _ = some (Value.slice q qn qc) := Xq_24.cell 1
  have cXr0_30 : _ = some (Value.bool false) := Xr_25.cell 0
  have cXr1_30 : _ = some (Value.slice r rn rc) := Xr_25.cell 1
  have hnd : dn ≤ 20 := by have := hO.len; rw [show (lm (Int.natAbs (240))).length = 1 from by decide +kernel] at this; omega
  have Od_31 := hO
  clear hO hB
  go_wp2_with fail
  refine (zofi_any (-46) (by omega) (by omega)).mono ?_
  rintro e w7 ⟨e', e'n, e'c, rfl, hO, hB⟩
  clear cXq0_30 cXq1_30 cXr0_30 cXr1_30
  have hstep : Below w6.heap.size w6 w7 := (by first | exact hB | exact below_drew hB)
  have Xq_32 := Xq_24.next hstep
  have Xr_33 := Xr_25.next hstep
  have Oa_34 := Oa_26.below hstep
  have Ob_35 := Ob_27.below hstep
  have Oq_36 := Oq_28.below hstep
  have Or_37 := Or_29.below hstep
  have Od_38 := Od_31.below hstep
  have hbel39 := hbel30.next hstep
  have hle39 := hbel39.size
  have hls39 := hstep.size
  clear Xq_24 Xr_25 Oa_26 Ob_27 Oq_28 Or_29 Od_31 hbel30 hstep
  have cXq0_39 : _ = some (Value.bool true) := Xq_32.cell 0
  have cXq1_39 : _ = some (Value.slice q qn qc) := Xq_32.cell 1
  have cXr0_39 : _ = some (Value.bool false) := Xr_33.cell 0
  have cXr1_39 : _ = some (Value.slice r rn rc) := Xr_33.cell 1
  have hne' : e'n ≤ 20 := by have := hO.len; rw [show (lm (Int.natAbs (-46))).length = 1 from by decide +kernel] at this; omega
  have Oe'_40 := hO
  clear hO hB
  go_wp2_with fail
  refine (bez240 Od_38.rd (by omega) Oe'_40.rd (by omega)).mono ?_
  rintro e w8 ⟨g, gn, gc, x, xn, xc, y, yn, yc, rfl, hO, hO2, hO3, hD1, hD2, hD3, hB⟩
  clear cXq0_39 cXq1_39 cXr0_39 cXr1_39
  have hstep : Below w7.heap.size w7 w8 := (by first | exact hB | exact below_drew hB)
  have Xq_41 := Xq_32.next hstep
  have Xr_42 := Xr_33.next hstep
  have Oa_43 := Oa_34.below hstep
  have Ob_44 := Ob_35.below hstep
  have Oq_45 := Oq_36.below hstep
  have Or_46 := Or_37.below hstep
  have Od_47 := Od_38.below hstep
  have Oe'_48 := Oe'_40.below hstep
  have hbel49 := hbel39.next hstep
  have hle49 := hbel49.size
  have hls49 := hstep.size
  clear Xq_32 Xr_33 Oa_34 Ob_35 Oq_36 Or_37 Od_38 Oe'_40 hbel39 hstep
  have cXq0_49 : _ = some (Value.bool true) := Xq_41.cell 0
  have cXq1_49 : _ = some (Value.slice q qn qc) := Xq_41.cell 1
  have cXr0_49 : _ = some (Value.bool false) := Xr_42.cell 0
  have cXr1_49 : _ = some (Value.slice r rn rc) := Xr_42.cell 1
  have hng : gn ≤ 20 := by have := hO.len; rw [show (lm (2)).length = 1 from by decide +kernel] at this; omega
  have hnx : xn ≤ 20 := by have := hO2.len; rw [show (lm (Int.natAbs (-9))).length = 1 from by decide +kernel] at this; omega
  have hny : yn ≤ 20 := by have := hO3.len; rw [show (lm (Int.natAbs (-47))).length = 1 from by decide +kernel] at this; omega
  have Og_50 := hO
  have Ox_51 := hO2
  have Oy_52 := hO3
  clear hO hO2 hO3 hB hD1 hD2 hD3
  have hbx := blk_new' w8 #[Value.bool true, Value.slice x xn xc] 25 (g := w8.heap.size) (by simp)
  have hbB := (Below.refl w8.heap.size w8).alloc (Nat.le_refl _) (.cells #[Value.bool true, Value.slice x xn xc] 25)
  have hbg := hbx.lt
  clear cXq0_49 cXq1_49 cXr0_49 cXr1_49
  have hstep : Below w8.heap.size w8 (w8.alloc (.cells #[Value.bool true, Value.slice x xn xc] 25)) := (by first | exact hbB | exact below_drew hbB)
  have Xq_53 := Xq_41.next hstep
  have Xr_54 := Xr_42.next hstep
  have Oa_55 := Oa_43.below hstep
  have Ob_56 := Ob_44.below hstep
  have Oq_57 := Oq_45.below hstep
  have Or_58 := Or_46.below hstep
  have Od_59 := Od_47.below hstep
  have Oe'_60 := Oe'_48.below hstep
  have Og_61 := Og_50.below hstep
  have Ox_62 := Ox_51.below hstep
  have Oy_63 := Oy_52.below hstep
  have hbel64 := hbel49.next hstep
  have hle64 := hbel64.size
  have hls64 := hstep.size
  clear Xq_41 Xr_42 Oa_43 Ob_44 Oq_45 Or_46 Od_47 Oe'_48 Og_50 Ox_51 Oy_52 hbel49 hstep
  have cXq0_64 : _ = some (Value.bool true) := Xq_53.cell 0
  have cXq1_64 : _ = some (Value.slice q qn qc) := Xq_53.cell 1
  have cXr0_64 : _ = some (Value.bool false) := Xr_54.cell 0
  have cXr1_64 : _ = some (Value.slice r rn rc) := Xr_54.cell 1
  have Xx_65 := hbx
  have cXx0_65 : _ = some (Value.bool true) := Xx_65.cell 0
  have cXx1_65 : _ = some (Value.slice x xn xc) := Xx_65.cell 1
  clear hbx hbB
  have hbx := blk_new' (w8.alloc (.cells #[Value.bool true, Value.slice x xn xc] 25)) #[Value.bool true, Value.slice y yn yc] 25 (g := w8.heap.size + 1) (by simp)
  have hbB := (Below.refl (w8.alloc (.cells #[Value.bool true, Value.slice x xn xc] 25)).heap.size (w8.alloc (.cells #[Value.bool true, Value.slice x xn xc] 25))).alloc (Nat.le_refl _) (.cells #[Value.bool true, Value.slice y yn yc] 25)
  have hbg := hbx.lt
  clear cXq0_64 cXq1_64 cXr0_64 cXr1_64 cXx0_65 cXx1_65
  have hstep : Below (w8.alloc (.cells #[Value.bool true, Value.slice x xn xc] 25)).heap.size (w8.alloc (.cells #[Value.bool true, Value.slice x xn xc] 25)) ((w8.alloc (.cells #[Value.bool true, Value.slice x xn xc] 25)).alloc (.cells #[Value.bool true, Value.slice y yn yc] 25)) := (by first | exact hbB | exact below_drew hbB)
  have Xq_66 := Xq_53.next hstep
  have Xr_67 := Xr_54.next hstep
  have Xx_68 := Xx_65.next hstep
  have Oa_69 := Oa_55.below hstep
  have Ob_70 := Ob_56.below hstep
  have Oq_71 := Oq_57.below hstep
  have Or_72 := Or_58.below hstep
  have Od_73 := Od_59.below hstep
  have Oe'_74 := Oe'_60.below hstep
  have Og_75 := Og_61.below hstep
  have Ox_76 := Ox_62.below hstep
  have Oy_77 := Oy_63.below hstep
  have hbel78 := hbel64.next hstep
  have hle78 := hbel78.size
  have hls78 := hstep.size
  clear Xq_53 Xr_54 Xx_65 Oa_55 Ob_56 Oq_57 Or_58 Od_59 Oe'_60 Og_61 Ox_62 Oy_63 hbel64 hstep
  have cXq0_78 : _ = some (Value.bool true) := Xq_66.cell 0
  have cXq1_78 : _ = some (Value.slice q qn qc) := Xq_66.cell 1
  have cXr0_78 : _ = some (Value.bool false) := Xr_67.cell 0
  have cXr1_78 : _ = some (Value.slice r rn rc) := Xr_67.cell 1
  have cXx0_78 : _ = some (Value.bool true) := Xx_68.cell 0
  have cXx1_78 : _ = some (Value.slice x xn xc) := Xx_68.cell 1
  have Xy_79 := hbx
  have cXy0_79 : _ = some (Value.bool true) := Xy_79.cell 0
  have cXy1_79 : _ = some (Value.slice y yn yc) := Xy_79.cell 1
  clear hbx hbB
  go_wp2_with fail
  generalize ((w8.alloc (.cells #[Value.bool true, Value.slice x xn xc] 25)).alloc (.cells #[Value.bool true, Value.slice y yn yc] 25)) = v9 at *
  go_wp2_with fail
  refine (zparse_any ⟨#[45, 49, 48, 48, 48, 48, 48, 48, 48, 48, 48, 48, 48, 48, 48, 48, 48, 48, 48, 48, 48, 48]⟩ (by decide)).mono ?_
  rw [show pzZ ⟨#[45, 49, 48, 48, 48, 48, 48, 48, 48, 48, 48, 48, 48, 48, 48, 48, 48, 48, 48, 48, 48, 48]⟩ = -100000000000000000000 from by decide +kernel, show pzE ⟨#[45, 49, 48, 48, 48, 48, 48, 48, 48, 48, 48, 48, 48, 48, 48, 48, 48, 48, 48, 48, 48, 48]⟩ = 0 from by decide +kernel]
  rintro e w11 ⟨k, kn, kc, rfl, hO, hB⟩
  clear cXq0_78 cXq1_78 cXr0_78 cXr1_78 cXx0_78 cXx1_78 cXy0_79 cXy1_79
  have hstep : Below v9.heap.size v9 w11 := (by first | exact hB | exact below_drew hB)
  have Xq_80 := Xq_66.next hstep
  have Xr_81 := Xr_67.next hstep
  have Xx_82 := Xx_68.next hstep
  have Xy_83 := Xy_79.next hstep
  have Oa_84 := Oa_69.below hstep
  have Ob_85 := Ob_70.below hstep
  have Oq_86 := Oq_71.below hstep
  have Or_87 := Or_72.below hstep
  have Od_88 := Od_73.below hstep
  have Oe'_89 := Oe'_74.below hstep
  have Og_90 := Og_75.below hstep
  have Ox_91 := Ox_76.below hstep
  have Oy_92 := Oy_77.below hstep
  have hbel93 := hbel78.next hstep
  have hle93 := hbel93.size
  have hls93 := hstep.size
  clear Xq_66 Xr_67 Xx_68 Xy_79 Oa_69 Ob_70 Oq_71 Or_72 Od_73 Oe'_74 Og_75 Ox_76 Oy_77 hbel78 hstep
  have cXq0_93 : _ = some (Value.bool true) := Xq_80.cell 0
  have cXq1_93 : _ = some (Value.slice q qn qc) := Xq_80.cell 1
  have cXr0_93 : _ = some (Value.bool false) := Xr_81.cell 0
  have cXr1_93 : _ = some (Value.slice r rn rc) := Xr_81.cell 1
  have cXx0_93 : _ = some (Value.bool true) := Xx_82.cell 0
  have cXx1_93 : _ = some (Value.slice x xn xc) := Xx_82.cell 1
  have cXy0_93 : _ = some (Value.bool true) := Xy_83.cell 0
  have cXy1_93 : _ = some (Value.slice y yn yc) := Xy_83.cell 1
  have hnk : kn ≤ 20 := by have := hO.len; rw [show (lm (Int.natAbs (-100000000000000000000))).length = 3 from by decide +kernel] at this; omega
  have Ok_94 := hO
  clear hO hB
  have hbx := blk_new w11 #[Value.bool true, Value.slice k kn kc] 25
  have hbB := (Below.refl w11.heap.size w11).alloc (Nat.le_refl _) (.cells #[Value.bool true, Value.slice k kn kc] 25)
  have hbg := hbx.lt
  clear cXq0_93 cXq1_93 cXr0_93 cXr1_93 cXx0_93 cXx1_93 cXy0_93 cXy1_93
  have hstep : Below w11.heap.size w11 (w11.alloc (.cells #[Value.bool true, Value.slice k kn kc] 25)) := (by first | exact hbB | exact below_drew hbB)
  have Xq_95 := Xq_80.next hstep
  have Xr_96 := Xr_81.next hstep
  have Xx_97 := Xx_82.next hstep
  have Xy_98 := Xy_83.next hstep
  have Oa_99 := Oa_84.below hstep
  have Ob_100 := Ob_85.below hstep
  have Oq_101 := Oq_86.below hstep
  have Or_102 := Or_87.below hstep
  have Od_103 := Od_88.below hstep
  have Oe'_104 := Oe'_89.below hstep
  have Og_105 := Og_90.below hstep
  have Ox_106 := Ox_91.below hstep
  have Oy_107 := Oy_92.below hstep
  have Ok_108 := Ok_94.below hstep
  have hbel109 := hbel93.next hstep
  have hle109 := hbel109.size
  have hls109 := hstep.size
  clear Xq_80 Xr_81 Xx_82 Xy_83 Oa_84 Ob_85 Oq_86 Or_87 Od_88 Oe'_89 Og_90 Ox_91 Oy_92 Ok_94 hbel93 hstep
  have cXq0_109 : _ = some (Value.bool true) := Xq_95.cell 0
  have cXq1_109 : _ = some (Value.slice q qn qc) := Xq_95.cell 1
  have cXr0_109 : _ = some (Value.bool false) := Xr_96.cell 0
  have cXr1_109 : _ = some (Value.slice r rn rc) := Xr_96.cell 1
  have cXx0_109 : _ = some (Value.bool true) := Xx_97.cell 0
  have cXx1_109 : _ = some (Value.slice x xn xc) := Xx_97.cell 1
  have cXy0_109 : _ = some (Value.bool true) := Xy_98.cell 0
  have cXy1_109 : _ = some (Value.slice y yn yc) := Xy_98.cell 1
  have Xk_110 := hbx
  have cXk0_110 : _ = some (Value.bool true) := Xk_110.cell 0
  have cXk1_110 : _ = some (Value.slice k kn kc) := Xk_110.cell 1
  clear hbx hbB
  go_wp2_with fail
  generalize (w11.alloc (.cells #[Value.bool true, Value.slice k kn kc] 25)) = v12 at *
  go_wp2_with fail
  refine (ztext_any true Oq_101.rd (by omega)).mono ?_
  rw [show ztx (zv true (val (lm (Int.natAbs (-4))))) = ⟨#[45, 52]⟩ from by decide +kernel]
  rintro e w13 ⟨rfl, hB⟩
  clear cXq0_109 cXq1_109 cXr0_109 cXr1_109 cXx0_109 cXx1_109 cXy0_109 cXy1_109 cXk0_110 cXk1_110
  have hstep : Below v12.heap.size v12 w13 := (by first | exact hB | exact below_drew hB)
  have Xq_111 := Xq_95.next hstep
  have Xr_112 := Xr_96.next hstep
  have Xx_113 := Xx_97.next hstep
  have Xy_114 := Xy_98.next hstep
  have Xk_115 := Xk_110.next hstep
  have Oa_116 := Oa_99.below hstep
  have Ob_117 := Ob_100.below hstep
  have Oq_118 := Oq_101.below hstep
  have Or_119 := Or_102.below hstep
  have Od_120 := Od_103.below hstep
  have Oe'_121 := Oe'_104.below hstep
  have Og_122 := Og_105.below hstep
  have Ox_123 := Ox_106.below hstep
  have Oy_124 := Oy_107.below hstep
  have Ok_125 := Ok_108.below hstep
  have hbel126 := hbel109.next hstep
  have hle126 := hbel126.size
  have hls126 := hstep.size
  clear Xq_95 Xr_96 Xx_97 Xy_98 Xk_110 Oa_99 Ob_100 Oq_101 Or_102 Od_103 Oe'_104 Og_105 Ox_106 Oy_107 Ok_108 hbel109 hstep
  have cXq0_126 : _ = some (Value.bool true) := Xq_111.cell 0
  have cXq1_126 : _ = some (Value.slice q qn qc) := Xq_111.cell 1
  have cXr0_126 : _ = some (Value.bool false) := Xr_112.cell 0
  have cXr1_126 : _ = some (Value.slice r rn rc) := Xr_112.cell 1
  have cXx0_126 : _ = some (Value.bool true) := Xx_113.cell 0
  have cXx1_126 : _ = some (Value.slice x xn xc) := Xx_113.cell 1
  have cXy0_126 : _ = some (Value.bool true) := Xy_114.cell 0
  have cXy1_126 : _ = some (Value.slice y yn yc) := Xy_114.cell 1
  have cXk0_126 : _ = some (Value.bool true) := Xk_115.cell 0
  have cXk1_126 : _ = some (Value.slice k kn kc) := Xk_115.cell 1
  go_wp2_with fail
  refine (ztext_any false Or_119.rd (by omega)).mono ?_
  rw [show ztx (zv false (val (lm (Int.natAbs (1))))) = ⟨#[49]⟩ from by decide +kernel]
  rintro e w14 ⟨rfl, hB⟩
  clear cXq0_126 cXq1_126 cXr0_126 cXr1_126 cXx0_126 cXx1_126 cXy0_126 cXy1_126 cXk0_126 cXk1_126
  have hstep : Below w13.heap.size w13 w14 := (by first | exact hB | exact below_drew hB)
  have Xq_127 := Xq_111.next hstep
  have Xr_128 := Xr_112.next hstep
  have Xx_129 := Xx_113.next hstep
  have Xy_130 := Xy_114.next hstep
  have Xk_131 := Xk_115.next hstep
  have Oa_132 := Oa_116.below hstep
  have Ob_133 := Ob_117.below hstep
  have Oq_134 := Oq_118.below hstep
  have Or_135 := Or_119.below hstep
  have Od_136 := Od_120.below hstep
  have Oe'_137 := Oe'_121.below hstep
  have Og_138 := Og_122.below hstep
  have Ox_139 := Ox_123.below hstep
  have Oy_140 := Oy_124.below hstep
  have Ok_141 := Ok_125.below hstep
  have hbel142 := hbel126.next hstep
  have hle142 := hbel142.size
  have hls142 := hstep.size
  clear Xq_111 Xr_112 Xx_113 Xy_114 Xk_115 Oa_116 Ob_117 Oq_118 Or_119 Od_120 Oe'_121 Og_122 Ox_123 Oy_124 Ok_125 hbel126 hstep
  have cXq0_142 : _ = some (Value.bool true) := Xq_127.cell 0
  have cXq1_142 : _ = some (Value.slice q qn qc) := Xq_127.cell 1
  have cXr0_142 : _ = some (Value.bool false) := Xr_128.cell 0
  have cXr1_142 : _ = some (Value.slice r rn rc) := Xr_128.cell 1
  have cXx0_142 : _ = some (Value.bool true) := Xx_129.cell 0
  have cXx1_142 : _ = some (Value.slice x xn xc) := Xx_129.cell 1
  have cXy0_142 : _ = some (Value.bool true) := Xy_130.cell 0
  have cXy1_142 : _ = some (Value.slice y yn yc) := Xy_130.cell 1
  have cXk0_142 : _ = some (Value.bool true) := Xk_131.cell 0
  have cXk1_142 : _ = some (Value.slice k kn kc) := Xk_131.cell 1
  go_wp2_with fail
  refine (text_any Og_138.rd (by omega)).mono ?_
  rw [show txt (tx (val (lm 2))) = ⟨#[50]⟩ from by decide +kernel]
  rintro e w15 ⟨rfl, hB⟩
  clear cXq0_142 cXq1_142 cXr0_142 cXr1_142 cXx0_142 cXx1_142 cXy0_142 cXy1_142 cXk0_142 cXk1_142
  have hstep : Below w14.heap.size w14 w15 := (by first | exact hB | exact below_drew hB)
  have Xq_143 := Xq_127.next hstep
  have Xr_144 := Xr_128.next hstep
  have Xx_145 := Xx_129.next hstep
  have Xy_146 := Xy_130.next hstep
  have Xk_147 := Xk_131.next hstep
  have Oa_148 := Oa_132.below hstep
  have Ob_149 := Ob_133.below hstep
  have Oq_150 := Oq_134.below hstep
  have Or_151 := Or_135.below hstep
  have Od_152 := Od_136.below hstep
  have Oe'_153 := Oe'_137.below hstep
  have Og_154 := Og_138.below hstep
  have Ox_155 := Ox_139.below hstep
  have Oy_156 := Oy_140.below hstep
  have Ok_157 := Ok_141.below hstep
  have hbel158 := hbel142.next hstep
  have hle158 := hbel158.size
  have hls158 := hstep.size
  clear Xq_127 Xr_128 Xx_129 Xy_130 Xk_131 Oa_132 Ob_133 Oq_134 Or_135 Od_136 Oe'_137 Og_138 Ox_139 Oy_140 Ok_141 hbel142 hstep
  have cXq0_158 : _ = some (Value.bool true) := Xq_143.cell 0
  have cXq1_158 : _ = some (Value.slice q qn qc) := Xq_143.cell 1
  have cXr0_158 : _ = some (Value.bool false) := Xr_144.cell 0
  have cXr1_158 : _ = some (Value.slice r rn rc) := Xr_144.cell 1
  have cXx0_158 : _ = some (Value.bool true) := Xx_145.cell 0
  have cXx1_158 : _ = some (Value.slice x xn xc) := Xx_145.cell 1
  have cXy0_158 : _ = some (Value.bool true) := Xy_146.cell 0
  have cXy1_158 : _ = some (Value.slice y yn yc) := Xy_146.cell 1
  have cXk0_158 : _ = some (Value.bool true) := Xk_147.cell 0
  have cXk1_158 : _ = some (Value.slice k kn kc) := Xk_147.cell 1
  go_wp2_with fail
  refine (ztext_any true Ox_155.rd (by omega)).mono ?_
  rw [show ztx (zv true (val (lm (Int.natAbs (-9))))) = ⟨#[45, 57]⟩ from by decide +kernel]
  rintro e w16 ⟨rfl, hB⟩
  clear cXq0_158 cXq1_158 cXr0_158 cXr1_158 cXx0_158 cXx1_158 cXy0_158 cXy1_158 cXk0_158 cXk1_158
  have hstep : Below w15.heap.size w15 w16 := (by first | exact hB | exact below_drew hB)
  have Xq_159 := Xq_143.next hstep
  have Xr_160 := Xr_144.next hstep
  have Xx_161 := Xx_145.next hstep
  have Xy_162 := Xy_146.next hstep
  have Xk_163 := Xk_147.next hstep
  have Oa_164 := Oa_148.below hstep
  have Ob_165 := Ob_149.below hstep
  have Oq_166 := Oq_150.below hstep
  have Or_167 := Or_151.below hstep
  have Od_168 := Od_152.below hstep
  have Oe'_169 := Oe'_153.below hstep
  have Og_170 := Og_154.below hstep
  have Ox_171 := Ox_155.below hstep
  have Oy_172 := Oy_156.below hstep
  have Ok_173 := Ok_157.below hstep
  have hbel174 := hbel158.next hstep
  have hle174 := hbel174.size
  have hls174 := hstep.size
  clear Xq_143 Xr_144 Xx_145 Xy_146 Xk_147 Oa_148 Ob_149 Oq_150 Or_151 Od_152 Oe'_153 Og_154 Ox_155 Oy_156 Ok_157 hbel158 hstep
  have cXq0_174 : _ = some (Value.bool true) := Xq_159.cell 0
  have cXq1_174 : _ = some (Value.slice q qn qc) := Xq_159.cell 1
  have cXr0_174 : _ = some (Value.bool false) := Xr_160.cell 0
  have cXr1_174 : _ = some (Value.slice r rn rc) := Xr_160.cell 1
  have cXx0_174 : _ = some (Value.bool true) := Xx_161.cell 0
  have cXx1_174 : _ = some (Value.slice x xn xc) := Xx_161.cell 1
  have cXy0_174 : _ = some (Value.bool true) := Xy_162.cell 0
  have cXy1_174 : _ = some (Value.slice y yn yc) := Xy_162.cell 1
  have cXk0_174 : _ = some (Value.bool true) := Xk_163.cell 0
  have cXk1_174 : _ = some (Value.slice k kn kc) := Xk_163.cell 1
  go_wp2_with fail
  refine (ztext_any true Oy_172.rd (by omega)).mono ?_
  rw [show ztx (zv true (val (lm (Int.natAbs (-47))))) = ⟨#[45, 52, 55]⟩ from by decide +kernel]
  rintro e w17 ⟨rfl, hB⟩
  clear cXq0_174 cXq1_174 cXr0_174 cXr1_174 cXx0_174 cXx1_174 cXy0_174 cXy1_174 cXk0_174 cXk1_174
  have hstep : Below w16.heap.size w16 w17 := (by first | exact hB | exact below_drew hB)
  have Xq_175 := Xq_159.next hstep
  have Xr_176 := Xr_160.next hstep
  have Xx_177 := Xx_161.next hstep
  have Xy_178 := Xy_162.next hstep
  have Xk_179 := Xk_163.next hstep
  have Oa_180 := Oa_164.below hstep
  have Ob_181 := Ob_165.below hstep
  have Oq_182 := Oq_166.below hstep
  have Or_183 := Or_167.below hstep
  have Od_184 := Od_168.below hstep
  have Oe'_185 := Oe'_169.below hstep
  have Og_186 := Og_170.below hstep
  have Ox_187 := Ox_171.below hstep
  have Oy_188 := Oy_172.below hstep
  have Ok_189 := Ok_173.below hstep
  have hbel190 := hbel174.next hstep
  have hle190 := hbel190.size
  have hls190 := hstep.size
  clear Xq_159 Xr_160 Xx_161 Xy_162 Xk_163 Oa_164 Ob_165 Oq_166 Or_167 Od_168 Oe'_169 Og_170 Ox_171 Oy_172 Ok_173 hbel174 hstep
  have cXq0_190 : _ = some (Value.bool true) := Xq_175.cell 0
  have cXq1_190 : _ = some (Value.slice q qn qc) := Xq_175.cell 1
  have cXr0_190 : _ = some (Value.bool false) := Xr_176.cell 0
  have cXr1_190 : _ = some (Value.slice r rn rc) := Xr_176.cell 1
  have cXx0_190 : _ = some (Value.bool true) := Xx_177.cell 0
  have cXx1_190 : _ = some (Value.slice x xn xc) := Xx_177.cell 1
  have cXy0_190 : _ = some (Value.bool true) := Xy_178.cell 0
  have cXy1_190 : _ = some (Value.slice y yn yc) := Xy_178.cell 1
  have cXk0_190 : _ = some (Value.bool true) := Xk_179.cell 0
  have cXk1_190 : _ = some (Value.slice k kn kc) := Xk_179.cell 1
  go_wp2_with fail
  refine (zmul_any true true Ok_189.rd Ok_189.rd (by omega) (by omega)).mono ?_
  rw [show zv true (val (lm (Int.natAbs (-100000000000000000000)))) * zv true (val (lm (Int.natAbs (-100000000000000000000)))) = 10000000000000000000000000000000000000000 from by decide +kernel]
  rintro e w18 ⟨m, mn, mc, rfl, hO, hB⟩
  clear cXq0_190 cXq1_190 cXr0_190 cXr1_190 cXx0_190 cXx1_190 cXy0_190 cXy1_190 cXk0_190 cXk1_190
  have hstep : Below w17.heap.size w17 w18 := (by first | exact hB | exact below_drew hB)
  have Xq_191 := Xq_175.next hstep
  have Xr_192 := Xr_176.next hstep
  have Xx_193 := Xx_177.next hstep
  have Xy_194 := Xy_178.next hstep
  have Xk_195 := Xk_179.next hstep
  have Oa_196 := Oa_180.below hstep
  have Ob_197 := Ob_181.below hstep
  have Oq_198 := Oq_182.below hstep
  have Or_199 := Or_183.below hstep
  have Od_200 := Od_184.below hstep
  have Oe'_201 := Oe'_185.below hstep
  have Og_202 := Og_186.below hstep
  have Ox_203 := Ox_187.below hstep
  have Oy_204 := Oy_188.below hstep
  have Ok_205 := Ok_189.below hstep
  have hbel206 := hbel190.next hstep
  have hle206 := hbel206.size
  have hls206 := hstep.size
  clear Xq_175 Xr_176 Xx_177 Xy_178 Xk_179 Oa_180 Ob_181 Oq_182 Or_183 Od_184 Oe'_185 Og_186 Ox_187 Oy_188 Ok_189 hbel190 hstep
  have cXq0_206 : _ = some (Value.bool true) := Xq_191.cell 0
  have cXq1_206 : _ = some (Value.slice q qn qc) := Xq_191.cell 1
  have cXr0_206 : _ = some (Value.bool false) := Xr_192.cell 0
  have cXr1_206 : _ = some (Value.slice r rn rc) := Xr_192.cell 1
  have cXx0_206 : _ = some (Value.bool true) := Xx_193.cell 0
  have cXx1_206 : _ = some (Value.slice x xn xc) := Xx_193.cell 1
  have cXy0_206 : _ = some (Value.bool true) := Xy_194.cell 0
  have cXy1_206 : _ = some (Value.slice y yn yc) := Xy_194.cell 1
  have cXk0_206 : _ = some (Value.bool true) := Xk_195.cell 0
  have cXk1_206 : _ = some (Value.slice k kn kc) := Xk_195.cell 1
  have hnm : mn ≤ 20 := by have := hO.len; rw [show (lm (Int.natAbs 10000000000000000000000000000000000000000)).length = 5 from by decide +kernel] at this; omega
  have Om_207 := hO
  clear hO hB
  go_wp2_with fail
  refine (ztext_any false Om_207.rd (by omega)).mono ?_
  rw [show ztx (zv false (val (lm (Int.natAbs (10000000000000000000000000000000000000000))))) = ⟨#[49, 48, 48, 48, 48, 48, 48, 48, 48, 48, 48, 48, 48, 48, 48, 48, 48, 48, 48, 48, 48, 48, 48, 48, 48, 48, 48, 48, 48, 48, 48, 48, 48, 48, 48, 48, 48, 48, 48, 48, 48]⟩ from by decide +kernel]
  rintro e w19 ⟨rfl, hB⟩
  clear cXq0_206 cXq1_206 cXr0_206 cXr1_206 cXx0_206 cXx1_206 cXy0_206 cXy1_206 cXk0_206 cXk1_206
  have hstep : Below w18.heap.size w18 w19 := (by first | exact hB | exact below_drew hB)
  have Xq_208 := Xq_191.next hstep
  have Xr_209 := Xr_192.next hstep
  have Xx_210 := Xx_193.next hstep
  have Xy_211 := Xy_194.next hstep
  have Xk_212 := Xk_195.next hstep
  have Oa_213 := Oa_196.below hstep
  have Ob_214 := Ob_197.below hstep
  have Oq_215 := Oq_198.below hstep
  have Or_216 := Or_199.below hstep
  have Od_217 := Od_200.below hstep
  have Oe'_218 := Oe'_201.below hstep
  have Og_219 := Og_202.below hstep
  have Ox_220 := Ox_203.below hstep
  have Oy_221 := Oy_204.below hstep
  have Ok_222 := Ok_205.below hstep
  have Om_223 := Om_207.below hstep
  have hbel224 := hbel206.next hstep
  have hle224 := hbel224.size
  have hls224 := hstep.size
  clear Xq_191 Xr_192 Xx_193 Xy_194 Xk_195 Oa_196 Ob_197 Oq_198 Or_199 Od_200 Oe'_201 Og_202 Ox_203 Oy_204 Ok_205 Om_207 hbel206 hstep
  have cXq0_224 : _ = some (Value.bool true) := Xq_208.cell 0
  have cXq1_224 : _ = some (Value.slice q qn qc) := Xq_208.cell 1
  have cXr0_224 : _ = some (Value.bool false) := Xr_209.cell 0
  have cXr1_224 : _ = some (Value.slice r rn rc) := Xr_209.cell 1
  have cXx0_224 : _ = some (Value.bool true) := Xx_210.cell 0
  have cXx1_224 : _ = some (Value.slice x xn xc) := Xx_210.cell 1
  have cXy0_224 : _ = some (Value.bool true) := Xy_211.cell 0
  have cXy1_224 : _ = some (Value.slice y yn yc) := Xy_211.cell 1
  have cXk0_224 : _ = some (Value.bool true) := Xk_212.cell 0
  have cXk1_224 : _ = some (Value.slice k kn kc) := Xk_212.cell 1
  go_wp2
  go_ret
  exact ⟨rfl, hbel224⟩

end Go.Proofs.Ytflmdcmlhpifeaa
/- WALKS OF WHOLE NUMBERS, 14: the contracts with their values named. -/
namespace Go.Proofs.Ytflmdcmlhpifeaa
set_option linter.unusedVariables false
open Go.ChangeShapes Go.WideShapes Go.ChangeAt Go.RowKit Go.NatP

theorem zvlm (z : Int) : zv (decide (z < 0)) (val (lm z.natAbs)) = z := by rw [val_lm, zv_self]
theorem szI_add {x y z : Int} {k : Nat} (hx : Sz x.natAbs k) (hy : Sz y.natAbs k) (h : x + y = z) : Sz z.natAbs (k + 1) := (hx.add hy).mono (by omega) (Nat.le_refl _)
theorem szI_sub {x y z : Int} {k : Nat} (hx : Sz x.natAbs k) (hy : Sz y.natAbs k) (h : x - y = z) : Sz z.natAbs (k + 1) := (hx.add hy).mono (by omega) (Nat.le_refl _)
theorem szI_mul {x y z : Int} {j k : Nat} (hx : Sz x.natAbs j) (hy : Sz y.natAbs k) (h : x * y = z) : Sz z.natAbs (j + k) := by
  have := hx.mul hy
  rwa [← Int.natAbs_mul, h] at this
theorem szI_neg {x z : Int} {k : Nat} (hx : Sz x.natAbs k) (h : -x = z) : Sz z.natAbs k := hx.mono (by omega) (Nat.le_refl _)
theorem szI_le {x z : Int} {k : Nat} (hx : Sz x.natAbs k) (h : z.natAbs ≤ x.natAbs) : Sz z.natAbs k := hx.mono h (Nat.le_refl _)
section
variable {W : World} {i k : Option Addr} {j c l d : Nat} {la lb : List Nat} {s t : Bool} {x y z : Int}
theorem zaddG (ha : Rd W i j c la) (hn : j ≤ 4194304) (hb : Rd W k l d lb) (hm : l ≤ 4194304) (hx : zv s (val la) = x) (hy : zv t (val lb) = y) (hz : x + y = z) :
    Calls Try.prog 31 #[.agg #[.bool s, .slice i j c], .agg #[.bool t, .slice k l d]] W (RetZ W z) := by
  rw [← hz, ← hx, ← hy]
  exact zadd_any s t ha hb hn hm
theorem zmulG (ha : Rd W i j c la) (hn : j ≤ 4194304) (hb : Rd W k l d lb) (hm : l ≤ 4194304) (hx : zv s (val la) = x) (hy : zv t (val lb) = y) (hz : x * y = z) :
    Calls Try.prog 32 #[.agg #[.bool s, .slice i j c], .agg #[.bool t, .slice k l d]] W (RetZ W z) := by
  rw [← hz, ← hx, ← hy]
  exact zmul_any s t ha hb hn hm
theorem zsubG (ha : Rd W i j c la) (hn : j ≤ 4194304) (hb : Rd W k l d lb) (hm : l ≤ 4194304) (hx : zv s (val la) = x) (hy : zv t (val lb) = y) (hz : x - y = z) :
    Calls Try.prog 27 #[.agg #[.bool s, .slice i j c], .agg #[.bool t, .slice k l d]] W (RetZ W z) := by
  rw [← hz, ← hx, ← hy]
  exact zsub_any s t ha hn hb hm
theorem znegG (ha : Rd W i j c la) (hn : j ≤ 4194304) (hx : zv s (val la) = x) (hz : -x = z) :
    Calls Try.prog 33 #[.agg #[.bool s, .slice i j c]] W (RetZ W z) := by
  have h := zneg_any s ha (show j ≤ 16777216 by omega)
  rw [hx, hz] at h
  exact h
theorem zofG {q : Int} (h1 : -9223372036854775808 ≤ q) (h2 : q ≤ 9223372036854775807) (hz : q = z) :
    Calls Try.prog 19 #[.int .i64 q] W (RetZ W z) := by
  rw [← hz]
  exact zofi_any q h1 h2
theorem zequalG (ha : Rd W i j c la) (hn : j ≤ 4194304) (hb : Rd W k l d lb) (hm : l ≤ 4194304) (hx : zv s (val la) = x) (hy : zv t (val lb) = y) {e : Bool} (he : decide (x = y) = e) :
    Calls Try.prog 30 #[.agg #[.bool s, .slice i j c], .agg #[.bool t, .slice k l d]] W (fun e' w' => e' = .returned (.bool e) ∧ Below W.heap.size W w') := by
  rw [← he, ← hx, ← hy]
  exact zequal_any s t ha hn hb hm
theorem zcmpG (ha : Rd W i j c la) (hn : j ≤ 4194304) (hb : Rd W k l d lb) (hm : l ≤ 4194304) (hx : zv s (val la) = x) (hy : zv t (val lb) = y) {e : Int} (he : cmpZ x y = e) :
    Calls Try.prog 20 #[.agg #[.bool s, .slice i j c], .agg #[.bool t, .slice k l d]] W (RetIb W e) := by
  rw [← he, ← hx, ← hy]
  exact zcmp_any s t ha hn hb hm
theorem zsignG (ha : Rd W i j c la) (hn : j ≤ 4194304) (hx : zv s (val la) = x) {e : Int} (he : sgn x = e) :
    Calls Try.prog 22 #[.agg #[.bool s, .slice i j c]] W (RetIb W e) := by
  rw [← he, ← hx]
  exact zsign_any s ha (by omega)
theorem zquoG (ha : Rd W i j c la) (hn : j ≤ 4194304) (hb : Rd W k l d lb) (hm : l ≤ 4194304) (hx : zv s (val la) = x) (hy : zv t (val lb) = y) {q r er : Int} (hq : zv (!(s == t)) (val la / val lb) = q) (hr : zv s (dvR (val la) (val lb)) = r) (he : dvE (val lb) = er) :
    Calls Try.prog 34 #[.agg #[.bool s, .slice i j c], .agg #[.bool t, .slice k l d]] W (RetZZ W q r er) := by
  rw [← hq, ← hr, ← he]
  exact zquo_any s t ha hn hb hm
theorem zfloorG (ha : Rd W i j c la) (hn : j ≤ 4194304) (hb : Rd W k l d lb) (hm : l ≤ 4194304) (hx : zv s (val la) = x) (hy : zv t (val lb) = y) {q r er : Int} (hq : (if dvE (val lb) = 0 ∧ sgn (zv s (dvR (val la) (val lb))) * sgn (zv t (val lb)) < 0 then zv (!(s == t)) (val la / val lb) - 1 else zv (!(s == t)) (val la / val lb)) = q) (hr : (if dvE (val lb) = 0 ∧ sgn (zv s (dvR (val la) (val lb))) * sgn (zv t (val lb)) < 0 then zv s (dvR (val la) (val lb)) + zv t (val lb) else zv s (dvR (val la) (val lb))) = r) (he : dvE (val lb) = er) :
    Calls Try.prog 35 #[.agg #[.bool s, .slice i j c], .agg #[.bool t, .slice k l d]] W (RetZZ W q r er) := by
  rw [← hq, ← hr, ← he]
  exact zfloor_any s t ha hn hb hm
theorem zbezG (ha : Rd W i j c la) (hn : j ≤ 4194304) (hb : Rd W k l d lb) (hm : l ≤ 4194304) (hx : zv s (val la) = x) (hy : zv t (val lb) = y) {q r : Int} {g : Nat} (hg : Nat.gcd (val la) (val lb) = g) (hq : bzS (zv s (val la)) (bzX (val la) (val lb) 1 0) = q) (hr : bzS (zv t (val lb)) (bzX (val la) (val lb) 0 1) = r) :
    Calls Try.prog 37 #[.agg #[.bool s, .slice i j c], .agg #[.bool t, .slice k l d]] W (RetBz W g q r) := by
  rw [← hg, ← hq, ← hr]
  exact zbez_any s t ha hn hb hm
theorem zintG (ha : Rd W i j c la) (hn : j ≤ 4194304) (hx : zv s (val la) = x) (hlo : -9223372036854775808 ≤ x) (hhi : x ≤ 9223372036854775807) :
    Calls Try.prog 17 #[.agg #[.bool s, .slice i j c]] W (fun e w' => e = .returned (.tuple #[.int .i64 x, .bool true]) ∧ Below W.heap.size W w') := by
  have h := zint_any s ha (show j ≤ 16777216 by omega)
  unfold RetIn at h
  rw [hx, ivI_yes ⟨hlo, hhi⟩, isI_yes ⟨hlo, hhi⟩] at h
  exact h
theorem ztextG (ha : Rd W i j c la) (hn : j ≤ 4194304) (hx : zv s (val la) = x) {e : ByteArray} (he : ztx x = e) :
    Calls Try.prog 24 #[.agg #[.bool s, .slice i j c]] W (RetT W e) := by
  rw [← he, ← hx]
  exact ztext_any s ha (by omega)
end
end Go.Proofs.Ytflmdcmlhpifeaa
