/- WALKS OF WHOLE NUMBERS, 4: differences, signs, comparisons, equality. -/
import Derived.Test.YtennilapmcgnbaaZc
namespace Go.Proofs.Ytennilapmcgnbaa
set_option linter.unusedVariables false
set_option linter.unusedSimpArgs false
open Go.ChangeShapes Go.WideShapes Go.ChangeAt Go.RowKit Go.NatP

theorem szNeg {s : Bool} {v k : Nat} (h : Sz v k) : Sz (-zv s v).natAbs k := by rw [Int.natAbs_neg, zv_abs]; exact h
theorem rest_neg (x : Int) (s : Bool) (v : Nat) : x - zv s v = x + zv (!s) v := by rw [zv_not]; omega

set_option maxRecDepth 100000 in
set_option maxHeartbeats 4000000 in
theorem zsub_any {w : World} {a : Option Addr} {n c : Nat} {la : List Nat} {b : Option Addr} {m d : Nat} {lb : List Nat} (s t : Bool) (ha : Rd w a n c la) (hn : n ≤ 4194304) (hb : Rd w b m d lb) (hm : m ≤ 4194304) :
    Calls Try.prog 37 #[.agg #[.bool s, .slice a n c], .agg #[.bool t, .slice b m d]] w (RetZ w (zv s (val la) - zv t (val lb))) := by
  rw [rest_neg]
  have hent := ent3 w #[Value.bool s, Value.slice a n c] #[Value.bool t, Value.slice b m d] #[Value.bool false, Value.slice none 0 0] 26 26 26
  go_enter Try.func37, Try.ntmps37
  go_wp2_with fail
  generalize (((w.alloc (.cells #[Value.bool s, Value.slice a n c] 26)).alloc (.cells #[Value.bool t, Value.slice b m d] 26)).alloc (.cells #[Value.bool false, Value.slice none 0 0] 26)) = W0 at hent ⊢
  obtain ⟨Xa_0, Xb_0, R0_0, hbel, hsz⟩ := hent
  have Xa_0_0 : _ = some (Value.bool s) := Xa_0.cell 0
  have Xa_0_1 : _ = some (Value.slice a n c) := Xa_0.cell 1
  have Xb_0_0 : _ = some (Value.bool t) := Xb_0.cell 0
  have Xb_0_1 : _ = some (Value.slice b m d) := Xb_0.cell 1
  have R0_0_0 : _ = some (Value.bool false) := R0_0.cell 0
  have R0_0_f0 := R0_0.free 0
  have R0_0_1 : _ = some (Value.slice none 0 0) := R0_0.cell 1
  have R0_0_f1 := R0_0.free 1
  have HA := hid (fun W (h : Below W0.heap.size W0 W) => ha.below (hbel.next h))
  have hza := hid ha.szv
  have HB := hid (fun W (h : Below W0.heap.size W0 W) => hb.below (hbel.next h))
  have hzb := hid hb.szv
  clear ha hb
  go_wp2_with fail
  refine (zadd_any s (!t) (HA.out _ (Below.refl _ _)) (HB.out _ (Below.refl _ _)) (by omega) (by omega)).mono ?_
  rintro e w1 ⟨qa, qn, qc, rfl, hO, hB⟩
  have hB1 : Below W0.heap.size W0 w1 := (by first | exact hB | exact below_drew hB)
  have Xa_1 := Xa_0.next hB1
  have Xa_1_0 : _ = some (Value.bool s) := Xa_1.cell 0
  have Xa_1_1 : _ = some (Value.slice a n c) := Xa_1.cell 1
  have Xb_1 := Xb_0.next hB1
  have Xb_1_0 : _ = some (Value.bool t) := Xb_1.cell 0
  have Xb_1_1 : _ = some (Value.slice b m d) := Xb_1.cell 1
  have R0_1 := R0_0.next hB1
  have R0_1_0 : _ = some (Value.bool false) := R0_1.cell 0
  have R0_1_f0 := R0_1.free 0
  have R0_1_1 : _ = some (Value.slice none 0 0) := R0_1.cell 1
  have R0_1_f1 := R0_1.free 1
  have hbel1 := hbel.next hB1
  have hsz1 := hB1.size
  go_wp2
  refine bodyPost_ret (v := .agg #[.bool (decide (zv s (val la) + zv (!t) (val lb) < 0)), .slice qa qn qc]) (by simp [results, Try.results37, go_sem, R0_1_0, R0_1_1]) rfl ?_
  exact retz_set hO hbel1 (by omega) (by omega)

set_option maxRecDepth 100000 in
set_option maxHeartbeats 4000000 in
theorem zsign_any {w : World} {a : Option Addr} {n c : Nat} {la : List Nat} (s : Bool) (ha : Rd w a n c la) (hn : n ≤ 16777216) :
    Calls Try.prog 24 #[.agg #[.bool s, .slice a n c]] w (RetIb w (sgn (zv s (val la)))) := by
  by_cases h0 : val la = 0
  · rw [sgn_zero h0]
    have hnb : Hid (nb (val la) = 0) := by show _ = _; rw [h0]; rfl
    have hent := ent1 w #[Value.bool s, Value.slice a n c] 26
    go_enter Try.func24, Try.ntmps24
    go_wp2_with fail
    generalize (w.alloc (.cells #[Value.bool s, Value.slice a n c] 26)) = W0 at hent ⊢
    obtain ⟨Xa_0, hbel, hsz⟩ := hent
    have Xa_0_0 : _ = some (Value.bool s) := Xa_0.cell 0
    have Xa_0_1 : _ = some (Value.slice a n c) := Xa_0.cell 1
    have HA := hid (fun W (h : Below W0.heap.size W0 W) => ha.below (hbel.next h))
    have hza := hid ha.szv
    clear ha
    go_wp2_with fail
    refine (bits_any (HA.out _ (Below.refl _ _)) (by omega)).mono ?_
    rw [hnb.out]
    rintro e w1 ⟨rfl, hD⟩
    have hB1 : Below W0.heap.size W0 w1 := (by first | exact (hD.below _) | exact below_drew (hD.below _))
    have Xa_1 := Xa_0.next hB1
    have Xa_1_0 : _ = some (Value.bool s) := Xa_1.cell 0
    have Xa_1_1 : _ = some (Value.slice a n c) := Xa_1.cell 1
    have hbel1 := hbel.next hB1
    have hsz1 := hB1.size
    go_wp2
    go_ret
    exact ⟨rfl, hbel1⟩
  · have hnb : ((nb (val la) : Int) == 0) = false := beq_eq_false_iff_ne.2 (by have := nb_pos h0; omega)
    cases s
    · rw [sgn_pos h0]
      have hent := ent1 w #[Value.bool false, Value.slice a n c] 26
      go_enter Try.func24, Try.ntmps24
      go_wp2_with fail
      generalize (w.alloc (.cells #[Value.bool false, Value.slice a n c] 26)) = W0 at hent ⊢
      obtain ⟨Xa_0, hbel, hsz⟩ := hent
      have Xa_0_0 : _ = some (Value.bool false) := Xa_0.cell 0
      have Xa_0_1 : _ = some (Value.slice a n c) := Xa_0.cell 1
      have HA := hid (fun W (h : Below W0.heap.size W0 W) => ha.below (hbel.next h))
      have hza := hid ha.szv
      clear ha
      go_wp2_with fail
      refine (bits_any (HA.out _ (Below.refl _ _)) (by omega)).mono ?_
      rintro e w1 ⟨rfl, hD⟩
      have hB1 : Below W0.heap.size W0 w1 := (by first | exact (hD.below _) | exact below_drew (hD.below _))
      have Xa_1 := Xa_0.next hB1
      have Xa_1_0 : _ = some (Value.bool false) := Xa_1.cell 0
      have Xa_1_1 : _ = some (Value.slice a n c) := Xa_1.cell 1
      have hbel1 := hbel.next hB1
      have hsz1 := hB1.size
      go_wp2
      go_ret
      exact ⟨rfl, hbel1⟩
    · rw [sgn_neg h0]
      have hent := ent1 w #[Value.bool true, Value.slice a n c] 26
      go_enter Try.func24, Try.ntmps24
      go_wp2_with fail
      generalize (w.alloc (.cells #[Value.bool true, Value.slice a n c] 26)) = W0 at hent ⊢
      obtain ⟨Xa_0, hbel, hsz⟩ := hent
      have Xa_0_0 : _ = some (Value.bool true) := Xa_0.cell 0
      have Xa_0_1 : _ = some (Value.slice a n c) := Xa_0.cell 1
      have HA := hid (fun W (h : Below W0.heap.size W0 W) => ha.below (hbel.next h))
      have hza := hid ha.szv
      clear ha
      go_wp2_with fail
      refine (bits_any (HA.out _ (Below.refl _ _)) (by omega)).mono ?_
      rintro e w1 ⟨rfl, hD⟩
      have hB1 : Below W0.heap.size W0 w1 := (by first | exact (hD.below _) | exact below_drew (hD.below _))
      have Xa_1 := Xa_0.next hB1
      have Xa_1_0 : _ = some (Value.bool true) := Xa_1.cell 0
      have Xa_1_1 : _ = some (Value.slice a n c) := Xa_1.cell 1
      have hbel1 := hbel.next hB1
      have hsz1 := hB1.size
      go_wp2
      go_ret
      exact ⟨rfl, hbel1⟩

set_option maxRecDepth 100000 in
set_option maxHeartbeats 4000000 in
theorem zcmp_lt {w : World} {a : Option Addr} {n c : Nat} {la : List Nat} {b : Option Addr} {m d : Nat} {lb : List Nat} (s t : Bool) (ha : Rd w a n c la) (hn : n ≤ 4194304) (hb : Rd w b m d lb) (hm : m ≤ 4194304) (hc : sgn (zv s (val la)) < sgn (zv t (val lb))) :
    Calls Try.prog 25 #[.agg #[.bool s, .slice a n c], .agg #[.bool t, .slice b m d]] w (RetIb w (cmpZ (zv s (val la)) (zv t (val lb)))) := by
  rw [cmpZ_lt hc]
  have hr1 := sgn_range (zv s (val la))
  have hr2 := sgn_range (zv t (val lb))
  have HS := hid (fun w' (ha : Rd w' a n c la) => zsign_any s ha (show n ≤ 16777216 by omega))
  have HT := hid (fun w' (hb : Rd w' b m d lb) => zsign_any t hb (show m ≤ 16777216 by omega))
  generalize sgn (zv s (val la)) = x at *
  generalize sgn (zv t (val lb)) = y at *
  have hent := ent2 w #[Value.bool s, Value.slice a n c] #[Value.bool t, Value.slice b m d] 26 26
  go_enter Try.func25, Try.ntmps25
  go_wp2_with fail
  generalize ((w.alloc (.cells #[Value.bool s, Value.slice a n c] 26)).alloc (.cells #[Value.bool t, Value.slice b m d] 26)) = W0 at hent ⊢
  obtain ⟨Xa_0, Xb_0, hbel, hsz⟩ := hent
  have Xa_0_0 : _ = some (Value.bool s) := Xa_0.cell 0
  have Xa_0_1 : _ = some (Value.slice a n c) := Xa_0.cell 1
  have Xb_0_0 : _ = some (Value.bool t) := Xb_0.cell 0
  have Xb_0_1 : _ = some (Value.slice b m d) := Xb_0.cell 1
  have HA := hid (fun W (h : Below W0.heap.size W0 W) => ha.below (hbel.next h))
  have hza := hid ha.szv
  have HB := hid (fun W (h : Below W0.heap.size W0 W) => hb.below (hbel.next h))
  have hzb := hid hb.szv
  clear ha hb
  go_region_with (first
      | (go_at_call 24; ((with_reducible refine (HS.out _ (HA.out _ (by first | exact Below.refl _ _ | exact (Below.refl _ _).drew))).mono ?_); (rintro e w1 ⟨rfl, hB⟩; have hB1 : Below W0.heap.size W0 w1 := (by first | exact hB | exact below_drew hB); have Xa_1 := Xa_0.next hB1; have Xa_1_0 : _ = some (Value.bool s) := Xa_1.cell 0; have Xa_1_1 : _ = some (Value.slice a n c) := Xa_1.cell 1; have Xb_1 := Xb_0.next hB1; have Xb_1_0 : _ = some (Value.bool t) := Xb_1.cell 0; have Xb_1_1 : _ = some (Value.slice b m d) := Xb_1.cell 1; have hbel1 := hbel.next hB1; have hsz1 := hB1.size)))
      | (go_at_call 24; ((with_reducible refine (HT.out _ (HB.out _ hB1)).mono ?_); (rintro e w2 ⟨rfl, hB⟩; have hB2 : Below w1.heap.size w1 w2 := (by first | exact hB | exact below_drew hB); have Xa_2 := Xa_1.next hB2; have Xa_2_0 : _ = some (Value.bool s) := Xa_2.cell 0; have Xa_2_1 : _ = some (Value.slice a n c) := Xa_2.cell 1; have Xb_2 := Xb_1.next hB2; have Xb_2_0 : _ = some (Value.bool t) := Xb_2.cell 0; have Xb_2_1 : _ = some (Value.slice b m d) := Xb_2.cell 1; have hbel2 := hbel1.next hB2; have hsz2 := hB2.size))))
  all_goals
    go_wp2
    go_ret
    exact ⟨rfl, hbel2⟩

set_option maxRecDepth 100000 in
set_option maxHeartbeats 4000000 in
theorem zcmp_gt {w : World} {a : Option Addr} {n c : Nat} {la : List Nat} {b : Option Addr} {m d : Nat} {lb : List Nat} (s t : Bool) (ha : Rd w a n c la) (hn : n ≤ 4194304) (hb : Rd w b m d lb) (hm : m ≤ 4194304) (hc : sgn (zv t (val lb)) < sgn (zv s (val la))) :
    Calls Try.prog 25 #[.agg #[.bool s, .slice a n c], .agg #[.bool t, .slice b m d]] w (RetIb w (cmpZ (zv s (val la)) (zv t (val lb)))) := by
  rw [cmpZ_gt hc]
  have hr1 := sgn_range (zv s (val la))
  have hr2 := sgn_range (zv t (val lb))
  have HS := hid (fun w' (ha : Rd w' a n c la) => zsign_any s ha (show n ≤ 16777216 by omega))
  have HT := hid (fun w' (hb : Rd w' b m d lb) => zsign_any t hb (show m ≤ 16777216 by omega))
  generalize sgn (zv s (val la)) = x at *
  generalize sgn (zv t (val lb)) = y at *
  have hent := ent2 w #[Value.bool s, Value.slice a n c] #[Value.bool t, Value.slice b m d] 26 26
  go_enter Try.func25, Try.ntmps25
  go_wp2_with fail
  generalize ((w.alloc (.cells #[Value.bool s, Value.slice a n c] 26)).alloc (.cells #[Value.bool t, Value.slice b m d] 26)) = W0 at hent ⊢
  obtain ⟨Xa_0, Xb_0, hbel, hsz⟩ := hent
  have Xa_0_0 : _ = some (Value.bool s) := Xa_0.cell 0
  have Xa_0_1 : _ = some (Value.slice a n c) := Xa_0.cell 1
  have Xb_0_0 : _ = some (Value.bool t) := Xb_0.cell 0
  have Xb_0_1 : _ = some (Value.slice b m d) := Xb_0.cell 1
  have HA := hid (fun W (h : Below W0.heap.size W0 W) => ha.below (hbel.next h))
  have hza := hid ha.szv
  have HB := hid (fun W (h : Below W0.heap.size W0 W) => hb.below (hbel.next h))
  have hzb := hid hb.szv
  clear ha hb
  go_region_with (first
      | (go_at_call 24; ((with_reducible refine (HS.out _ (HA.out _ (by first | exact Below.refl _ _ | exact (Below.refl _ _).drew))).mono ?_); (rintro e w1 ⟨rfl, hB⟩; have hB1 : Below W0.heap.size W0 w1 := (by first | exact hB | exact below_drew hB); have Xa_1 := Xa_0.next hB1; have Xa_1_0 : _ = some (Value.bool s) := Xa_1.cell 0; have Xa_1_1 : _ = some (Value.slice a n c) := Xa_1.cell 1; have Xb_1 := Xb_0.next hB1; have Xb_1_0 : _ = some (Value.bool t) := Xb_1.cell 0; have Xb_1_1 : _ = some (Value.slice b m d) := Xb_1.cell 1; have hbel1 := hbel.next hB1; have hsz1 := hB1.size)))
      | (go_at_call 24; ((with_reducible refine (HT.out _ (HB.out _ hB1)).mono ?_); (rintro e w2 ⟨rfl, hB⟩; have hB2 : Below w1.heap.size w1 w2 := (by first | exact hB | exact below_drew hB); have Xa_2 := Xa_1.next hB2; have Xa_2_0 : _ = some (Value.bool s) := Xa_2.cell 0; have Xa_2_1 : _ = some (Value.slice a n c) := Xa_2.cell 1; have Xb_2 := Xb_1.next hB2; have Xb_2_0 : _ = some (Value.bool t) := Xb_2.cell 0; have Xb_2_1 : _ = some (Value.slice b m d) := Xb_2.cell 1; have hbel2 := hbel1.next hB2; have hsz2 := hB2.size))))
  all_goals
    go_wp2
    go_ret
    exact ⟨rfl, hbel2⟩

set_option maxRecDepth 100000 in
set_option maxHeartbeats 4000000 in
theorem zcmp_eq {w : World} {a : Option Addr} {n c : Nat} {la : List Nat} {b : Option Addr} {m d : Nat} {lb : List Nat} (s t : Bool) (ha : Rd w a n c la) (hn : n ≤ 4194304) (hb : Rd w b m d lb) (hm : m ≤ 4194304) (h1 : ¬ sgn (zv s (val la)) < sgn (zv t (val lb))) (h2 : ¬ sgn (zv t (val lb)) < sgn (zv s (val la))) :
    Calls Try.prog 25 #[.agg #[.bool s, .slice a n c], .agg #[.bool t, .slice b m d]] w (RetIb w (cmpZ (zv s (val la)) (zv t (val lb)))) := by
  have hq := cmpZ_eq h1 h2
  have hqr := cmpZ_range (zv s (val la)) (zv t (val lb))
  have hr3 := cmpI_range (val la) (val lb)
  have HC := hid (fun w' (ha : Rd w' a n c la) (hb : Rd w' b m d lb) => cmp_any ha hb)
  generalize cmpI (val la) (val lb) = z at *
  generalize cmpZ (zv s (val la)) (zv t (val lb)) = q at *
  have hr1 := sgn_range (zv s (val la))
  have hr2 := sgn_range (zv t (val lb))
  have HS := hid (fun w' (ha : Rd w' a n c la) => zsign_any s ha (show n ≤ 16777216 by omega))
  have HT := hid (fun w' (hb : Rd w' b m d lb) => zsign_any t hb (show m ≤ 16777216 by omega))
  generalize sgn (zv s (val la)) = x at *
  generalize sgn (zv t (val lb)) = y at *
  obtain rfl : x = y := by omega
  have hq' := hid hq
  clear hq h1 h2
  have hent := ent2 w #[Value.bool s, Value.slice a n c] #[Value.bool t, Value.slice b m d] 26 26
  go_enter Try.func25, Try.ntmps25
  go_wp2_with fail
  generalize ((w.alloc (.cells #[Value.bool s, Value.slice a n c] 26)).alloc (.cells #[Value.bool t, Value.slice b m d] 26)) = W0 at hent ⊢
  obtain ⟨Xa_0, Xb_0, hbel, hsz⟩ := hent
  have Xa_0_0 : _ = some (Value.bool s) := Xa_0.cell 0
  have Xa_0_1 : _ = some (Value.slice a n c) := Xa_0.cell 1
  have Xb_0_0 : _ = some (Value.bool t) := Xb_0.cell 0
  have Xb_0_1 : _ = some (Value.slice b m d) := Xb_0.cell 1
  have HA := hid (fun W (h : Below W0.heap.size W0 W) => ha.below (hbel.next h))
  have hza := hid ha.szv
  have HB := hid (fun W (h : Below W0.heap.size W0 W) => hb.below (hbel.next h))
  have hzb := hid hb.szv
  clear ha hb
  go_region_with (first
      | (go_at_call 24; ((with_reducible refine (HS.out _ (HA.out _ (by first | exact Below.refl _ _ | exact (Below.refl _ _).drew))).mono ?_); (rintro e w1 ⟨rfl, hB⟩; have hB1 : Below W0.heap.size W0 w1 := (by first | exact hB | exact below_drew hB); have Xa_1 := Xa_0.next hB1; have Xa_1_0 : _ = some (Value.bool s) := Xa_1.cell 0; have Xa_1_1 : _ = some (Value.slice a n c) := Xa_1.cell 1; have Xb_1 := Xb_0.next hB1; have Xb_1_0 : _ = some (Value.bool t) := Xb_1.cell 0; have Xb_1_1 : _ = some (Value.slice b m d) := Xb_1.cell 1; have hbel1 := hbel.next hB1; have hsz1 := hB1.size)))
      | (go_at_call 24; ((with_reducible refine (HT.out _ (HB.out _ hB1)).mono ?_); (rintro e w2 ⟨rfl, hB⟩; have hB2 : Below w1.heap.size w1 w2 := (by first | exact hB | exact below_drew hB); have Xa_2 := Xa_1.next hB2; have Xa_2_0 : _ = some (Value.bool s) := Xa_2.cell 0; have Xa_2_1 : _ = some (Value.slice a n c) := Xa_2.cell 1; have Xb_2 := Xb_1.next hB2; have Xb_2_0 : _ = some (Value.bool t) := Xb_2.cell 0; have Xb_2_1 : _ = some (Value.slice b m d) := Xb_2.cell 1; have hbel2 := hbel1.next hB2; have hsz2 := hB2.size))))
  all_goals
    have hq := hq'.out
    go_wp2_with fail
    refine (HC.out _ (HA.out _ (hB1.next hB2)) (HB.out _ (hB1.next hB2))).mono ?_
    rintro e w3 ⟨rfl, hD⟩
    have hB3 : Below w2.heap.size w2 w3 := (by first | exact (hD.below _) | exact below_drew (hD.below _))
    have Xa_3 := Xa_2.next hB3
    have Xa_3_0 : _ = some (Value.bool s) := Xa_3.cell 0
    have Xa_3_1 : _ = some (Value.slice a n c) := Xa_3.cell 1
    have Xb_3 := Xb_2.next hB3
    have Xb_3_0 : _ = some (Value.bool t) := Xb_3.cell 0
    have Xb_3_1 : _ = some (Value.slice b m d) := Xb_3.cell 1
    have hbel3 := hbel2.next hB3
    have hsz3 := hB3.size
    go_wp2
    go_ret
    exact ⟨rfl, hbel3⟩

set_option maxRecDepth 100000 in
set_option maxHeartbeats 4000000 in
theorem zcmp_any {w : World} {a : Option Addr} {n c : Nat} {la : List Nat} {b : Option Addr} {m d : Nat} {lb : List Nat} (s t : Bool) (ha : Rd w a n c la) (hn : n ≤ 4194304) (hb : Rd w b m d lb) (hm : m ≤ 4194304) :
    Calls Try.prog 25 #[.agg #[.bool s, .slice a n c], .agg #[.bool t, .slice b m d]] w (RetIb w (cmpZ (zv s (val la)) (zv t (val lb)))) := by
  by_cases h1 : sgn (zv s (val la)) < sgn (zv t (val lb))
  · exact zcmp_lt s t ha hn hb hm h1
  by_cases h2 : sgn (zv t (val lb)) < sgn (zv s (val la))
  · exact zcmp_gt s t ha hn hb hm h2
  exact zcmp_eq s t ha hn hb hm h1 h2

end Go.Proofs.Ytennilapmcgnbaa
