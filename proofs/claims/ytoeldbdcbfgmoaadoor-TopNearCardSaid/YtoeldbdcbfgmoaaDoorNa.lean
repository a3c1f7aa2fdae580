/- WALKS OF FLOATS, closed: what 'alive' asks: the floats at a half and round a third. -/
import Derived.Test.YtoeldbdcbfgmoaaDoorMq
import Derived.Test.YtoeldbdcbfgmoaaDoorWy
import Derived.Test.YtoeldbdcbfgmoaaDoorZd
import Derived.Test.YtoeldbdcbfgmoaaDoorFg
namespace Go.Proofs.YtoeldbdcbfgmoaaDoor
set_option linter.unusedVariables false
set_option linter.unusedSimpArgs false
open Go.ChangeShapes Go.WideShapes Go.ChangeAt Go.RowKit Go.NatP Go.FloatP

theorem bits_b {w : World} {a : Option Addr} {n c : Nat} {l : List Nat} (h : Rd w a n c l) (hn : n ≤ 268435456) {k : Int} (hk : (nb (val l) : Int) = k) : Calls Tryd.prog 52 #[.slice a n c] w (RetIb w k) :=
  hk ▸ (bits_any h hn).mono fun e w' ⟨h1, h2⟩ => ⟨h1, h2.below _⟩
theorem cmp_b {w : World} {a b : Option Addr} {n c m d : Nat} {la lb : List Nat} (ha : Rd w a n c la) (hb : Rd w b m d lb) {k : Int} (hk : cmpI (val la) (val lb) = k) : Calls Tryd.prog 55 #[.slice a n c, .slice b m d] w (RetIb w k) :=
  hk ▸ (cmp_any ha hb).mono fun e w' ⟨h1, h2⟩ => ⟨h1, h2.below _⟩
theorem shift_b {w : World} {a : Option Addr} {n c : Nat} {l r : List Nat} {k : Int} (h : Rd w a n c l) (hn : n ≤ 8388608) (hk : lm (shN (val l) k) = r) (he : shE k = 0) (h1 : -1000 ≤ k) (h2 : k ≤ 1000) : Calls Tryd.prog 39 #[.slice a n c, .int .i64 k] w (RetE w r 0) := by
  have h3 := shift_any h hn k (by omega) (by omega)
  rwa [hk, he] at h3
theorem div_b {w : World} {a b : Option Addr} {n c m d : Nat} {la lb q r : List Nat} (ha : Rd w a n c la) (hb : Rd w b m d lb) (hn : n ≤ 4194304) (hq : lm (val la / val lb) = q) (hr : lm (dvR (val la) (val lb)) = r) (he : dvE (val lb) = 0) : Calls Tryd.prog 53 #[.slice a n c, .slice b m d] w (RetD w q r 0) := by
  have h3 := divmod_any ha hb hn
  rwa [hq, hr, he] at h3

set_option maxRecDepth 100000 in
set_option maxHeartbeats 4000000 in
theorem den2 {w : World} {s : Bool} {a b : Option Addr} {n c d : Nat} (hb : Rd w b 1 d [2]) (h1 : 1 ≤ 5) :
    Calls Tryd.prog 51 #[.agg #[.bool s, .slice a n c, .slice b 1 d]] w (fun e w' => e = .returned (.slice b 1 d) ∧ Below w.heap.size w w') := by
  have hk : (nb (val [2]) : Int) = 2 := by decide
  have hent := ent1 w #[Value.bool s, Value.slice a n c, Value.slice b 1 d] 27
  go_enter Tryd.func51, Tryd.ntmps51
  go_wp2_with fail
  generalize (w.alloc (.cells #[Value.bool s, Value.slice a n c, Value.slice b 1 d] 27)) = W0 at hent ⊢
  obtain ⟨X_0, hbel_0, hsz_0⟩ := hent
  have cX_0_0 : _ = some (Value.bool s) := X_0.cell 0
  have cX_0_1 : _ = some (Value.slice a n c) := X_0.cell 1
  have cX_0_2 : _ = some (Value.slice b 1 d) := X_0.cell 2
  have hb_0 := hb.below hbel_0
  clear hb
  go_wp2_with fail
  refine (bits_b hb_0 (by omega) hk).mono ?_
  rintro e w1 ⟨rfl, hB⟩
  have hB_1 : Below W0.heap.size W0 w1 := (bl.next hB)
  have X_1 := X_0.next hB_1
  have cX_1_0 : _ = some (Value.bool s) := X_1.cell 0
  have cX_1_1 : _ = some (Value.slice a n c) := X_1.cell 1
  have cX_1_2 : _ = some (Value.slice b 1 d) := X_1.cell 2
  have hb_1 := hb_0.below hB_1
  have hbel_1 := hbel_0.next hB_1
  have hsz_1 := hB_1.size
  clear X_0 cX_0_0 cX_0_1 cX_0_2 hb_0 hbel_0 hB_1
  try clear hB
  go_wp2
  go_ret
  exact ⟨rfl, hbel_1⟩

set_option maxRecDepth 100000 in
set_option maxHeartbeats 4000000 in
theorem den3 {w : World} {s : Bool} {a b : Option Addr} {n c d : Nat} (hb : Rd w b 1 d [3]) (h1 : 1 ≤ 5) :
    Calls Tryd.prog 51 #[.agg #[.bool s, .slice a n c, .slice b 1 d]] w (fun e w' => e = .returned (.slice b 1 d) ∧ Below w.heap.size w w') := by
  have hk : (nb (val [3]) : Int) = 2 := by decide
  have hent := ent1 w #[Value.bool s, Value.slice a n c, Value.slice b 1 d] 27
  go_enter Tryd.func51, Tryd.ntmps51
  go_wp2_with fail
  generalize (w.alloc (.cells #[Value.bool s, Value.slice a n c, Value.slice b 1 d] 27)) = W0 at hent ⊢
  obtain ⟨X_0, hbel_0, hsz_0⟩ := hent
  have cX_0_0 : _ = some (Value.bool s) := X_0.cell 0
  have cX_0_1 : _ = some (Value.slice a n c) := X_0.cell 1
  have cX_0_2 : _ = some (Value.slice b 1 d) := X_0.cell 2
  have hb_0 := hb.below hbel_0
  clear hb
  go_wp2_with fail
  refine (bits_b hb_0 (by omega) hk).mono ?_
  rintro e w1 ⟨rfl, hB⟩
  have hB_1 : Below W0.heap.size W0 w1 := (bl.next hB)
  have X_1 := X_0.next hB_1
  have cX_1_0 : _ = some (Value.bool s) := X_1.cell 0
  have cX_1_1 : _ = some (Value.slice a n c) := X_1.cell 1
  have cX_1_2 : _ = some (Value.slice b 1 d) := X_1.cell 2
  have hb_1 := hb_0.below hB_1
  have hbel_1 := hbel_0.next hB_1
  have hsz_1 := hB_1.size
  clear X_0 cX_0_0 cX_0_1 cX_0_2 hb_0 hbel_0 hB_1
  try clear hB
  go_wp2
  go_ret
  exact ⟨rfl, hbel_1⟩

set_option maxRecDepth 100000 in
set_option maxHeartbeats 8000000 in
theorem cutL2 {w : World} {a b : Option Addr} {c d : Nat} (ha : Rd w a 1 c [1]) (hb : Rd w b 1 d [2]) :
    Calls Tryd.prog 23 #[.agg #[.int .i64 53, .int .i64 (-1074), .int .i64 971], .agg #[.bool false, .slice a 1 c, .slice b 1 d]] w (fun e w' => e = .returned (.tuple #[.int .u64 4503599627370496, .int .i64 (-53), .bool false, .int .i64 (-1), .bool false]) ∧ Below w.heap.size w w') := by
  have k1 := hid (show (nb (val [1]) : Int) = 1 by decide +kernel)
  have k4 := hid (show (nb (val [2]) : Int) = 2 by decide +kernel)
  have s0 := hid (show lm (shN (val [1]) 55) = [0, 8388608] by decide +kernel)
  have t0 := hid (show shE 55 = 0 by decide +kernel)
  have q0 := hid (show lm (val [0, 8388608] / val [2]) = [0, 4194304] by decide +kernel)
  have r0 := hid (show lm (dvR (val [0, 8388608]) (val [2])) = [] by decide +kernel)
  have b0 := hid (show (nb (val [0, 4194304]) : Int) = 55 by decide +kernel)
  have s1 := hid (show lm (shN (val [1]) 54) = [0, 4194304] by decide +kernel)
  have t1 := hid (show shE 54 = 0 by decide +kernel)
  have q1 := hid (show lm (val [0, 4194304] / val [2]) = [0, 2097152] by decide +kernel)
  have r1 := hid (show lm (dvR (val [0, 4194304]) (val [2])) = [] by decide +kernel)
  have b1 := hid (show (nb (val [0, 2097152]) : Int) = 54 by decide +kernel)
  have s2 := hid (show lm (shN (val [1]) 53) = [0, 2097152] by decide +kernel)
  have t2 := hid (show shE 53 = 0 by decide +kernel)
  have q2 := hid (show lm (val [0, 2097152] / val [2]) = [0, 1048576] by decide +kernel)
  have r2 := hid (show lm (dvR (val [0, 2097152]) (val [2])) = [] by decide +kernel)
  have b2 := hid (show (nb (val [0, 1048576]) : Int) = 53 by decide +kernel)
  have de := hid (show dvE (val [2]) = 0 by decide +kernel)
  have uq := hid (show uv (val [0, 1048576]) = 4503599627370496 ∧ decide (val [0, 1048576] < two64) = true by decide +kernel)
  have sr := hid (show lm (shN (val []) 1) = [] by decide +kernel)
  have st := hid (show shE 1 = 0 by decide +kernel)
  have cm := hid (show cmpI (val []) (val [2]) = (-1) by decide +kernel)
  have n1 := hid (show lm (val [1]) = [1] by decide +kernel)
  have hent := ent2 w #[Value.int .i64 53, Value.int .i64 (-1074), Value.int .i64 971] #[Value.bool false, Value.slice a 1 c, Value.slice b 1 d] 53 27
  go_enter Tryd.func23, Tryd.ntmps23
  go_wp2_with fail
  generalize ((w.alloc (.cells #[Value.int .i64 53, Value.int .i64 (-1074), Value.int .i64 971] 53)).alloc (.cells #[Value.bool false, Value.slice a 1 c, Value.slice b 1 d] 27)) = W0 at hent ⊢
  obtain ⟨K_0, R_0, hbel_0, hsz_0⟩ := hent
  have cK_0_0 : _ = some (Value.int .i64 53) := K_0.cell 0
  have cK_0_1 : _ = some (Value.int .i64 (-1074)) := K_0.cell 1
  have cK_0_2 : _ = some (Value.int .i64 971) := K_0.cell 2
  have cR_0_0 : _ = some (Value.bool false) := R_0.cell 0
  have cR_0_1 : _ = some (Value.slice a 1 c) := R_0.cell 1
  have cR_0_2 : _ = some (Value.slice b 1 d) := R_0.cell 2
  have ha_0 := ha.below hbel_0
  clear ha
  have hb_0 := hb.below hbel_0
  clear hb
  go_wp2_with fail
  go_region_held3 (fun w' => w'.cell? ⟨w.heap.size + 1, 0, none⟩ = some (Value.bool false) ∧ w'.cell? ⟨w.heap.size + 1, 1, none⟩ = some (Value.slice a 1 c) ∧ w'.cell? ⟨w.heap.size + 1, 2, none⟩ = some (Value.slice b 1 d))
    (first | exact ⟨cR_0_0, cR_0_1, cR_0_2⟩ | exact ⟨cR_1_0, cR_1_1, cR_1_2⟩ | exact ⟨cR_2_0, cR_2_1, cR_2_2⟩ | go_keep)
    (first
      | (go_at_call 50; ((with_reducible refine (norm_any (ha_0.below bl) (by omega)).mono ?_); (rintro e w1 ⟨na, nn, nc, rfl, hO, hB⟩; have hB_1 : Below W0.heap.size W0 w1 := (bl.next hB); have K_1 := K_0.next hB_1; have cK_1_0 : _ = some (Value.int .i64 53) := K_1.cell 0; have cK_1_1 : _ = some (Value.int .i64 (-1074)) := K_1.cell 1; have cK_1_2 : _ = some (Value.int .i64 971) := K_1.cell 2; have R_1 := R_0.next hB_1; have cR_1_0 : _ = some (Value.bool false) := R_1.cell 0; have cR_1_1 : _ = some (Value.slice a 1 c) := R_1.cell 1; have cR_1_2 : _ = some (Value.slice b 1 d) := R_1.cell 2; have ha_1 := ha_0.below hB_1; have hb_1 := hb_0.below hB_1; have hbel_1 := hbel_0.next hB_1; have hsz_1 := hB_1.size; clear K_0 cK_0_0 cK_0_1 cK_0_2 R_0 cR_0_0 cR_0_1 cR_0_2 ha_0 hb_0 hbel_0 hB_1; have hn1 : Hid (1 = nn) := (by rw [n1.out] at hO; exact hO.len); rw [n1.out] at hO; have N_1 := hO; have ltN := hO.ltB; clear hO; try clear hB)))
      | (go_at_call 51; ((with_reducible refine (den2 (hb_1.below bl) (by omega)).mono ?_); (rintro e w2 ⟨rfl, hB⟩; have hB_2 : Below w1.heap.size w1 w2 := (bl.next hB); have K_2 := K_1.next hB_2; have cK_2_0 : _ = some (Value.int .i64 53) := K_2.cell 0; have cK_2_1 : _ = some (Value.int .i64 (-1074)) := K_2.cell 1; have cK_2_2 : _ = some (Value.int .i64 971) := K_2.cell 2; have R_2 := R_1.next hB_2; have cR_2_0 : _ = some (Value.bool false) := R_2.cell 0; have cR_2_1 : _ = some (Value.slice a 1 c) := R_2.cell 1; have cR_2_2 : _ = some (Value.slice b 1 d) := R_2.cell 2; have ha_2 := ha_1.below hB_2; have hb_2 := hb_1.below hB_2; have N_2 := N_1.below hB_2; have hbel_2 := hbel_1.next hB_2; have hsz_2 := hB_2.size; clear K_1 cK_1_0 cK_1_1 cK_1_2 R_1 cR_1_0 cR_1_1 cR_1_2 ha_1 hb_1 N_1 hbel_1 hB_2; try clear hB))))
  have hn2 := hn1.out
  clear hn1
  subst hn2
  clear ha_2
  go_wp2_with fail
  refine (bits_b N_2.rd (by omega) k1.out).mono ?_
  rintro e w3 ⟨rfl, hB⟩
  have hB_3 : Below w2.heap.size w2 w3 := (bl.next hB)
  have K_3 := K_2.next hB_3
  have cK_3_0 : _ = some (Value.int .i64 53) := K_3.cell 0
  have cK_3_1 : _ = some (Value.int .i64 (-1074)) := K_3.cell 1
  have cK_3_2 : _ = some (Value.int .i64 971) := K_3.cell 2
  have R_3 := R_2.next hB_3
  have cR_3_0 : _ = some (Value.bool false) := R_3.cell 0
  have cR_3_1 : _ = some (Value.slice a 1 c) := R_3.cell 1
  have cR_3_2 : _ = some (Value.slice b 1 d) := R_3.cell 2
  have hb_3 := hb_2.below hB_3
  have N_3 := N_2.below hB_3
  have hbel_3 := hbel_2.next hB_3
  have hsz_3 := hB_3.size
  clear K_2 cK_2_0 cK_2_1 cK_2_2 R_2 cR_2_0 cR_2_1 cR_2_2 hb_2 N_2 hbel_2 hB_3
  try clear hB
  go_wp2_with fail
  refine (bits_b hb_3 (by omega) k4.out).mono ?_
  rintro e w4 ⟨rfl, hB⟩
  have hB_4 : Below w3.heap.size w3 w4 := (bl.next hB)
  have K_4 := K_3.next hB_4
  have cK_4_0 : _ = some (Value.int .i64 53) := K_4.cell 0
  have cK_4_1 : _ = some (Value.int .i64 (-1074)) := K_4.cell 1
  have cK_4_2 : _ = some (Value.int .i64 971) := K_4.cell 2
  have R_4 := R_3.next hB_4
  have cR_4_0 : _ = some (Value.bool false) := R_4.cell 0
  have cR_4_1 : _ = some (Value.slice a 1 c) := R_4.cell 1
  have cR_4_2 : _ = some (Value.slice b 1 d) := R_4.cell 2
  have hb_4 := hb_3.below hB_4
  have N_4 := N_3.below hB_4
  have hbel_4 := hbel_3.next hB_4
  have hsz_4 := hB_4.size
  clear K_3 cK_3_0 cK_3_1 cK_3_2 R_3 cR_3_0 cR_3_1 cR_3_2 hb_3 N_3 hbel_3 hB_4
  try clear hB
  go_wp2_with fail
  refine wp_loop_rounds 3 ?_
  rw [rounds_succ]
  go_wp2_with fail
  refine (shift_b (k := 55) N_4.rd (by omega) s0.out t0.out (by omega) (by omega)).mono ?_
  rintro e w5 ⟨sa0, sn0, sc0, rfl, hO, hB⟩
  have hB_5 : Below w4.heap.size w4 w5 := (bl.next hB)
  have K_5 := K_4.next hB_5
  have cK_5_0 : _ = some (Value.int .i64 53) := K_5.cell 0
  have cK_5_1 : _ = some (Value.int .i64 (-1074)) := K_5.cell 1
  have cK_5_2 : _ = some (Value.int .i64 971) := K_5.cell 2
  have R_5 := R_4.next hB_5
  have cR_5_0 : _ = some (Value.bool false) := R_5.cell 0
  have cR_5_1 : _ = some (Value.slice a 1 c) := R_5.cell 1
  have cR_5_2 : _ = some (Value.slice b 1 d) := R_5.cell 2
  have hb_5 := hb_4.below hB_5
  have N_5 := N_4.below hB_5
  have hbel_5 := hbel_4.next hB_5
  have hsz_5 := hB_5.size
  clear K_4 cK_4_0 cK_4_1 cK_4_2 R_4 cR_4_0 cR_4_1 cR_4_2 hb_4 N_4 hbel_4 hB_5
  have hs0 : 2 = sn0 := hO.len
  have S0_5 := hO
  have ltS0 := hO.ltB
  clear hO
  subst hs0
  try clear hB
  go_wp2_with fail
  refine (div_b S0_5.rd hb_5 (by omega) q0.out r0.out de.out).mono ?_
  rintro e w6 ⟨qa0, qn0, qc0, ra0, rn0, rc0, rfl, hO, hO', hD, hB⟩
  have hB_6 : Below w5.heap.size w5 w6 := (bl.next hB)
  have K_6 := K_5.next hB_6
  have cK_6_0 : _ = some (Value.int .i64 53) := K_6.cell 0
  have cK_6_1 : _ = some (Value.int .i64 (-1074)) := K_6.cell 1
  have cK_6_2 : _ = some (Value.int .i64 971) := K_6.cell 2
  have R_6 := R_5.next hB_6
  have cR_6_0 : _ = some (Value.bool false) := R_6.cell 0
  have cR_6_1 : _ = some (Value.slice a 1 c) := R_6.cell 1
  have cR_6_2 : _ = some (Value.slice b 1 d) := R_6.cell 2
  have hb_6 := hb_5.below hB_6
  have N_6 := N_5.below hB_6
  have S0_6 := S0_5.below hB_6
  have hbel_6 := hbel_5.next hB_6
  have hsz_6 := hB_6.size
  clear K_5 cK_5_0 cK_5_1 cK_5_2 R_5 cR_5_0 cR_5_1 cR_5_2 hb_5 N_5 S0_5 hbel_5 hB_6
  have hq0 : 2 = qn0 := hO.len
  have hr0 : 0 = rn0 := hO'.len
  have Q0_6 := hO
  have ltQ0 := hO.ltB
  have T0_6 := hO'
  have ltT0 := hO'.ltB
  clear hO hO' hD
  subst hq0 hr0
  try clear hB
  go_wp2_with fail
  go_wp2_with fail
  go_region_held3 (fun w' => w'.cell? ⟨w.heap.size, 0, none⟩ = some (Value.int .i64 53) ∧ w'.cell? ⟨w.heap.size, 1, none⟩ = some (Value.int .i64 (-1074)) ∧ w'.cell? ⟨w.heap.size, 2, none⟩ = some (Value.int .i64 971))
    (first | exact ⟨cK_6_0, cK_6_1, cK_6_2⟩ | exact ⟨cK_7_0, cK_7_1, cK_7_2⟩ | go_keep)
    (first
      | (go_at_call 52; ((with_reducible refine (bits_b (Q0_6.below bl).rd (by omega) b0.out).mono ?_); (rintro e w7 ⟨rfl, hB⟩; have hB_7 : Below w6.heap.size w6 w7 := (bl.next hB); have K_7 := K_6.next hB_7; have cK_7_0 : _ = some (Value.int .i64 53) := K_7.cell 0; have cK_7_1 : _ = some (Value.int .i64 (-1074)) := K_7.cell 1; have cK_7_2 : _ = some (Value.int .i64 971) := K_7.cell 2; have R_7 := R_6.next hB_7; have cR_7_0 : _ = some (Value.bool false) := R_7.cell 0; have cR_7_1 : _ = some (Value.slice a 1 c) := R_7.cell 1; have cR_7_2 : _ = some (Value.slice b 1 d) := R_7.cell 2; have hb_7 := hb_6.below hB_7; have N_7 := N_6.below hB_7; have S0_7 := S0_6.below hB_7; have Q0_7 := Q0_6.below hB_7; have T0_7 := T0_6.below hB_7; have hbel_7 := hbel_6.next hB_7; have hsz_7 := hB_7.size; clear K_6 cK_6_0 cK_6_1 cK_6_2 R_6 cR_6_0 cR_6_1 cR_6_2 hb_6 N_6 S0_6 Q0_6 T0_6 hbel_6 hB_7; try clear hB))))
  go_wp2_with fail
  rw [rounds_succ]
  clear S0_7
  clear Q0_7
  clear T0_7
  go_wp2_with fail
  refine (shift_b (k := 54) N_7.rd (by omega) s1.out t1.out (by omega) (by omega)).mono ?_
  rintro e w8 ⟨sa1, sn1, sc1, rfl, hO, hB⟩
  have hB_8 : Below w7.heap.size w7 w8 := (bl.next hB)
  have K_8 := K_7.next hB_8
  have cK_8_0 : _ = some (Value.int .i64 53) := K_8.cell 0
  have cK_8_1 : _ = some (Value.int .i64 (-1074)) := K_8.cell 1
  have cK_8_2 : _ = some (Value.int .i64 971) := K_8.cell 2
  have R_8 := R_7.next hB_8
  have cR_8_0 : _ = some (Value.bool false) := R_8.cell 0
  have cR_8_1 : _ = some (Value.slice a 1 c) := R_8.cell 1
  have cR_8_2 : _ = some (Value.slice b 1 d) := R_8.cell 2
  have hb_8 := hb_7.below hB_8
  have N_8 := N_7.below hB_8
  have hbel_8 := hbel_7.next hB_8
  have hsz_8 := hB_8.size
  clear K_7 cK_7_0 cK_7_1 cK_7_2 R_7 cR_7_0 cR_7_1 cR_7_2 hb_7 N_7 hbel_7 hB_8
  have hs1 : 2 = sn1 := hO.len
  have S1_8 := hO
  have ltS1 := hO.ltB
  clear hO
  subst hs1
  try clear hB
  go_wp2_with fail
  refine (div_b S1_8.rd hb_8 (by omega) q1.out r1.out de.out).mono ?_
  rintro e w9 ⟨qa1, qn1, qc1, ra1, rn1, rc1, rfl, hO, hO', hD, hB⟩
  have hB_9 : Below w8.heap.size w8 w9 := (bl.next hB)
  have K_9 := K_8.next hB_9
  have cK_9_0 : _ = some (Value.int .i64 53) := K_9.cell 0
  have cK_9_1 : _ = some (Value.int .i64 (-1074)) := K_9.cell 1
  have cK_9_2 : _ = some (Value.int .i64 971) := K_9.cell 2
  have R_9 := R_8.next hB_9
  have cR_9_0 : _ = some (Value.bool false) := R_9.cell 0
  have cR_9_1 : _ = some (Value.slice a 1 c) := R_9.cell 1
  have cR_9_2 : _ = some (Value.slice b 1 d) := R_9.cell 2
  have hb_9 := hb_8.below hB_9
  have N_9 := N_8.below hB_9
  have S1_9 := S1_8.below hB_9
  have hbel_9 := hbel_8.next hB_9
  have hsz_9 := hB_9.size
  clear K_8 cK_8_0 cK_8_1 cK_8_2 R_8 cR_8_0 cR_8_1 cR_8_2 hb_8 N_8 S1_8 hbel_8 hB_9
  have hq1 : 2 = qn1 := hO.len
  have hr1 : 0 = rn1 := hO'.len
  have Q1_9 := hO
  have ltQ1 := hO.ltB
  have T1_9 := hO'
  have ltT1 := hO'.ltB
  clear hO hO' hD
  subst hq1 hr1
  try clear hB
  go_wp2_with fail
  go_wp2_with fail
  go_region_held3 (fun w' => w'.cell? ⟨w.heap.size, 0, none⟩ = some (Value.int .i64 53) ∧ w'.cell? ⟨w.heap.size, 1, none⟩ = some (Value.int .i64 (-1074)) ∧ w'.cell? ⟨w.heap.size, 2, none⟩ = some (Value.int .i64 971))
    (first | exact ⟨cK_9_0, cK_9_1, cK_9_2⟩ | exact ⟨cK_10_0, cK_10_1, cK_10_2⟩ | go_keep)
    (first
      | (go_at_call 52; ((with_reducible refine (bits_b (Q1_9.below bl).rd (by omega) b1.out).mono ?_); (rintro e w10 ⟨rfl, hB⟩; have hB_10 : Below w9.heap.size w9 w10 := (bl.next hB); have K_10 := K_9.next hB_10; have cK_10_0 : _ = some (Value.int .i64 53) := K_10.cell 0; have cK_10_1 : _ = some (Value.int .i64 (-1074)) := K_10.cell 1; have cK_10_2 : _ = some (Value.int .i64 971) := K_10.cell 2; have R_10 := R_9.next hB_10; have cR_10_0 : _ = some (Value.bool false) := R_10.cell 0; have cR_10_1 : _ = some (Value.slice a 1 c) := R_10.cell 1; have cR_10_2 : _ = some (Value.slice b 1 d) := R_10.cell 2; have hb_10 := hb_9.below hB_10; have N_10 := N_9.below hB_10; have S1_10 := S1_9.below hB_10; have Q1_10 := Q1_9.below hB_10; have T1_10 := T1_9.below hB_10; have hbel_10 := hbel_9.next hB_10; have hsz_10 := hB_10.size; clear K_9 cK_9_0 cK_9_1 cK_9_2 R_9 cR_9_0 cR_9_1 cR_9_2 hb_9 N_9 S1_9 Q1_9 T1_9 hbel_9 hB_10; try clear hB))))
  go_wp2_with fail
  rw [rounds_succ]
  clear S1_10
  clear Q1_10
  clear T1_10
  go_wp2_with fail
  refine (shift_b (k := 53) N_10.rd (by omega) s2.out t2.out (by omega) (by omega)).mono ?_
  rintro e w11 ⟨sa2, sn2, sc2, rfl, hO, hB⟩
  have hB_11 : Below w10.heap.size w10 w11 := (bl.next hB)
  have K_11 := K_10.next hB_11
  have cK_11_0 : _ = some (Value.int .i64 53) := K_11.cell 0
  have cK_11_1 : _ = some (Value.int .i64 (-1074)) := K_11.cell 1
  have cK_11_2 : _ = some (Value.int .i64 971) := K_11.cell 2
  have R_11 := R_10.next hB_11
  have cR_11_0 : _ = some (Value.bool false) := R_11.cell 0
  have cR_11_1 : _ = some (Value.slice a 1 c) := R_11.cell 1
  have cR_11_2 : _ = some (Value.slice b 1 d) := R_11.cell 2
  have hb_11 := hb_10.below hB_11
  have N_11 := N_10.below hB_11
  have hbel_11 := hbel_10.next hB_11
  have hsz_11 := hB_11.size
  clear K_10 cK_10_0 cK_10_1 cK_10_2 R_10 cR_10_0 cR_10_1 cR_10_2 hb_10 N_10 hbel_10 hB_11
  have hs2 : 2 = sn2 := hO.len
  have S2_11 := hO
  have ltS2 := hO.ltB
  clear hO
  subst hs2
  try clear hB
  go_wp2_with fail
  refine (div_b S2_11.rd hb_11 (by omega) q2.out r2.out de.out).mono ?_
  rintro e w12 ⟨qa2, qn2, qc2, ra2, rn2, rc2, rfl, hO, hO', hD, hB⟩
  have hB_12 : Below w11.heap.size w11 w12 := (bl.next hB)
  have K_12 := K_11.next hB_12
  have cK_12_0 : _ = some (Value.int .i64 53) := K_12.cell 0
  have cK_12_1 : _ = some (Value.int .i64 (-1074)) := K_12.cell 1
  have cK_12_2 : _ = some (Value.int .i64 971) := K_12.cell 2
  have R_12 := R_11.next hB_12
  have cR_12_0 : _ = some (Value.bool false) := R_12.cell 0
  have cR_12_1 : _ = some (Value.slice a 1 c) := R_12.cell 1
  have cR_12_2 : _ = some (Value.slice b 1 d) := R_12.cell 2
  have hb_12 := hb_11.below hB_12
  have N_12 := N_11.below hB_12
  have S2_12 := S2_11.below hB_12
  have hbel_12 := hbel_11.next hB_12
  have hsz_12 := hB_12.size
  clear K_11 cK_11_0 cK_11_1 cK_11_2 R_11 cR_11_0 cR_11_1 cR_11_2 hb_11 N_11 S2_11 hbel_11 hB_12
  have hq2 : 2 = qn2 := hO.len
  have hr2 : 0 = rn2 := hO'.len
  have Q2_12 := hO
  have ltQ2 := hO.ltB
  have T2_12 := hO'
  have ltT2 := hO'.ltB
  clear hO hO' hD
  subst hq2 hr2
  try clear hB
  go_wp2_with fail
  go_wp2_with fail
  go_region_held3 (fun w' => w'.cell? ⟨w.heap.size, 0, none⟩ = some (Value.int .i64 53) ∧ w'.cell? ⟨w.heap.size, 1, none⟩ = some (Value.int .i64 (-1074)) ∧ w'.cell? ⟨w.heap.size, 2, none⟩ = some (Value.int .i64 971))
    (first | exact ⟨cK_12_0, cK_12_1, cK_12_2⟩ | exact ⟨cK_13_0, cK_13_1, cK_13_2⟩ | go_keep)
    (first
      | (go_at_call 52; ((with_reducible refine (bits_b (Q2_12.below bl).rd (by omega) b2.out).mono ?_); (rintro e w13 ⟨rfl, hB⟩; have hB_13 : Below w12.heap.size w12 w13 := (bl.next hB); have K_13 := K_12.next hB_13; have cK_13_0 : _ = some (Value.int .i64 53) := K_13.cell 0; have cK_13_1 : _ = some (Value.int .i64 (-1074)) := K_13.cell 1; have cK_13_2 : _ = some (Value.int .i64 971) := K_13.cell 2; have R_13 := R_12.next hB_13; have cR_13_0 : _ = some (Value.bool false) := R_13.cell 0; have cR_13_1 : _ = some (Value.slice a 1 c) := R_13.cell 1; have cR_13_2 : _ = some (Value.slice b 1 d) := R_13.cell 2; have hb_13 := hb_12.below hB_13; have N_13 := N_12.below hB_13; have S2_13 := S2_12.below hB_13; have Q2_13 := Q2_12.below hB_13; have T2_13 := T2_12.below hB_13; have hbel_13 := hbel_12.next hB_13; have hsz_13 := hB_13.size; clear K_12 cK_12_0 cK_12_1 cK_12_2 R_12 cR_12_0 cR_12_1 cR_12_2 hb_12 N_12 S2_12 Q2_12 T2_12 hbel_12 hB_13; try clear hB))))
  go_wp2_with fail
  refine (uint_any Q2_13.rd).mono ?_
  rintro e w14 ⟨rfl, hB⟩
  have hB_14 : Below w13.heap.size w13 w14 := (bl.next hB)
  have K_14 := K_13.next hB_14
  have cK_14_0 : _ = some (Value.int .i64 53) := K_14.cell 0
  have cK_14_1 : _ = some (Value.int .i64 (-1074)) := K_14.cell 1
  have cK_14_2 : _ = some (Value.int .i64 971) := K_14.cell 2
  have R_14 := R_13.next hB_14
  have cR_14_0 : _ = some (Value.bool false) := R_14.cell 0
  have cR_14_1 : _ = some (Value.slice a 1 c) := R_14.cell 1
  have cR_14_2 : _ = some (Value.slice b 1 d) := R_14.cell 2
  have hb_14 := hb_13.below hB_14
  have N_14 := N_13.below hB_14
  have S2_14 := S2_13.below hB_14
  have Q2_14 := Q2_13.below hB_14
  have T2_14 := T2_13.below hB_14
  have hbel_14 := hbel_13.next hB_14
  have hsz_14 := hB_14.size
  clear K_13 cK_13_0 cK_13_1 cK_13_2 R_13 cR_13_0 cR_13_1 cR_13_2 hb_13 N_13 S2_13 Q2_13 T2_13 hbel_13 hB_14
  try clear hB
  rw [uq.out.1, uq.out.2]
  go_wp2_with fail
  refine (shift_b (k := 1) T2_14.rd (by omega) sr.out st.out (by omega) (by omega)).mono ?_
  rintro e w15 ⟨wa, wn, wd, rfl, hO, hB⟩
  have hB_15 : Below w14.heap.size w14 w15 := (bl.next hB)
  have K_15 := K_14.next hB_15
  have cK_15_0 : _ = some (Value.int .i64 53) := K_15.cell 0
  have cK_15_1 : _ = some (Value.int .i64 (-1074)) := K_15.cell 1
  have cK_15_2 : _ = some (Value.int .i64 971) := K_15.cell 2
  have R_15 := R_14.next hB_15
  have cR_15_0 : _ = some (Value.bool false) := R_15.cell 0
  have cR_15_1 : _ = some (Value.slice a 1 c) := R_15.cell 1
  have cR_15_2 : _ = some (Value.slice b 1 d) := R_15.cell 2
  have hb_15 := hb_14.below hB_15
  have N_15 := N_14.below hB_15
  have S2_15 := S2_14.below hB_15
  have Q2_15 := Q2_14.below hB_15
  have T2_15 := T2_14.below hB_15
  have hbel_15 := hbel_14.next hB_15
  have hsz_15 := hB_15.size
  clear K_14 cK_14_0 cK_14_1 cK_14_2 R_14 cR_14_0 cR_14_1 cR_14_2 hb_14 N_14 S2_14 Q2_14 T2_14 hbel_14 hB_15
  have hw1 : 0 = wn := hO.len
  have W2_15 := hO
  have ltW2 := hO.ltB
  clear hO
  subst hw1
  try clear hB
  go_wp2_with fail
  go_wp2_with fail
  go_region_held3 (fun w' => w'.cell? ⟨w.heap.size, 0, none⟩ = some (Value.int .i64 53) ∧ w'.cell? ⟨w.heap.size, 1, none⟩ = some (Value.int .i64 (-1074)) ∧ w'.cell? ⟨w.heap.size, 2, none⟩ = some (Value.int .i64 971))
    (first | exact ⟨cK_15_0, cK_15_1, cK_15_2⟩ | exact ⟨cK_16_0, cK_16_1, cK_16_2⟩ | go_keep)
    (first
      | (go_at_call 55; ((with_reducible refine (cmp_b (W2_15.below bl).rd (hb_15.below bl) cm.out).mono ?_); (rintro e w16 ⟨rfl, hB⟩; have hB_16 : Below w15.heap.size w15 w16 := (bl.next hB); have K_16 := K_15.next hB_16; have cK_16_0 : _ = some (Value.int .i64 53) := K_16.cell 0; have cK_16_1 : _ = some (Value.int .i64 (-1074)) := K_16.cell 1; have cK_16_2 : _ = some (Value.int .i64 971) := K_16.cell 2; have R_16 := R_15.next hB_16; have cR_16_0 : _ = some (Value.bool false) := R_16.cell 0; have cR_16_1 : _ = some (Value.slice a 1 c) := R_16.cell 1; have cR_16_2 : _ = some (Value.slice b 1 d) := R_16.cell 2; have hb_16 := hb_15.below hB_16; have N_16 := N_15.below hB_16; have S2_16 := S2_15.below hB_16; have Q2_16 := Q2_15.below hB_16; have T2_16 := T2_15.below hB_16; have W2_16 := W2_15.below hB_16; have hbel_16 := hbel_15.next hB_16; have hsz_16 := hB_16.size; clear K_15 cK_15_0 cK_15_1 cK_15_2 R_15 cR_15_0 cR_15_1 cR_15_2 hb_15 N_15 S2_15 Q2_15 T2_15 W2_15 hbel_15 hB_16; try clear hB))))
  go_wp2
  refine bodyPost_ret (v := .tuple #[.int .u64 4503599627370496, .int .i64 (-53), .bool false, .int .i64 (-1), .bool false]) (by simp [results, Tryd.results23, go_sem] <;> omega) rfl ?_
  exact ⟨rfl, hbel_16⟩

set_option maxRecDepth 100000 in
set_option maxHeartbeats 8000000 in
theorem cutS2 {w : World} {a b : Option Addr} {c d : Nat} (ha : Rd w a 1 c [1]) (hb : Rd w b 1 d [2]) :
    Calls Tryd.prog 23 #[.agg #[.int .i64 24, .int .i64 (-149), .int .i64 104], .agg #[.bool false, .slice a 1 c, .slice b 1 d]] w (fun e w' => e = .returned (.tuple #[.int .u64 8388608, .int .i64 (-24), .bool false, .int .i64 (-1), .bool false]) ∧ Below w.heap.size w w') := by
  have k1 := hid (show (nb (val [1]) : Int) = 1 by decide +kernel)
  have k4 := hid (show (nb (val [2]) : Int) = 2 by decide +kernel)
  have s0 := hid (show lm (shN (val [1]) 26) = [67108864] by decide +kernel)
  have t0 := hid (show shE 26 = 0 by decide +kernel)
  have q0 := hid (show lm (val [67108864] / val [2]) = [33554432] by decide +kernel)
  have r0 := hid (show lm (dvR (val [67108864]) (val [2])) = [] by decide +kernel)
  have b0 := hid (show (nb (val [33554432]) : Int) = 26 by decide +kernel)
  have s1 := hid (show lm (shN (val [1]) 25) = [33554432] by decide +kernel)
  have t1 := hid (show shE 25 = 0 by decide +kernel)
  have q1 := hid (show lm (val [33554432] / val [2]) = [16777216] by decide +kernel)
  have r1 := hid (show lm (dvR (val [33554432]) (val [2])) = [] by decide +kernel)
  have b1 := hid (show (nb (val [16777216]) : Int) = 25 by decide +kernel)
  have s2 := hid (show lm (shN (val [1]) 24) = [16777216] by decide +kernel)
  have t2 := hid (show shE 24 = 0 by decide +kernel)
  have q2 := hid (show lm (val [16777216] / val [2]) = [8388608] by decide +kernel)
  have r2 := hid (show lm (dvR (val [16777216]) (val [2])) = [] by decide +kernel)
  have b2 := hid (show (nb (val [8388608]) : Int) = 24 by decide +kernel)
  have de := hid (show dvE (val [2]) = 0 by decide +kernel)
  have uq := hid (show uv (val [8388608]) = 8388608 ∧ decide (val [8388608] < two64) = true by decide +kernel)
  have sr := hid (show lm (shN (val []) 1) = [] by decide +kernel)
  have st := hid (show shE 1 = 0 by decide +kernel)
  have cm := hid (show cmpI (val []) (val [2]) = (-1) by decide +kernel)
  have n1 := hid (show lm (val [1]) = [1] by decide +kernel)
  have hent := ent2 w #[Value.int .i64 24, Value.int .i64 (-149), Value.int .i64 104] #[Value.bool false, Value.slice a 1 c, Value.slice b 1 d] 53 27
  go_enter Tryd.func23, Tryd.ntmps23
  go_wp2_with fail
  generalize ((w.alloc (.cells #[Value.int .i64 24, Value.int .i64 (-149), Value.int .i64 104] 53)).alloc (.cells #[Value.bool false, Value.slice a 1 c, Value.slice b 1 d] 27)) = W0 at hent ⊢
  obtain ⟨K_0, R_0, hbel_0, hsz_0⟩ := hent
  have cK_0_0 : _ = some (Value.int .i64 24) := K_0.cell 0
  have cK_0_1 : _ = some (Value.int .i64 (-149)) := K_0.cell 1
  have cK_0_2 : _ = some (Value.int .i64 104) := K_0.cell 2
  have cR_0_0 : _ = some (Value.bool false) := R_0.cell 0
  have cR_0_1 : _ = some (Value.slice a 1 c) := R_0.cell 1
  have cR_0_2 : _ = some (Value.slice b 1 d) := R_0.cell 2
  have ha_0 := ha.below hbel_0
  clear ha
  have hb_0 := hb.below hbel_0
  clear hb
  go_wp2_with fail
  go_region_held3 (fun w' => w'.cell? ⟨w.heap.size + 1, 0, none⟩ = some (Value.bool false) ∧ w'.cell? ⟨w.heap.size + 1, 1, none⟩ = some (Value.slice a 1 c) ∧ w'.cell? ⟨w.heap.size + 1, 2, none⟩ = some (Value.slice b 1 d))
    (first | exact ⟨cR_0_0, cR_0_1, cR_0_2⟩ | exact ⟨cR_1_0, cR_1_1, cR_1_2⟩ | exact ⟨cR_2_0, cR_2_1, cR_2_2⟩ | go_keep)
    (first
      | (go_at_call 50; ((with_reducible refine (norm_any (ha_0.below bl) (by omega)).mono ?_); (rintro e w1 ⟨na, nn, nc, rfl, hO, hB⟩; have hB_1 : Below W0.heap.size W0 w1 := (bl.next hB); have K_1 := K_0.next hB_1; have cK_1_0 : _ = some (Value.int .i64 24) := K_1.cell 0; have cK_1_1 : _ = some (Value.int .i64 (-149)) := K_1.cell 1; have cK_1_2 : _ = some (Value.int .i64 104) := K_1.cell 2; have R_1 := R_0.next hB_1; have cR_1_0 : _ = some (Value.bool false) := R_1.cell 0; have cR_1_1 : _ = some (Value.slice a 1 c) := R_1.cell 1; have cR_1_2 : _ = some (Value.slice b 1 d) := R_1.cell 2; have ha_1 := ha_0.below hB_1; have hb_1 := hb_0.below hB_1; have hbel_1 := hbel_0.next hB_1; have hsz_1 := hB_1.size; clear K_0 cK_0_0 cK_0_1 cK_0_2 R_0 cR_0_0 cR_0_1 cR_0_2 ha_0 hb_0 hbel_0 hB_1; have hn1 : Hid (1 = nn) := (by rw [n1.out] at hO; exact hO.len); rw [n1.out] at hO; have N_1 := hO; have ltN := hO.ltB; clear hO; try clear hB)))
      | (go_at_call 51; ((with_reducible refine (den2 (hb_1.below bl) (by omega)).mono ?_); (rintro e w2 ⟨rfl, hB⟩; have hB_2 : Below w1.heap.size w1 w2 := (bl.next hB); have K_2 := K_1.next hB_2; have cK_2_0 : _ = some (Value.int .i64 24) := K_2.cell 0; have cK_2_1 : _ = some (Value.int .i64 (-149)) := K_2.cell 1; have cK_2_2 : _ = some (Value.int .i64 104) := K_2.cell 2; have R_2 := R_1.next hB_2; have cR_2_0 : _ = some (Value.bool false) := R_2.cell 0; have cR_2_1 : _ = some (Value.slice a 1 c) := R_2.cell 1; have cR_2_2 : _ = some (Value.slice b 1 d) := R_2.cell 2; have ha_2 := ha_1.below hB_2; have hb_2 := hb_1.below hB_2; have N_2 := N_1.below hB_2; have hbel_2 := hbel_1.next hB_2; have hsz_2 := hB_2.size; clear K_1 cK_1_0 cK_1_1 cK_1_2 R_1 cR_1_0 cR_1_1 cR_1_2 ha_1 hb_1 N_1 hbel_1 hB_2; try clear hB))))
  have hn2 := hn1.out
  clear hn1
  subst hn2
  clear ha_2
  go_wp2_with fail
  refine (bits_b N_2.rd (by omega) k1.out).mono ?_
  rintro e w3 ⟨rfl, hB⟩
  have hB_3 : Below w2.heap.size w2 w3 := (bl.next hB)
  have K_3 := K_2.next hB_3
  have cK_3_0 : _ = some (Value.int .i64 24) := K_3.cell 0
  have cK_3_1 : _ = some (Value.int .i64 (-149)) := K_3.cell 1
  have cK_3_2 : _ = some (Value.int .i64 104) := K_3.cell 2
  have R_3 := R_2.next hB_3
  have cR_3_0 : _ = some (Value.bool false) := R_3.cell 0
  have cR_3_1 : _ = some (Value.slice a 1 c) := R_3.cell 1
  have cR_3_2 : _ = some (Value.slice b 1 d) := R_3.cell 2
  have hb_3 := hb_2.below hB_3
  have N_3 := N_2.below hB_3
  have hbel_3 := hbel_2.next hB_3
  have hsz_3 := hB_3.size
  clear K_2 cK_2_0 cK_2_1 cK_2_2 R_2 cR_2_0 cR_2_1 cR_2_2 hb_2 N_2 hbel_2 hB_3
  try clear hB
  go_wp2_with fail
  refine (bits_b hb_3 (by omega) k4.out).mono ?_
  rintro e w4 ⟨rfl, hB⟩
  have hB_4 : Below w3.heap.size w3 w4 := (bl.next hB)
  have K_4 := K_3.next hB_4
  have cK_4_0 : _ = some (Value.int .i64 24) := K_4.cell 0
  have cK_4_1 : _ = some (Value.int .i64 (-149)) := K_4.cell 1
  have cK_4_2 : _ = some (Value.int .i64 104) := K_4.cell 2
  have R_4 := R_3.next hB_4
  have cR_4_0 : _ = some (Value.bool false) := R_4.cell 0
  have cR_4_1 : _ = some (Value.slice a 1 c) := R_4.cell 1
  have cR_4_2 : _ = some (Value.slice b 1 d) := R_4.cell 2
  have hb_4 := hb_3.below hB_4
  have N_4 := N_3.below hB_4
  have hbel_4 := hbel_3.next hB_4
  have hsz_4 := hB_4.size
  clear K_3 cK_3_0 cK_3_1 cK_3_2 R_3 cR_3_0 cR_3_1 cR_3_2 hb_3 N_3 hbel_3 hB_4
  try clear hB
  go_wp2_with fail
  refine wp_loop_rounds 3 ?_
  rw [rounds_succ]
  go_wp2_with fail
  refine (shift_b (k := 26) N_4.rd (by omega) s0.out t0.out (by omega) (by omega)).mono ?_
  rintro e w5 ⟨sa0, sn0, sc0, rfl, hO, hB⟩
  have hB_5 : Below w4.heap.size w4 w5 := (bl.next hB)
  have K_5 := K_4.next hB_5
  have cK_5_0 : _ = some (Value.int .i64 24) := K_5.cell 0
  have cK_5_1 : _ = some (Value.int .i64 (-149)) := K_5.cell 1
  have cK_5_2 : _ = some (Value.int .i64 104) := K_5.cell 2
  have R_5 := R_4.next hB_5
  have cR_5_0 : _ = some (Value.bool false) := R_5.cell 0
  have cR_5_1 : _ = some (Value.slice a 1 c) := R_5.cell 1
  have cR_5_2 : _ = some (Value.slice b 1 d) := R_5.cell 2
  have hb_5 := hb_4.below hB_5
  have N_5 := N_4.below hB_5
  have hbel_5 := hbel_4.next hB_5
  have hsz_5 := hB_5.size
  clear K_4 cK_4_0 cK_4_1 cK_4_2 R_4 cR_4_0 cR_4_1 cR_4_2 hb_4 N_4 hbel_4 hB_5
  have hs0 : 1 = sn0 := hO.len
  have S0_5 := hO
  have ltS0 := hO.ltB
  clear hO
  subst hs0
  try clear hB
  go_wp2_with fail
  refine (div_b S0_5.rd hb_5 (by omega) q0.out r0.out de.out).mono ?_
  rintro e w6 ⟨qa0, qn0, qc0, ra0, rn0, rc0, rfl, hO, hO', hD, hB⟩
  have hB_6 : Below w5.heap.size w5 w6 := (bl.next hB)
  have K_6 := K_5.next hB_6
  have cK_6_0 : _ = some (Value.int .i64 24) := K_6.cell 0
  have cK_6_1 : _ = some (Value.int .i64 (-149)) := K_6.cell 1
  have cK_6_2 : _ = some (Value.int .i64 104) := K_6.cell 2
  have R_6 := R_5.next hB_6
  have cR_6_0 : _ = some (Value.bool false) := R_6.cell 0
  have cR_6_1 : _ = some (Value.slice a 1 c) := R_6.cell 1
  have cR_6_2 : _ = some (Value.slice b 1 d) := R_6.cell 2
  have hb_6 := hb_5.below hB_6
  have N_6 := N_5.below hB_6
  have S0_6 := S0_5.below hB_6
  have hbel_6 := hbel_5.next hB_6
  have hsz_6 := hB_6.size
  clear K_5 cK_5_0 cK_5_1 cK_5_2 R_5 cR_5_0 cR_5_1 cR_5_2 hb_5 N_5 S0_5 hbel_5 hB_6
  have hq0 : 1 = qn0 := hO.len
  have hr0 : 0 = rn0 := hO'.len
  have Q0_6 := hO
  have ltQ0 := hO.ltB
  have T0_6 := hO'
  have ltT0 := hO'.ltB
  clear hO hO' hD
  subst hq0 hr0
  try clear hB
  go_wp2_with fail
  go_wp2_with fail
  go_region_held3 (fun w' => w'.cell? ⟨w.heap.size, 0, none⟩ = some (Value.int .i64 24) ∧ w'.cell? ⟨w.heap.size, 1, none⟩ = some (Value.int .i64 (-149)) ∧ w'.cell? ⟨w.heap.size, 2, none⟩ = some (Value.int .i64 104))
    (first | exact ⟨cK_6_0, cK_6_1, cK_6_2⟩ | exact ⟨cK_7_0, cK_7_1, cK_7_2⟩ | go_keep)
    (first
      | (go_at_call 52; ((with_reducible refine (bits_b (Q0_6.below bl).rd (by omega) b0.out).mono ?_); (rintro e w7 ⟨rfl, hB⟩; have hB_7 : Below w6.heap.size w6 w7 := (bl.next hB); have K_7 := K_6.next hB_7; have cK_7_0 : _ = some (Value.int .i64 24) := K_7.cell 0; have cK_7_1 : _ = some (Value.int .i64 (-149)) := K_7.cell 1; have cK_7_2 : _ = some (Value.int .i64 104) := K_7.cell 2; have R_7 := R_6.next hB_7; have cR_7_0 : _ = some (Value.bool false) := R_7.cell 0; have cR_7_1 : _ = some (Value.slice a 1 c) := R_7.cell 1; have cR_7_2 : _ = some (Value.slice b 1 d) := R_7.cell 2; have hb_7 := hb_6.below hB_7; have N_7 := N_6.below hB_7; have S0_7 := S0_6.below hB_7; have Q0_7 := Q0_6.below hB_7; have T0_7 := T0_6.below hB_7; have hbel_7 := hbel_6.next hB_7; have hsz_7 := hB_7.size; clear K_6 cK_6_0 cK_6_1 cK_6_2 R_6 cR_6_0 cR_6_1 cR_6_2 hb_6 N_6 S0_6 Q0_6 T0_6 hbel_6 hB_7; try clear hB))))
  go_wp2_with fail
  rw [rounds_succ]
  clear S0_7
  clear Q0_7
  clear T0_7
  go_wp2_with fail
  refine (shift_b (k := 25) N_7.rd (by omega) s1.out t1.out (by omega) (by omega)).mono ?_
  rintro e w8 ⟨sa1, sn1, sc1, rfl, hO, hB⟩
  have hB_8 : Below w7.heap.size w7 w8 := (bl.next hB)
  have K_8 := K_7.next hB_8
  have cK_8_0 : _ = some (Value.int .i64 24) := K_8.cell 0
  have cK_8_1 : _ = some (Value.int .i64 (-149)) := K_8.cell 1
  have cK_8_2 : _ = some (Value.int .i64 104) := K_8.cell 2
  have R_8 := R_7.next hB_8
  have cR_8_0 : _ = some (Value.bool false) := R_8.cell 0
  have cR_8_1 : _ = some (Value.slice a 1 c) := R_8.cell 1
  have cR_8_2 : _ = some (Value.slice b 1 d) := R_8.cell 2
  have hb_8 := hb_7.below hB_8
  have N_8 := N_7.below hB_8
  have hbel_8 := hbel_7.next hB_8
  have hsz_8 := hB_8.size
  clear K_7 cK_7_0 cK_7_1 cK_7_2 R_7 cR_7_0 cR_7_1 cR_7_2 hb_7 N_7 hbel_7 hB_8
  have hs1 : 1 = sn1 := hO.len
  have S1_8 := hO
  have ltS1 := hO.ltB
  clear hO
  subst hs1
  try clear hB
  go_wp2_with fail
  refine (div_b S1_8.rd hb_8 (by omega) q1.out r1.out de.out).mono ?_
  rintro e w9 ⟨qa1, qn1, qc1, ra1, rn1, rc1, rfl, hO, hO', hD, hB⟩
  have hB_9 : Below w8.heap.size w8 w9 := (bl.next hB)
  have K_9 := K_8.next hB_9
  have cK_9_0 : _ = some (Value.int .i64 24) := K_9.cell 0
  have cK_9_1 : _ = some (Value.int .i64 (-149)) := K_9.cell 1
  have cK_9_2 : _ = some (Value.int .i64 104) := K_9.cell 2
  have R_9 := R_8.next hB_9
  have cR_9_0 : _ = some (Value.bool false) := R_9.cell 0
  have cR_9_1 : _ = some (Value.slice a 1 c) := R_9.cell 1
  have cR_9_2 : _ = some (Value.slice b 1 d) := R_9.cell 2
  have hb_9 := hb_8.below hB_9
  have N_9 := N_8.below hB_9
  have S1_9 := S1_8.below hB_9
  have hbel_9 := hbel_8.next hB_9
  have hsz_9 := hB_9.size
  clear K_8 cK_8_0 cK_8_1 cK_8_2 R_8 cR_8_0 cR_8_1 cR_8_2 hb_8 N_8 S1_8 hbel_8 hB_9
  have hq1 : 1 = qn1 := hO.len
  have hr1 : 0 = rn1 := hO'.len
  have Q1_9 := hO
  have ltQ1 := hO.ltB
  have T1_9 := hO'
  have ltT1 := hO'.ltB
  clear hO hO' hD
  subst hq1 hr1
  try clear hB
  go_wp2_with fail
  go_wp2_with fail
  go_region_held3 (fun w' => w'.cell? ⟨w.heap.size, 0, none⟩ = some (Value.int .i64 24) ∧ w'.cell? ⟨w.heap.size, 1, none⟩ = some (Value.int .i64 (-149)) ∧ w'.cell? ⟨w.heap.size, 2, none⟩ = some (Value.int .i64 104))
    (first | exact ⟨cK_9_0, cK_9_1, cK_9_2⟩ | exact ⟨cK_10_0, cK_10_1, cK_10_2⟩ | go_keep)
    (first
      | (go_at_call 52; ((with_reducible refine (bits_b (Q1_9.below bl).rd (by omega) b1.out).mono ?_); (rintro e w10 ⟨rfl, hB⟩; have hB_10 : Below w9.heap.size w9 w10 := (bl.next hB); have K_10 := K_9.next hB_10; have cK_10_0 : _ = some (Value.int .i64 24) := K_10.cell 0; have cK_10_1 : _ = some (Value.int .i64 (-149)) := K_10.cell 1; have cK_10_2 : _ = some (Value.int .i64 104) := K_10.cell 2; have R_10 := R_9.next hB_10; have cR_10_0 : _ = some (Value.bool false) := R_10.cell 0; have cR_10_1 : _ = some (Value.slice a 1 c) := R_10.cell 1; have cR_10_2 : _ = some (Value.slice b 1 d) := R_10.cell 2; have hb_10 := hb_9.below hB_10; have N_10 := N_9.below hB_10; have S1_10 := S1_9.below hB_10; have Q1_10 := Q1_9.below hB_10; have T1_10 := T1_9.below hB_10; have hbel_10 := hbel_9.next hB_10; have hsz_10 := hB_10.size; clear K_9 cK_9_0 cK_9_1 cK_9_2 R_9 cR_9_0 cR_9_1 cR_9_2 hb_9 N_9 S1_9 Q1_9 T1_9 hbel_9 hB_10; try clear hB))))
  go_wp2_with fail
  rw [rounds_succ]
  clear S1_10
  clear Q1_10
  clear T1_10
  go_wp2_with fail
  refine (shift_b (k := 24) N_10.rd (by omega) s2.out t2.out (by omega) (by omega)).mono ?_
  rintro e w11 ⟨sa2, sn2, sc2, rfl, hO, hB⟩
  have hB_11 : Below w10.heap.size w10 w11 := (bl.next hB)
  have K_11 := K_10.next hB_11
  have cK_11_0 : _ = some (Value.int .i64 24) := K_11.cell 0
  have cK_11_1 : _ = some (Value.int .i64 (-149)) := K_11.cell 1
  have cK_11_2 : _ = some (Value.int .i64 104) := K_11.cell 2
  have R_11 := R_10.next hB_11
  have cR_11_0 : _ = some (Value.bool false) := R_11.cell 0
  have cR_11_1 : _ = some (Value.slice a 1 c) := R_11.cell 1
  have cR_11_2 : _ = some (Value.slice b 1 d) := R_11.cell 2
  have hb_11 := hb_10.below hB_11
  have N_11 := N_10.below hB_11
  have hbel_11 := hbel_10.next hB_11
  have hsz_11 := hB_11.size
  clear K_10 cK_10_0 cK_10_1 cK_10_2 R_10 cR_10_0 cR_10_1 cR_10_2 hb_10 N_10 hbel_10 hB_11
  have hs2 : 1 = sn2 := hO.len
  have S2_11 := hO
  have ltS2 := hO.ltB
  clear hO
  subst hs2
  try clear hB
  go_wp2_with fail
  refine (div_b S2_11.rd hb_11 (by omega) q2.out r2.out de.out).mono ?_
  rintro e w12 ⟨qa2, qn2, qc2, ra2, rn2, rc2, rfl, hO, hO', hD, hB⟩
  have hB_12 : Below w11.heap.size w11 w12 := (bl.next hB)
  have K_12 := K_11.next hB_12
  have cK_12_0 : _ = some (Value.int .i64 24) := K_12.cell 0
  have cK_12_1 : _ = some (Value.int .i64 (-149)) := K_12.cell 1
  have cK_12_2 : _ = some (Value.int .i64 104) := K_12.cell 2
  have R_12 := R_11.next hB_12
  have cR_12_0 : _ = some (Value.bool false) := R_12.cell 0
  have cR_12_1 : _ = some (Value.slice a 1 c) := R_12.cell 1
  have cR_12_2 : _ = some (Value.slice b 1 d) := R_12.cell 2
  have hb_12 := hb_11.below hB_12
  have N_12 := N_11.below hB_12
  have S2_12 := S2_11.below hB_12
  have hbel_12 := hbel_11.next hB_12
  have hsz_12 := hB_12.size
  clear K_11 cK_11_0 cK_11_1 cK_11_2 R_11 cR_11_0 cR_11_1 cR_11_2 hb_11 N_11 S2_11 hbel_11 hB_12
  have hq2 : 1 = qn2 := hO.len
  have hr2 : 0 = rn2 := hO'.len
  have Q2_12 := hO
  have ltQ2 := hO.ltB
  have T2_12 := hO'
  have ltT2 := hO'.ltB
  clear hO hO' hD
  subst hq2 hr2
  try clear hB
  go_wp2_with fail
  go_wp2_with fail
  go_region_held3 (fun w' => w'.cell? ⟨w.heap.size, 0, none⟩ = some (Value.int .i64 24) ∧ w'.cell? ⟨w.heap.size, 1, none⟩ = some (Value.int .i64 (-149)) ∧ w'.cell? ⟨w.heap.size, 2, none⟩ = some (Value.int .i64 104))
    (first | exact ⟨cK_12_0, cK_12_1, cK_12_2⟩ | exact ⟨cK_13_0, cK_13_1, cK_13_2⟩ | go_keep)
    (first
      | (go_at_call 52; ((with_reducible refine (bits_b (Q2_12.below bl).rd (by omega) b2.out).mono ?_); (rintro e w13 ⟨rfl, hB⟩; have hB_13 : Below w12.heap.size w12 w13 := (bl.next hB); have K_13 := K_12.next hB_13; have cK_13_0 : _ = some (Value.int .i64 24) := K_13.cell 0; have cK_13_1 : _ = some (Value.int .i64 (-149)) := K_13.cell 1; have cK_13_2 : _ = some (Value.int .i64 104) := K_13.cell 2; have R_13 := R_12.next hB_13; have cR_13_0 : _ = some (Value.bool false) := R_13.cell 0; have cR_13_1 : _ = some (Value.slice a 1 c) := R_13.cell 1; have cR_13_2 : _ = some (Value.slice b 1 d) := R_13.cell 2; have hb_13 := hb_12.below hB_13; have N_13 := N_12.below hB_13; have S2_13 := S2_12.below hB_13; have Q2_13 := Q2_12.below hB_13; have T2_13 := T2_12.below hB_13; have hbel_13 := hbel_12.next hB_13; have hsz_13 := hB_13.size; clear K_12 cK_12_0 cK_12_1 cK_12_2 R_12 cR_12_0 cR_12_1 cR_12_2 hb_12 N_12 S2_12 Q2_12 T2_12 hbel_12 hB_13; try clear hB))))
  go_wp2_with fail
  refine (uint_any Q2_13.rd).mono ?_
  rintro e w14 ⟨rfl, hB⟩
  have hB_14 : Below w13.heap.size w13 w14 := (bl.next hB)
  have K_14 := K_13.next hB_14
  have cK_14_0 : _ = some (Value.int .i64 24) := K_14.cell 0
  have cK_14_1 : _ = some (Value.int .i64 (-149)) := K_14.cell 1
  have cK_14_2 : _ = some (Value.int .i64 104) := K_14.cell 2
  have R_14 := R_13.next hB_14
  have cR_14_0 : _ = some (Value.bool false) := R_14.cell 0
  have cR_14_1 : _ = some (Value.slice a 1 c) := R_14.cell 1
  have cR_14_2 : _ = some (Value.slice b 1 d) := R_14.cell 2
  have hb_14 := hb_13.below hB_14
  have N_14 := N_13.below hB_14
  have S2_14 := S2_13.below hB_14
  have Q2_14 := Q2_13.below hB_14
  have T2_14 := T2_13.below hB_14
  have hbel_14 := hbel_13.next hB_14
  have hsz_14 := hB_14.size
  clear K_13 cK_13_0 cK_13_1 cK_13_2 R_13 cR_13_0 cR_13_1 cR_13_2 hb_13 N_13 S2_13 Q2_13 T2_13 hbel_13 hB_14
  try clear hB
  rw [uq.out.1, uq.out.2]
  go_wp2_with fail
  refine (shift_b (k := 1) T2_14.rd (by omega) sr.out st.out (by omega) (by omega)).mono ?_
  rintro e w15 ⟨wa, wn, wd, rfl, hO, hB⟩
  have hB_15 : Below w14.heap.size w14 w15 := (bl.next hB)
  have K_15 := K_14.next hB_15
  have cK_15_0 : _ = some (Value.int .i64 24) := K_15.cell 0
  have cK_15_1 : _ = some (Value.int .i64 (-149)) := K_15.cell 1
  have cK_15_2 : _ = some (Value.int .i64 104) := K_15.cell 2
  have R_15 := R_14.next hB_15
  have cR_15_0 : _ = some (Value.bool false) := R_15.cell 0
  have cR_15_1 : _ = some (Value.slice a 1 c) := R_15.cell 1
  have cR_15_2 : _ = some (Value.slice b 1 d) := R_15.cell 2
  have hb_15 := hb_14.below hB_15
  have N_15 := N_14.below hB_15
  have S2_15 := S2_14.below hB_15
  have Q2_15 := Q2_14.below hB_15
  have T2_15 := T2_14.below hB_15
  have hbel_15 := hbel_14.next hB_15
  have hsz_15 := hB_15.size
  clear K_14 cK_14_0 cK_14_1 cK_14_2 R_14 cR_14_0 cR_14_1 cR_14_2 hb_14 N_14 S2_14 Q2_14 T2_14 hbel_14 hB_15
  have hw1 : 0 = wn := hO.len
  have W2_15 := hO
  have ltW2 := hO.ltB
  clear hO
  subst hw1
  try clear hB
  go_wp2_with fail
  go_wp2_with fail
  go_region_held3 (fun w' => w'.cell? ⟨w.heap.size, 0, none⟩ = some (Value.int .i64 24) ∧ w'.cell? ⟨w.heap.size, 1, none⟩ = some (Value.int .i64 (-149)) ∧ w'.cell? ⟨w.heap.size, 2, none⟩ = some (Value.int .i64 104))
    (first | exact ⟨cK_15_0, cK_15_1, cK_15_2⟩ | exact ⟨cK_16_0, cK_16_1, cK_16_2⟩ | go_keep)
    (first
      | (go_at_call 55; ((with_reducible refine (cmp_b (W2_15.below bl).rd (hb_15.below bl) cm.out).mono ?_); (rintro e w16 ⟨rfl, hB⟩; have hB_16 : Below w15.heap.size w15 w16 := (bl.next hB); have K_16 := K_15.next hB_16; have cK_16_0 : _ = some (Value.int .i64 24) := K_16.cell 0; have cK_16_1 : _ = some (Value.int .i64 (-149)) := K_16.cell 1; have cK_16_2 : _ = some (Value.int .i64 104) := K_16.cell 2; have R_16 := R_15.next hB_16; have cR_16_0 : _ = some (Value.bool false) := R_16.cell 0; have cR_16_1 : _ = some (Value.slice a 1 c) := R_16.cell 1; have cR_16_2 : _ = some (Value.slice b 1 d) := R_16.cell 2; have hb_16 := hb_15.below hB_16; have N_16 := N_15.below hB_16; have S2_16 := S2_15.below hB_16; have Q2_16 := Q2_15.below hB_16; have T2_16 := T2_15.below hB_16; have W2_16 := W2_15.below hB_16; have hbel_16 := hbel_15.next hB_16; have hsz_16 := hB_16.size; clear K_15 cK_15_0 cK_15_1 cK_15_2 R_15 cR_15_0 cR_15_1 cR_15_2 hb_15 N_15 S2_15 Q2_15 T2_15 W2_15 hbel_15 hB_16; try clear hB))))
  go_wp2
  refine bodyPost_ret (v := .tuple #[.int .u64 8388608, .int .i64 (-24), .bool false, .int .i64 (-1), .bool false]) (by simp [results, Tryd.results23, go_sem] <;> omega) rfl ?_
  exact ⟨rfl, hbel_16⟩

set_option maxRecDepth 100000 in
set_option maxHeartbeats 8000000 in
theorem cutL3 {w : World} {a b : Option Addr} {c d : Nat} (ha : Rd w a 1 c [1]) (hb : Rd w b 1 d [3]) :
    Calls Tryd.prog 23 #[.agg #[.int .i64 53, .int .i64 (-1074), .int .i64 971], .agg #[.bool true, .slice a 1 c, .slice b 1 d]] w (fun e w' => e = .returned (.tuple #[.int .u64 6004799503160661, .int .i64 (-54), .bool true, .int .i64 (-1), .bool false]) ∧ Below w.heap.size w w') := by
  have k1 := hid (show (nb (val [1]) : Int) = 1 by decide +kernel)
  have k4 := hid (show (nb (val [3]) : Int) = 2 by decide +kernel)
  have s0 := hid (show lm (shN (val [1]) 55) = [0, 8388608] by decide +kernel)
  have t0 := hid (show shE 55 = 0 by decide +kernel)
  have q0 := hid (show lm (val [0, 8388608] / val [3]) = [2863311530, 2796202] by decide +kernel)
  have r0 := hid (show lm (dvR (val [0, 8388608]) (val [3])) = [2] by decide +kernel)
  have b0 := hid (show (nb (val [2863311530, 2796202]) : Int) = 54 by decide +kernel)
  have s1 := hid (show lm (shN (val [1]) 54) = [0, 4194304] by decide +kernel)
  have t1 := hid (show shE 54 = 0 by decide +kernel)
  have q1 := hid (show lm (val [0, 4194304] / val [3]) = [1431655765, 1398101] by decide +kernel)
  have r1 := hid (show lm (dvR (val [0, 4194304]) (val [3])) = [1] by decide +kernel)
  have b1 := hid (show (nb (val [1431655765, 1398101]) : Int) = 53 by decide +kernel)
  have de := hid (show dvE (val [3]) = 0 by decide +kernel)
  have uq := hid (show uv (val [1431655765, 1398101]) = 6004799503160661 ∧ decide (val [1431655765, 1398101] < two64) = true by decide +kernel)
  have sr := hid (show lm (shN (val [1]) 1) = [2] by decide +kernel)
  have st := hid (show shE 1 = 0 by decide +kernel)
  have cm := hid (show cmpI (val [2]) (val [3]) = (-1) by decide +kernel)
  have n1 := hid (show lm (val [1]) = [1] by decide +kernel)
  have hent := ent2 w #[Value.int .i64 53, Value.int .i64 (-1074), Value.int .i64 971] #[Value.bool true, Value.slice a 1 c, Value.slice b 1 d] 53 27
  go_enter Tryd.func23, Tryd.ntmps23
  go_wp2_with fail
  generalize ((w.alloc (.cells #[Value.int .i64 53, Value.int .i64 (-1074), Value.int .i64 971] 53)).alloc (.cells #[Value.bool true, Value.slice a 1 c, Value.slice b 1 d] 27)) = W0 at hent ⊢
  obtain ⟨K_0, R_0, hbel_0, hsz_0⟩ := hent
  have cK_0_0 : _ = some (Value.int .i64 53) := K_0.cell 0
  have cK_0_1 : _ = some (Value.int .i64 (-1074)) := K_0.cell 1
  have cK_0_2 : _ = some (Value.int .i64 971) := K_0.cell 2
  have cR_0_0 : _ = some (Value.bool true) := R_0.cell 0
  have cR_0_1 : _ = some (Value.slice a 1 c) := R_0.cell 1
  have cR_0_2 : _ = some (Value.slice b 1 d) := R_0.cell 2
  have ha_0 := ha.below hbel_0
  clear ha
  have hb_0 := hb.below hbel_0
  clear hb
  go_wp2_with fail
  go_region_held3 (fun w' => w'.cell? ⟨w.heap.size + 1, 0, none⟩ = some (Value.bool true) ∧ w'.cell? ⟨w.heap.size + 1, 1, none⟩ = some (Value.slice a 1 c) ∧ w'.cell? ⟨w.heap.size + 1, 2, none⟩ = some (Value.slice b 1 d))
    (first | exact ⟨cR_0_0, cR_0_1, cR_0_2⟩ | exact ⟨cR_1_0, cR_1_1, cR_1_2⟩ | exact ⟨cR_2_0, cR_2_1, cR_2_2⟩ | go_keep)
    (first
      | (go_at_call 50; ((with_reducible refine (norm_any (ha_0.below bl) (by omega)).mono ?_); (rintro e w1 ⟨na, nn, nc, rfl, hO, hB⟩; have hB_1 : Below W0.heap.size W0 w1 := (bl.next hB); have K_1 := K_0.next hB_1; have cK_1_0 : _ = some (Value.int .i64 53) := K_1.cell 0; have cK_1_1 : _ = some (Value.int .i64 (-1074)) := K_1.cell 1; have cK_1_2 : _ = some (Value.int .i64 971) := K_1.cell 2; have R_1 := R_0.next hB_1; have cR_1_0 : _ = some (Value.bool true) := R_1.cell 0; have cR_1_1 : _ = some (Value.slice a 1 c) := R_1.cell 1; have cR_1_2 : _ = some (Value.slice b 1 d) := R_1.cell 2; have ha_1 := ha_0.below hB_1; have hb_1 := hb_0.below hB_1; have hbel_1 := hbel_0.next hB_1; have hsz_1 := hB_1.size; clear K_0 cK_0_0 cK_0_1 cK_0_2 R_0 cR_0_0 cR_0_1 cR_0_2 ha_0 hb_0 hbel_0 hB_1; have hn1 : Hid (1 = nn) := (by rw [n1.out] at hO; exact hO.len); rw [n1.out] at hO; have N_1 := hO; have ltN := hO.ltB; clear hO; try clear hB)))
      | (go_at_call 51; ((with_reducible refine (den3 (hb_1.below bl) (by omega)).mono ?_); (rintro e w2 ⟨rfl, hB⟩; have hB_2 : Below w1.heap.size w1 w2 := (bl.next hB); have K_2 := K_1.next hB_2; have cK_2_0 : _ = some (Value.int .i64 53) := K_2.cell 0; have cK_2_1 : _ = some (Value.int .i64 (-1074)) := K_2.cell 1; have cK_2_2 : _ = some (Value.int .i64 971) := K_2.cell 2; have R_2 := R_1.next hB_2; have cR_2_0 : _ = some (Value.bool true) := R_2.cell 0; have cR_2_1 : _ = some (Value.slice a 1 c) := R_2.cell 1; have cR_2_2 : _ = some (Value.slice b 1 d) := R_2.cell 2; have ha_2 := ha_1.below hB_2; have hb_2 := hb_1.below hB_2; have N_2 := N_1.below hB_2; have hbel_2 := hbel_1.next hB_2; have hsz_2 := hB_2.size; clear K_1 cK_1_0 cK_1_1 cK_1_2 R_1 cR_1_0 cR_1_1 cR_1_2 ha_1 hb_1 N_1 hbel_1 hB_2; try clear hB))))
  have hn2 := hn1.out
  clear hn1
  subst hn2
  clear ha_2
  go_wp2_with fail
  refine (bits_b N_2.rd (by omega) k1.out).mono ?_
  rintro e w3 ⟨rfl, hB⟩
  have hB_3 : Below w2.heap.size w2 w3 := (bl.next hB)
  have K_3 := K_2.next hB_3
  have cK_3_0 : _ = some (Value.int .i64 53) := K_3.cell 0
  have cK_3_1 : _ = some (Value.int .i64 (-1074)) := K_3.cell 1
  have cK_3_2 : _ = some (Value.int .i64 971) := K_3.cell 2
  have R_3 := R_2.next hB_3
  have cR_3_0 : _ = some (Value.bool true) := R_3.cell 0
  have cR_3_1 : _ = some (Value.slice a 1 c) := R_3.cell 1
  have cR_3_2 : _ = some (Value.slice b 1 d) := R_3.cell 2
  have hb_3 := hb_2.below hB_3
  have N_3 := N_2.below hB_3
  have hbel_3 := hbel_2.next hB_3
  have hsz_3 := hB_3.size
  clear K_2 cK_2_0 cK_2_1 cK_2_2 R_2 cR_2_0 cR_2_1 cR_2_2 hb_2 N_2 hbel_2 hB_3
  try clear hB
  go_wp2_with fail
  refine (bits_b hb_3 (by omega) k4.out).mono ?_
  rintro e w4 ⟨rfl, hB⟩
  have hB_4 : Below w3.heap.size w3 w4 := (bl.next hB)
  have K_4 := K_3.next hB_4
  have cK_4_0 : _ = some (Value.int .i64 53) := K_4.cell 0
  have cK_4_1 : _ = some (Value.int .i64 (-1074)) := K_4.cell 1
  have cK_4_2 : _ = some (Value.int .i64 971) := K_4.cell 2
  have R_4 := R_3.next hB_4
  have cR_4_0 : _ = some (Value.bool true) := R_4.cell 0
  have cR_4_1 : _ = some (Value.slice a 1 c) := R_4.cell 1
  have cR_4_2 : _ = some (Value.slice b 1 d) := R_4.cell 2
  have hb_4 := hb_3.below hB_4
  have N_4 := N_3.below hB_4
  have hbel_4 := hbel_3.next hB_4
  have hsz_4 := hB_4.size
  clear K_3 cK_3_0 cK_3_1 cK_3_2 R_3 cR_3_0 cR_3_1 cR_3_2 hb_3 N_3 hbel_3 hB_4
  try clear hB
  go_wp2_with fail
  refine wp_loop_rounds 2 ?_
  rw [rounds_succ]
  go_wp2_with fail
  refine (shift_b (k := 55) N_4.rd (by omega) s0.out t0.out (by omega) (by omega)).mono ?_
  rintro e w5 ⟨sa0, sn0, sc0, rfl, hO, hB⟩
  have hB_5 : Below w4.heap.size w4 w5 := (bl.next hB)
  have K_5 := K_4.next hB_5
  have cK_5_0 : _ = some (Value.int .i64 53) := K_5.cell 0
  have cK_5_1 : _ = some (Value.int .i64 (-1074)) := K_5.cell 1
  have cK_5_2 : _ = some (Value.int .i64 971) := K_5.cell 2
  have R_5 := R_4.next hB_5
  have cR_5_0 : _ = some (Value.bool true) := R_5.cell 0
  have cR_5_1 : _ = some (Value.slice a 1 c) := R_5.cell 1
  have cR_5_2 : _ = some (Value.slice b 1 d) := R_5.cell 2
  have hb_5 := hb_4.below hB_5
  have N_5 := N_4.below hB_5
  have hbel_5 := hbel_4.next hB_5
  have hsz_5 := hB_5.size
  clear K_4 cK_4_0 cK_4_1 cK_4_2 R_4 cR_4_0 cR_4_1 cR_4_2 hb_4 N_4 hbel_4 hB_5
  have hs0 : 2 = sn0 := hO.len
  have S0_5 := hO
  have ltS0 := hO.ltB
  clear hO
  subst hs0
  try clear hB
  go_wp2_with fail
  refine (div_b S0_5.rd hb_5 (by omega) q0.out r0.out de.out).mono ?_
  rintro e w6 ⟨qa0, qn0, qc0, ra0, rn0, rc0, rfl, hO, hO', hD, hB⟩
  have hB_6 : Below w5.heap.size w5 w6 := (bl.next hB)
  have K_6 := K_5.next hB_6
  have cK_6_0 : _ = some (Value.int .i64 53) := K_6.cell 0
  have cK_6_1 : _ = some (Value.int .i64 (-1074)) := K_6.cell 1
  have cK_6_2 : _ = some (Value.int .i64 971) := K_6.cell 2
  have R_6 := R_5.next hB_6
  have cR_6_0 : _ = some (Value.bool true) := R_6.cell 0
  have cR_6_1 : _ = some (Value.slice a 1 c) := R_6.cell 1
  have cR_6_2 : _ = some (Value.slice b 1 d) := R_6.cell 2
  have hb_6 := hb_5.below hB_6
  have N_6 := N_5.below hB_6
  have S0_6 := S0_5.below hB_6
  have hbel_6 := hbel_5.next hB_6
  have hsz_6 := hB_6.size
  clear K_5 cK_5_0 cK_5_1 cK_5_2 R_5 cR_5_0 cR_5_1 cR_5_2 hb_5 N_5 S0_5 hbel_5 hB_6
  have hq0 : 2 = qn0 := hO.len
  have hr0 : 1 = rn0 := hO'.len
  have Q0_6 := hO
  have ltQ0 := hO.ltB
  have T0_6 := hO'
  have ltT0 := hO'.ltB
  clear hO hO' hD
  subst hq0 hr0
  try clear hB
  go_wp2_with fail
  go_wp2_with fail
  go_region_held3 (fun w' => w'.cell? ⟨w.heap.size, 0, none⟩ = some (Value.int .i64 53) ∧ w'.cell? ⟨w.heap.size, 1, none⟩ = some (Value.int .i64 (-1074)) ∧ w'.cell? ⟨w.heap.size, 2, none⟩ = some (Value.int .i64 971))
    (first | exact ⟨cK_6_0, cK_6_1, cK_6_2⟩ | exact ⟨cK_7_0, cK_7_1, cK_7_2⟩ | go_keep)
    (first
      | (go_at_call 52; ((with_reducible refine (bits_b (Q0_6.below bl).rd (by omega) b0.out).mono ?_); (rintro e w7 ⟨rfl, hB⟩; have hB_7 : Below w6.heap.size w6 w7 := (bl.next hB); have K_7 := K_6.next hB_7; have cK_7_0 : _ = some (Value.int .i64 53) := K_7.cell 0; have cK_7_1 : _ = some (Value.int .i64 (-1074)) := K_7.cell 1; have cK_7_2 : _ = some (Value.int .i64 971) := K_7.cell 2; have R_7 := R_6.next hB_7; have cR_7_0 : _ = some (Value.bool true) := R_7.cell 0; have cR_7_1 : _ = some (Value.slice a 1 c) := R_7.cell 1; have cR_7_2 : _ = some (Value.slice b 1 d) := R_7.cell 2; have hb_7 := hb_6.below hB_7; have N_7 := N_6.below hB_7; have S0_7 := S0_6.below hB_7; have Q0_7 := Q0_6.below hB_7; have T0_7 := T0_6.below hB_7; have hbel_7 := hbel_6.next hB_7; have hsz_7 := hB_7.size; clear K_6 cK_6_0 cK_6_1 cK_6_2 R_6 cR_6_0 cR_6_1 cR_6_2 hb_6 N_6 S0_6 Q0_6 T0_6 hbel_6 hB_7; try clear hB))))
  go_wp2_with fail
  rw [rounds_succ]
  clear S0_7
  clear Q0_7
  clear T0_7
  go_wp2_with fail
  refine (shift_b (k := 54) N_7.rd (by omega) s1.out t1.out (by omega) (by omega)).mono ?_
  rintro e w8 ⟨sa1, sn1, sc1, rfl, hO, hB⟩
  have hB_8 : Below w7.heap.size w7 w8 := (bl.next hB)
  have K_8 := K_7.next hB_8
  have cK_8_0 : _ = some (Value.int .i64 53) := K_8.cell 0
  have cK_8_1 : _ = some (Value.int .i64 (-1074)) := K_8.cell 1
  have cK_8_2 : _ = some (Value.int .i64 971) := K_8.cell 2
  have R_8 := R_7.next hB_8
  have cR_8_0 : _ = some (Value.bool true) := R_8.cell 0
  have cR_8_1 : _ = some (Value.slice a 1 c) := R_8.cell 1
  have cR_8_2 : _ = some (Value.slice b 1 d) := R_8.cell 2
  have hb_8 := hb_7.below hB_8
  have N_8 := N_7.below hB_8
  have hbel_8 := hbel_7.next hB_8
  have hsz_8 := hB_8.size
  clear K_7 cK_7_0 cK_7_1 cK_7_2 R_7 cR_7_0 cR_7_1 cR_7_2 hb_7 N_7 hbel_7 hB_8
  have hs1 : 2 = sn1 := hO.len
  have S1_8 := hO
  have ltS1 := hO.ltB
  clear hO
  subst hs1
  try clear hB
  go_wp2_with fail
  refine (div_b S1_8.rd hb_8 (by omega) q1.out r1.out de.out).mono ?_
  rintro e w9 ⟨qa1, qn1, qc1, ra1, rn1, rc1, rfl, hO, hO', hD, hB⟩
  have hB_9 : Below w8.heap.size w8 w9 := (bl.next hB)
  have K_9 := K_8.next hB_9
  have cK_9_0 : _ = some (Value.int .i64 53) := K_9.cell 0
  have cK_9_1 : _ = some (Value.int .i64 (-1074)) := K_9.cell 1
  have cK_9_2 : _ = some (Value.int .i64 971) := K_9.cell 2
  have R_9 := R_8.next hB_9
  have cR_9_0 : _ = some (Value.bool true) := R_9.cell 0
  have cR_9_1 : _ = some (Value.slice a 1 c) := R_9.cell 1
  have cR_9_2 : _ = some (Value.slice b 1 d) := R_9.cell 2
  have hb_9 := hb_8.below hB_9
  have N_9 := N_8.below hB_9
  have S1_9 := S1_8.below hB_9
  have hbel_9 := hbel_8.next hB_9
  have hsz_9 := hB_9.size
  clear K_8 cK_8_0 cK_8_1 cK_8_2 R_8 cR_8_0 cR_8_1 cR_8_2 hb_8 N_8 S1_8 hbel_8 hB_9
  have hq1 : 2 = qn1 := hO.len
  have hr1 : 1 = rn1 := hO'.len
  have Q1_9 := hO
  have ltQ1 := hO.ltB
  have T1_9 := hO'
  have ltT1 := hO'.ltB
  clear hO hO' hD
  subst hq1 hr1
  try clear hB
  go_wp2_with fail
  go_wp2_with fail
  go_region_held3 (fun w' => w'.cell? ⟨w.heap.size, 0, none⟩ = some (Value.int .i64 53) ∧ w'.cell? ⟨w.heap.size, 1, none⟩ = some (Value.int .i64 (-1074)) ∧ w'.cell? ⟨w.heap.size, 2, none⟩ = some (Value.int .i64 971))
    (first | exact ⟨cK_9_0, cK_9_1, cK_9_2⟩ | exact ⟨cK_10_0, cK_10_1, cK_10_2⟩ | go_keep)
    (first
      | (go_at_call 52; ((with_reducible refine (bits_b (Q1_9.below bl).rd (by omega) b1.out).mono ?_); (rintro e w10 ⟨rfl, hB⟩; have hB_10 : Below w9.heap.size w9 w10 := (bl.next hB); have K_10 := K_9.next hB_10; have cK_10_0 : _ = some (Value.int .i64 53) := K_10.cell 0; have cK_10_1 : _ = some (Value.int .i64 (-1074)) := K_10.cell 1; have cK_10_2 : _ = some (Value.int .i64 971) := K_10.cell 2; have R_10 := R_9.next hB_10; have cR_10_0 : _ = some (Value.bool true) := R_10.cell 0; have cR_10_1 : _ = some (Value.slice a 1 c) := R_10.cell 1; have cR_10_2 : _ = some (Value.slice b 1 d) := R_10.cell 2; have hb_10 := hb_9.below hB_10; have N_10 := N_9.below hB_10; have S1_10 := S1_9.below hB_10; have Q1_10 := Q1_9.below hB_10; have T1_10 := T1_9.below hB_10; have hbel_10 := hbel_9.next hB_10; have hsz_10 := hB_10.size; clear K_9 cK_9_0 cK_9_1 cK_9_2 R_9 cR_9_0 cR_9_1 cR_9_2 hb_9 N_9 S1_9 Q1_9 T1_9 hbel_9 hB_10; try clear hB))))
  go_wp2_with fail
  refine (uint_any Q1_10.rd).mono ?_
  rintro e w11 ⟨rfl, hB⟩
  have hB_11 : Below w10.heap.size w10 w11 := (bl.next hB)
  have K_11 := K_10.next hB_11
  have cK_11_0 : _ = some (Value.int .i64 53) := K_11.cell 0
  have cK_11_1 : _ = some (Value.int .i64 (-1074)) := K_11.cell 1
  have cK_11_2 : _ = some (Value.int .i64 971) := K_11.cell 2
  have R_11 := R_10.next hB_11
  have cR_11_0 : _ = some (Value.bool true) := R_11.cell 0
  have cR_11_1 : _ = some (Value.slice a 1 c) := R_11.cell 1
  have cR_11_2 : _ = some (Value.slice b 1 d) := R_11.cell 2
  have hb_11 := hb_10.below hB_11
  have N_11 := N_10.below hB_11
  have S1_11 := S1_10.below hB_11
  have Q1_11 := Q1_10.below hB_11
  have T1_11 := T1_10.below hB_11
  have hbel_11 := hbel_10.next hB_11
  have hsz_11 := hB_11.size
  clear K_10 cK_10_0 cK_10_1 cK_10_2 R_10 cR_10_0 cR_10_1 cR_10_2 hb_10 N_10 S1_10 Q1_10 T1_10 hbel_10 hB_11
  try clear hB
  rw [uq.out.1, uq.out.2]
  go_wp2_with fail
  refine (shift_b (k := 1) T1_11.rd (by omega) sr.out st.out (by omega) (by omega)).mono ?_
  rintro e w12 ⟨wa, wn, wd, rfl, hO, hB⟩
  have hB_12 : Below w11.heap.size w11 w12 := (bl.next hB)
  have K_12 := K_11.next hB_12
  have cK_12_0 : _ = some (Value.int .i64 53) := K_12.cell 0
  have cK_12_1 : _ = some (Value.int .i64 (-1074)) := K_12.cell 1
  have cK_12_2 : _ = some (Value.int .i64 971) := K_12.cell 2
  have R_12 := R_11.next hB_12
  have cR_12_0 : _ = some (Value.bool true) := R_12.cell 0
  have cR_12_1 : _ = some (Value.slice a 1 c) := R_12.cell 1
  have cR_12_2 : _ = some (Value.slice b 1 d) := R_12.cell 2
  have hb_12 := hb_11.below hB_12
  have N_12 := N_11.below hB_12
  have S1_12 := S1_11.below hB_12
  have Q1_12 := Q1_11.below hB_12
  have T1_12 := T1_11.below hB_12
  have hbel_12 := hbel_11.next hB_12
  have hsz_12 := hB_12.size
  clear K_11 cK_11_0 cK_11_1 cK_11_2 R_11 cR_11_0 cR_11_1 cR_11_2 hb_11 N_11 S1_11 Q1_11 T1_11 hbel_11 hB_12
  have hw1 : 1 = wn := hO.len
  have W2_12 := hO
  have ltW2 := hO.ltB
  clear hO
  subst hw1
  try clear hB
  go_wp2_with fail
  go_wp2_with fail
  go_region_held3 (fun w' => w'.cell? ⟨w.heap.size, 0, none⟩ = some (Value.int .i64 53) ∧ w'.cell? ⟨w.heap.size, 1, none⟩ = some (Value.int .i64 (-1074)) ∧ w'.cell? ⟨w.heap.size, 2, none⟩ = some (Value.int .i64 971))
    (first | exact ⟨cK_12_0, cK_12_1, cK_12_2⟩ | exact ⟨cK_13_0, cK_13_1, cK_13_2⟩ | go_keep)
    (first
      | (go_at_call 55; ((with_reducible refine (cmp_b (W2_12.below bl).rd (hb_12.below bl) cm.out).mono ?_); (rintro e w13 ⟨rfl, hB⟩; have hB_13 : Below w12.heap.size w12 w13 := (bl.next hB); have K_13 := K_12.next hB_13; have cK_13_0 : _ = some (Value.int .i64 53) := K_13.cell 0; have cK_13_1 : _ = some (Value.int .i64 (-1074)) := K_13.cell 1; have cK_13_2 : _ = some (Value.int .i64 971) := K_13.cell 2; have R_13 := R_12.next hB_13; have cR_13_0 : _ = some (Value.bool true) := R_13.cell 0; have cR_13_1 : _ = some (Value.slice a 1 c) := R_13.cell 1; have cR_13_2 : _ = some (Value.slice b 1 d) := R_13.cell 2; have hb_13 := hb_12.below hB_13; have N_13 := N_12.below hB_13; have S1_13 := S1_12.below hB_13; have Q1_13 := Q1_12.below hB_13; have T1_13 := T1_12.below hB_13; have W2_13 := W2_12.below hB_13; have hbel_13 := hbel_12.next hB_13; have hsz_13 := hB_13.size; clear K_12 cK_12_0 cK_12_1 cK_12_2 R_12 cR_12_0 cR_12_1 cR_12_2 hb_12 N_12 S1_12 Q1_12 T1_12 W2_12 hbel_12 hB_13; try clear hB))))
  go_wp2
  refine bodyPost_ret (v := .tuple #[.int .u64 6004799503160661, .int .i64 (-54), .bool true, .int .i64 (-1), .bool false]) (by simp [results, Tryd.results23, go_sem] <;> omega) rfl ?_
  exact ⟨rfl, hbel_13⟩

set_option maxRecDepth 100000 in
theorem ldexph {w : World} : Calls Tryd.prog 57 #[.float .f64 4841369599423283200, .int .i64 (-53)] w (fun e w' => e = .returned (.float .f64 4602678819172646912) ∧ w' = w) := by
  have h0 : (FloatKind.f64.format.order 4841369599423283200 0 == some .eq) = false := by decide +kernel
  have HI := hid (fun w => isinf_fin (w := w) (x := 4841369599423283200) (by decide) (by decide))
  have hn : fnan 4841369599423283200 = false := by decide
  have HN := hid (fun w => hn ▸ isnan_any (w := w) 4841369599423283200)
  have HM := hid (fun w => norm_high (w := w) (r := 4841369599423283200) (by decide) (by decide))
  have hb := f64bits 4841369599423283200
  have hf : ∀ w, Sem.run Tryd.prog (callFunc 32 #[Value.int .u64 4602678819172646912]) w = .ok (.value (.float .f64 4602678819172646912)) w := f64from 4602678819172646912
  have hs : Op.shift .shr .u64 4841369599423283200 .u64 52 = pure (.int .u64 1075) := by kernel_rfl
  have ha : bits BinOp.and IntKind.i64 1075 2047 = 1075 := by decide +kernel
  have hc : bits BinOp.andNot IntKind.u64 4841369599423283200 9218868437227405312 = 0 := by decide +kernel
  have hl : Op.shift .shl .u64 1022 .u64 52 = pure (.int .u64 4602678819172646912) := by kernel_rfl
  have ho : bits BinOp.or IntKind.u64 0 4602678819172646912 = 4602678819172646912 := by decide +kernel
  have hm : ∀ w, (binOp BinOp.mul 28 (.float .f64 4607182418800017408) (.float .f64 4602678819172646912)).run Tryd.prog w = .ok (.float .f64 4602678819172646912) w := fun w => run_float_arith w .mul _ .f64 _ _ _ (by decide +kernel)
  go_enter Tryd.func57, Tryd.ntmps57
  go_wp2_with fail
  refine (HI.out _).mono ?_
  rintro e w1 ⟨rfl, rfl⟩
  go_wp2_with fail
  refine (HN.out _).mono ?_
  rintro e w2 ⟨rfl, rfl⟩
  go_wp2_with fail
  refine (HM.out _).mono ?_
  rintro e w3 ⟨rfl, rfl⟩
  go_wp2
  go_ret
  exact ⟨rfl, rfl⟩
set_option maxRecDepth 100000 in
theorem Ldexph {w : World} : Calls Tryd.prog 24 #[.float .f64 4841369599423283200, .int .i64 (-53)] w (fun e w' => e = .returned (.float .f64 4602678819172646912) ∧ Below w.heap.size w w') := by
  go_enter Tryd.func24, Tryd.ntmps24
  go_wp2_with fail
  refine ldexph.mono ?_
  rintro e w1 ⟨rfl, rfl⟩
  go_wp2
  go_ret
  exact ⟨rfl, Below.refl _ _⟩
set_option maxRecDepth 100000 in
theorem run_flh (w : World) : (convert 50 28 (.int .u64 4503599627370496)).run Tryd.prog w = .ok (.float .f64 4841369599423283200) w := by kernel_rfl

set_option maxRecDepth 100000 in
theorem ldexps {w : World} : Calls Tryd.prog 57 #[.float .f64 4710765210229538816, .int .i64 (-24)] w (fun e w' => e = .returned (.float .f64 4602678819172646912) ∧ w' = w) := by
  have h0 : (FloatKind.f64.format.order 4710765210229538816 0 == some .eq) = false := by decide +kernel
  have HI := hid (fun w => isinf_fin (w := w) (x := 4710765210229538816) (by decide) (by decide))
  have hn : fnan 4710765210229538816 = false := by decide
  have HN := hid (fun w => hn ▸ isnan_any (w := w) 4710765210229538816)
  have HM := hid (fun w => norm_high (w := w) (r := 4710765210229538816) (by decide) (by decide))
  have hb := f64bits 4710765210229538816
  have hf : ∀ w, Sem.run Tryd.prog (callFunc 32 #[Value.int .u64 4602678819172646912]) w = .ok (.value (.float .f64 4602678819172646912)) w := f64from 4602678819172646912
  have hs : Op.shift .shr .u64 4710765210229538816 .u64 52 = pure (.int .u64 1046) := by kernel_rfl
  have ha : bits BinOp.and IntKind.i64 1046 2047 = 1046 := by decide +kernel
  have hc : bits BinOp.andNot IntKind.u64 4710765210229538816 9218868437227405312 = 0 := by decide +kernel
  have hl : Op.shift .shl .u64 1022 .u64 52 = pure (.int .u64 4602678819172646912) := by kernel_rfl
  have ho : bits BinOp.or IntKind.u64 0 4602678819172646912 = 4602678819172646912 := by decide +kernel
  have hm : ∀ w, (binOp BinOp.mul 28 (.float .f64 4607182418800017408) (.float .f64 4602678819172646912)).run Tryd.prog w = .ok (.float .f64 4602678819172646912) w := fun w => run_float_arith w .mul _ .f64 _ _ _ (by decide +kernel)
  go_enter Tryd.func57, Tryd.ntmps57
  go_wp2_with fail
  refine (HI.out _).mono ?_
  rintro e w1 ⟨rfl, rfl⟩
  go_wp2_with fail
  refine (HN.out _).mono ?_
  rintro e w2 ⟨rfl, rfl⟩
  go_wp2_with fail
  refine (HM.out _).mono ?_
  rintro e w3 ⟨rfl, rfl⟩
  go_wp2
  go_ret
  exact ⟨rfl, rfl⟩
set_option maxRecDepth 100000 in
theorem Ldexps {w : World} : Calls Tryd.prog 24 #[.float .f64 4710765210229538816, .int .i64 (-24)] w (fun e w' => e = .returned (.float .f64 4602678819172646912) ∧ Below w.heap.size w w') := by
  go_enter Tryd.func24, Tryd.ntmps24
  go_wp2_with fail
  refine ldexps.mono ?_
  rintro e w1 ⟨rfl, rfl⟩
  go_wp2
  go_ret
  exact ⟨rfl, Below.refl _ _⟩
set_option maxRecDepth 100000 in
theorem run_fls (w : World) : (convert 50 28 (.int .u64 8388608)).run Tryd.prog w = .ok (.float .f64 4710765210229538816) w := by kernel_rfl

set_option maxRecDepth 100000 in
theorem ldexpl {w : World} : Calls Tryd.prog 57 #[.float .f64 4842870799299073365, .int .i64 (-54)] w (fun e w' => e = .returned (.float .f64 4599676419421066581) ∧ w' = w) := by
  have h0 : (FloatKind.f64.format.order 4842870799299073365 0 == some .eq) = false := by decide +kernel
  have HI := hid (fun w => isinf_fin (w := w) (x := 4842870799299073365) (by decide) (by decide))
  have hn : fnan 4842870799299073365 = false := by decide
  have HN := hid (fun w => hn ▸ isnan_any (w := w) 4842870799299073365)
  have HM := hid (fun w => norm_high (w := w) (r := 4842870799299073365) (by decide) (by decide))
  have hb := f64bits 4842870799299073365
  have hf : ∀ w, Sem.run Tryd.prog (callFunc 32 #[Value.int .u64 4599676419421066581]) w = .ok (.value (.float .f64 4599676419421066581)) w := f64from 4599676419421066581
  have hs : Op.shift .shr .u64 4842870799299073365 .u64 52 = pure (.int .u64 1075) := by kernel_rfl
  have ha : bits BinOp.and IntKind.i64 1075 2047 = 1075 := by decide +kernel
  have hc : bits BinOp.andNot IntKind.u64 4842870799299073365 9218868437227405312 = 1501199875790165 := by decide +kernel
  have hl : Op.shift .shl .u64 1021 .u64 52 = pure (.int .u64 4598175219545276416) := by kernel_rfl
  have ho : bits BinOp.or IntKind.u64 1501199875790165 4598175219545276416 = 4599676419421066581 := by decide +kernel
  have hm : ∀ w, (binOp BinOp.mul 28 (.float .f64 4607182418800017408) (.float .f64 4599676419421066581)).run Tryd.prog w = .ok (.float .f64 4599676419421066581) w := fun w => run_float_arith w .mul _ .f64 _ _ _ (by decide +kernel)
  go_enter Tryd.func57, Tryd.ntmps57
  go_wp2_with fail
  refine (HI.out _).mono ?_
  rintro e w1 ⟨rfl, rfl⟩
  go_wp2_with fail
  refine (HN.out _).mono ?_
  rintro e w2 ⟨rfl, rfl⟩
  go_wp2_with fail
  refine (HM.out _).mono ?_
  rintro e w3 ⟨rfl, rfl⟩
  go_wp2
  go_ret
  exact ⟨rfl, rfl⟩
set_option maxRecDepth 100000 in
theorem Ldexpl {w : World} : Calls Tryd.prog 24 #[.float .f64 4842870799299073365, .int .i64 (-54)] w (fun e w' => e = .returned (.float .f64 4599676419421066581) ∧ Below w.heap.size w w') := by
  go_enter Tryd.func24, Tryd.ntmps24
  go_wp2_with fail
  refine ldexpl.mono ?_
  rintro e w1 ⟨rfl, rfl⟩
  go_wp2
  go_ret
  exact ⟨rfl, Below.refl _ _⟩
set_option maxRecDepth 100000 in
theorem run_fll (w : World) : (convert 50 28 (.int .u64 6004799503160661)).run Tryd.prog w = .ok (.float .f64 4842870799299073365) w := by kernel_rfl

set_option maxRecDepth 100000 in
theorem ldexpu {w : World} : Calls Tryd.prog 57 #[.float .f64 4842870799299073366, .int .i64 (-54)] w (fun e w' => e = .returned (.float .f64 4599676419421066582) ∧ w' = w) := by
  have h0 : (FloatKind.f64.format.order 4842870799299073366 0 == some .eq) = false := by decide +kernel
  have HI := hid (fun w => isinf_fin (w := w) (x := 4842870799299073366) (by decide) (by decide))
  have hn : fnan 4842870799299073366 = false := by decide
  have HN := hid (fun w => hn ▸ isnan_any (w := w) 4842870799299073366)
  have HM := hid (fun w => norm_high (w := w) (r := 4842870799299073366) (by decide) (by decide))
  have hb := f64bits 4842870799299073366
  have hf : ∀ w, Sem.run Tryd.prog (callFunc 32 #[Value.int .u64 4599676419421066582]) w = .ok (.value (.float .f64 4599676419421066582)) w := f64from 4599676419421066582
  have hs : Op.shift .shr .u64 4842870799299073366 .u64 52 = pure (.int .u64 1075) := by kernel_rfl
  have ha : bits BinOp.and IntKind.i64 1075 2047 = 1075 := by decide +kernel
  have hc : bits BinOp.andNot IntKind.u64 4842870799299073366 9218868437227405312 = 1501199875790166 := by decide +kernel
  have hl : Op.shift .shl .u64 1021 .u64 52 = pure (.int .u64 4598175219545276416) := by kernel_rfl
  have ho : bits BinOp.or IntKind.u64 1501199875790166 4598175219545276416 = 4599676419421066582 := by decide +kernel
  have hm : ∀ w, (binOp BinOp.mul 28 (.float .f64 4607182418800017408) (.float .f64 4599676419421066582)).run Tryd.prog w = .ok (.float .f64 4599676419421066582) w := fun w => run_float_arith w .mul _ .f64 _ _ _ (by decide +kernel)
  go_enter Tryd.func57, Tryd.ntmps57
  go_wp2_with fail
  refine (HI.out _).mono ?_
  rintro e w1 ⟨rfl, rfl⟩
  go_wp2_with fail
  refine (HN.out _).mono ?_
  rintro e w2 ⟨rfl, rfl⟩
  go_wp2_with fail
  refine (HM.out _).mono ?_
  rintro e w3 ⟨rfl, rfl⟩
  go_wp2
  go_ret
  exact ⟨rfl, rfl⟩
set_option maxRecDepth 100000 in
theorem Ldexpu {w : World} : Calls Tryd.prog 24 #[.float .f64 4842870799299073366, .int .i64 (-54)] w (fun e w' => e = .returned (.float .f64 4599676419421066582) ∧ Below w.heap.size w w') := by
  go_enter Tryd.func24, Tryd.ntmps24
  go_wp2_with fail
  refine ldexpu.mono ?_
  rintro e w1 ⟨rfl, rfl⟩
  go_wp2
  go_ret
  exact ⟨rfl, Below.refl _ _⟩
set_option maxRecDepth 100000 in
theorem run_flu (w : World) : (convert 50 28 (.int .u64 6004799503160662)).run Tryd.prog w = .ok (.float .f64 4842870799299073366) w := by kernel_rfl

set_option maxRecDepth 100000 in
set_option maxHeartbeats 4000000 in
theorem roundL2 {w : World} {a b : Option Addr} {c d : Nat} (ha : Rd w a 1 c [1]) (hb : Rd w b 1 d [2]) :
    Calls Tryd.prog 28 #[.agg #[.int .i64 53, .int .i64 (-1074), .int .i64 971], .agg #[.bool false, .slice a 1 c, .slice b 1 d]] w (fun e w' => e = .returned (.float .f64 4602678819172646912) ∧ Below w.heap.size w w') := by
  have HL := hid (fun w => Ldexph (w := w))
  have hcv := run_flh
  have hne : (FloatKind.f64.format.order 4602678819172646912 0 != some .eq) = true := by decide +kernel
  have hsg : sgn (zv false (val [1])) = 1 := by decide
  have hent := ent2 w #[Value.int .i64 53, Value.int .i64 (-1074), Value.int .i64 971] #[Value.bool false, Value.slice a 1 c, Value.slice b 1 d] 53 27
  go_enter Tryd.func28, Tryd.ntmps28
  go_wp2_with fail
  generalize ((w.alloc (.cells #[Value.int .i64 53, Value.int .i64 (-1074), Value.int .i64 971] 53)).alloc (.cells #[Value.bool false, Value.slice a 1 c, Value.slice b 1 d] 27)) = W0 at hent ⊢
  obtain ⟨K_0, R_0, hbel_0, hsz_0⟩ := hent
  have cK_0_0 : _ = some (Value.int .i64 53) := K_0.cell 0
  have cK_0_1 : _ = some (Value.int .i64 (-1074)) := K_0.cell 1
  have cK_0_2 : _ = some (Value.int .i64 971) := K_0.cell 2
  have cR_0_0 : _ = some (Value.bool false) := R_0.cell 0
  have cR_0_1 : _ = some (Value.slice a 1 c) := R_0.cell 1
  have cR_0_2 : _ = some (Value.slice b 1 d) := R_0.cell 2
  have ha_0 := ha.below hbel_0
  clear ha
  have hb_0 := hb.below hbel_0
  clear hb
  go_wp2_with fail
  refine (cutL2 ha_0 hb_0).mono ?_
  rintro e w1 ⟨rfl, hB⟩
  have hB_1 : Below W0.heap.size W0 w1 := (bl.next hB)
  have K_1 := K_0.next hB_1
  have cK_1_0 : _ = some (Value.int .i64 53) := K_1.cell 0
  have cK_1_1 : _ = some (Value.int .i64 (-1074)) := K_1.cell 1
  have cK_1_2 : _ = some (Value.int .i64 971) := K_1.cell 2
  have R_1 := R_0.next hB_1
  have cR_1_0 : _ = some (Value.bool false) := R_1.cell 0
  have cR_1_1 : _ = some (Value.slice a 1 c) := R_1.cell 1
  have cR_1_2 : _ = some (Value.slice b 1 d) := R_1.cell 2
  have ha_1 := ha_0.below hB_1
  have hb_1 := hb_0.below hB_1
  have hbel_1 := hbel_0.next hB_1
  have hsz_1 := hB_1.size
  clear K_0 cK_0_0 cK_0_1 cK_0_2 R_0 cR_0_0 cR_0_1 cR_0_2 ha_0 hb_0 hbel_0 hB_1
  try clear hB
  go_wp2_with fail
  refine (HL.out _).mono ?_
  rintro e w2 ⟨rfl, hB⟩
  have hB_2 : Below w1.heap.size w1 w2 := (bl.next hB)
  have K_2 := K_1.next hB_2
  have cK_2_0 : _ = some (Value.int .i64 53) := K_2.cell 0
  have cK_2_1 : _ = some (Value.int .i64 (-1074)) := K_2.cell 1
  have cK_2_2 : _ = some (Value.int .i64 971) := K_2.cell 2
  have R_2 := R_1.next hB_2
  have cR_2_0 : _ = some (Value.bool false) := R_2.cell 0
  have cR_2_1 : _ = some (Value.slice a 1 c) := R_2.cell 1
  have cR_2_2 : _ = some (Value.slice b 1 d) := R_2.cell 2
  have ha_2 := ha_1.below hB_2
  have hb_2 := hb_1.below hB_2
  have hbel_2 := hbel_1.next hB_2
  have hsz_2 := hB_2.size
  clear K_1 cK_1_0 cK_1_1 cK_1_2 R_1 cR_1_0 cR_1_1 cR_1_2 ha_1 hb_1 hbel_1 hB_2
  try clear hB
  go_wp2_with fail
  refine (zsign_any false ha_2 (by omega)).mono ?_
  rintro e w3 ⟨rfl, hB⟩
  have hB_3 : Below w2.heap.size w2 w3 := (bl.next hB)
  have K_3 := K_2.next hB_3
  have cK_3_0 : _ = some (Value.int .i64 53) := K_3.cell 0
  have cK_3_1 : _ = some (Value.int .i64 (-1074)) := K_3.cell 1
  have cK_3_2 : _ = some (Value.int .i64 971) := K_3.cell 2
  have R_3 := R_2.next hB_3
  have cR_3_0 : _ = some (Value.bool false) := R_3.cell 0
  have cR_3_1 : _ = some (Value.slice a 1 c) := R_3.cell 1
  have cR_3_2 : _ = some (Value.slice b 1 d) := R_3.cell 2
  have ha_3 := ha_2.below hB_3
  have hb_3 := hb_2.below hB_3
  have hbel_3 := hbel_2.next hB_3
  have hsz_3 := hB_3.size
  clear K_2 cK_2_0 cK_2_1 cK_2_2 R_2 cR_2_0 cR_2_1 cR_2_2 ha_2 hb_2 hbel_2 hB_3
  try clear hB
  go_wp2
  go_ret
  exact ⟨rfl, hbel_3⟩

set_option maxRecDepth 100000 in
set_option maxHeartbeats 4000000 in
theorem roundS2 {w : World} {a b : Option Addr} {c d : Nat} (ha : Rd w a 1 c [1]) (hb : Rd w b 1 d [2]) :
    Calls Tryd.prog 28 #[.agg #[.int .i64 24, .int .i64 (-149), .int .i64 104], .agg #[.bool false, .slice a 1 c, .slice b 1 d]] w (fun e w' => e = .returned (.float .f64 4602678819172646912) ∧ Below w.heap.size w w') := by
  have HL := hid (fun w => Ldexps (w := w))
  have hcv := run_fls
  have hne : (FloatKind.f64.format.order 4602678819172646912 0 != some .eq) = true := by decide +kernel
  have hsg : sgn (zv false (val [1])) = 1 := by decide
  have hent := ent2 w #[Value.int .i64 24, Value.int .i64 (-149), Value.int .i64 104] #[Value.bool false, Value.slice a 1 c, Value.slice b 1 d] 53 27
  go_enter Tryd.func28, Tryd.ntmps28
  go_wp2_with fail
  generalize ((w.alloc (.cells #[Value.int .i64 24, Value.int .i64 (-149), Value.int .i64 104] 53)).alloc (.cells #[Value.bool false, Value.slice a 1 c, Value.slice b 1 d] 27)) = W0 at hent ⊢
  obtain ⟨K_0, R_0, hbel_0, hsz_0⟩ := hent
  have cK_0_0 : _ = some (Value.int .i64 24) := K_0.cell 0
  have cK_0_1 : _ = some (Value.int .i64 (-149)) := K_0.cell 1
  have cK_0_2 : _ = some (Value.int .i64 104) := K_0.cell 2
  have cR_0_0 : _ = some (Value.bool false) := R_0.cell 0
  have cR_0_1 : _ = some (Value.slice a 1 c) := R_0.cell 1
  have cR_0_2 : _ = some (Value.slice b 1 d) := R_0.cell 2
  have ha_0 := ha.below hbel_0
  clear ha
  have hb_0 := hb.below hbel_0
  clear hb
  go_wp2_with fail
  refine (cutS2 ha_0 hb_0).mono ?_
  rintro e w1 ⟨rfl, hB⟩
  have hB_1 : Below W0.heap.size W0 w1 := (bl.next hB)
  have K_1 := K_0.next hB_1
  have cK_1_0 : _ = some (Value.int .i64 24) := K_1.cell 0
  have cK_1_1 : _ = some (Value.int .i64 (-149)) := K_1.cell 1
  have cK_1_2 : _ = some (Value.int .i64 104) := K_1.cell 2
  have R_1 := R_0.next hB_1
  have cR_1_0 : _ = some (Value.bool false) := R_1.cell 0
  have cR_1_1 : _ = some (Value.slice a 1 c) := R_1.cell 1
  have cR_1_2 : _ = some (Value.slice b 1 d) := R_1.cell 2
  have ha_1 := ha_0.below hB_1
  have hb_1 := hb_0.below hB_1
  have hbel_1 := hbel_0.next hB_1
  have hsz_1 := hB_1.size
  clear K_0 cK_0_0 cK_0_1 cK_0_2 R_0 cR_0_0 cR_0_1 cR_0_2 ha_0 hb_0 hbel_0 hB_1
  try clear hB
  go_wp2_with fail
  refine (HL.out _).mono ?_
  rintro e w2 ⟨rfl, hB⟩
  have hB_2 : Below w1.heap.size w1 w2 := (bl.next hB)
  have K_2 := K_1.next hB_2
  have cK_2_0 : _ = some (Value.int .i64 24) := K_2.cell 0
  have cK_2_1 : _ = some (Value.int .i64 (-149)) := K_2.cell 1
  have cK_2_2 : _ = some (Value.int .i64 104) := K_2.cell 2
  have R_2 := R_1.next hB_2
  have cR_2_0 : _ = some (Value.bool false) := R_2.cell 0
  have cR_2_1 : _ = some (Value.slice a 1 c) := R_2.cell 1
  have cR_2_2 : _ = some (Value.slice b 1 d) := R_2.cell 2
  have ha_2 := ha_1.below hB_2
  have hb_2 := hb_1.below hB_2
  have hbel_2 := hbel_1.next hB_2
  have hsz_2 := hB_2.size
  clear K_1 cK_1_0 cK_1_1 cK_1_2 R_1 cR_1_0 cR_1_1 cR_1_2 ha_1 hb_1 hbel_1 hB_2
  try clear hB
  go_wp2_with fail
  refine (zsign_any false ha_2 (by omega)).mono ?_
  rintro e w3 ⟨rfl, hB⟩
  have hB_3 : Below w2.heap.size w2 w3 := (bl.next hB)
  have K_3 := K_2.next hB_3
  have cK_3_0 : _ = some (Value.int .i64 24) := K_3.cell 0
  have cK_3_1 : _ = some (Value.int .i64 (-149)) := K_3.cell 1
  have cK_3_2 : _ = some (Value.int .i64 104) := K_3.cell 2
  have R_3 := R_2.next hB_3
  have cR_3_0 : _ = some (Value.bool false) := R_3.cell 0
  have cR_3_1 : _ = some (Value.slice a 1 c) := R_3.cell 1
  have cR_3_2 : _ = some (Value.slice b 1 d) := R_3.cell 2
  have ha_3 := ha_2.below hB_3
  have hb_3 := hb_2.below hB_3
  have hbel_3 := hbel_2.next hB_3
  have hsz_3 := hB_3.size
  clear K_2 cK_2_0 cK_2_1 cK_2_2 R_2 cR_2_0 cR_2_1 cR_2_2 ha_2 hb_2 hbel_2 hB_3
  try clear hB
  go_wp2
  go_ret
  exact ⟨rfl, hbel_3⟩

set_option maxRecDepth 100000 in
set_option maxHeartbeats 4000000 in
theorem nearest2 {w : World} (g0 : w.cell? ⟨0, 0, none⟩ = some (.int .i64 53)) (g1 : w.cell? ⟨0, 1, none⟩ = some (.int .i64 (-1074))) (g2 : w.cell? ⟨0, 2, none⟩ = some (.int .i64 971)) {a b : Option Addr} {c d : Nat} (ha : Rd w a 1 c [1]) (hb : Rd w b 1 d [2]) :
    Calls Tryd.prog 9 #[.agg #[.bool false, .slice a 1 c, .slice b 1 d]] w (fun e w' => e = .returned (.float .f64 4602678819172646912) ∧ Below w.heap.size w w') := by
  have hw := World.block_lt_of_cell? _ _ g0
  have hent := ent1 w #[Value.bool false, Value.slice a 1 c, Value.slice b 1 d] 27
  go_enter Tryd.func9, Tryd.ntmps9
  go_wp2_with fail
  generalize (w.alloc (.cells #[Value.bool false, Value.slice a 1 c, Value.slice b 1 d] 27)) = W0 at hent ⊢
  obtain ⟨R_0, hbel_0, hsz_0⟩ := hent
  have cR_0_0 : _ = some (Value.bool false) := R_0.cell 0
  have cR_0_1 : _ = some (Value.slice a 1 c) := R_0.cell 1
  have cR_0_2 : _ = some (Value.slice b 1 d) := R_0.cell 2
  have ha_0 := ha.below hbel_0
  clear ha
  have hb_0 := hb.below hbel_0
  clear hb
  have e0 := (hbel_0.cell (p := ⟨0, 0, none⟩) hw).trans g0
  have e1 := (hbel_0.cell (p := ⟨0, 1, none⟩) hw).trans g1
  have e2 := (hbel_0.cell (p := ⟨0, 2, none⟩) hw).trans g2
  clear g0 g1 g2
  go_wp2_with fail
  refine (roundL2 ha_0 hb_0).mono ?_
  rintro e w1 ⟨rfl, hB⟩
  have hB_1 : Below W0.heap.size W0 w1 := (bl.next hB)
  have R_1 := R_0.next hB_1
  have cR_1_0 : _ = some (Value.bool false) := R_1.cell 0
  have cR_1_1 : _ = some (Value.slice a 1 c) := R_1.cell 1
  have cR_1_2 : _ = some (Value.slice b 1 d) := R_1.cell 2
  have ha_1 := ha_0.below hB_1
  have hb_1 := hb_0.below hB_1
  have hbel_1 := hbel_0.next hB_1
  have hsz_1 := hB_1.size
  clear R_0 cR_0_0 cR_0_1 cR_0_2 ha_0 hb_0 hbel_0 hB_1
  try clear hB
  go_wp2
  go_ret
  exact ⟨rfl, hbel_1⟩

set_option maxRecDepth 100000 in
theorem run_half32 (w : World) : (convert 28 42 (.float .f64 4602678819172646912)).run Tryd.prog w = .ok (.float .f32 1056964608) w := run_convert_float_float w _ _ .f64 .f32 _ _ rfl rfl (by decide +kernel)

set_option maxRecDepth 100000 in
set_option maxHeartbeats 4000000 in
theorem single2 {w : World} (g0 : w.cell? ⟨2, 0, none⟩ = some (.int .i64 24)) (g1 : w.cell? ⟨2, 1, none⟩ = some (.int .i64 (-149))) (g2 : w.cell? ⟨2, 2, none⟩ = some (.int .i64 104)) {a b : Option Addr} {c d : Nat} (ha : Rd w a 1 c [1]) (hb : Rd w b 1 d [2]) :
    Calls Tryd.prog 18 #[.agg #[.bool false, .slice a 1 c, .slice b 1 d]] w (fun e w' => e = .returned (.float .f32 1056964608) ∧ Below w.heap.size w w') := by
  have hw := World.block_lt_of_cell? _ _ g0
  have hc := run_half32
  have hent := ent1 w #[Value.bool false, Value.slice a 1 c, Value.slice b 1 d] 27
  go_enter Tryd.func18, Tryd.ntmps18
  go_wp2_with fail
  generalize (w.alloc (.cells #[Value.bool false, Value.slice a 1 c, Value.slice b 1 d] 27)) = W0 at hent ⊢
  obtain ⟨R_0, hbel_0, hsz_0⟩ := hent
  have cR_0_0 : _ = some (Value.bool false) := R_0.cell 0
  have cR_0_1 : _ = some (Value.slice a 1 c) := R_0.cell 1
  have cR_0_2 : _ = some (Value.slice b 1 d) := R_0.cell 2
  have ha_0 := ha.below hbel_0
  clear ha
  have hb_0 := hb.below hbel_0
  clear hb
  have e0 := (hbel_0.cell (p := ⟨2, 0, none⟩) hw).trans g0
  have e1 := (hbel_0.cell (p := ⟨2, 1, none⟩) hw).trans g1
  have e2 := (hbel_0.cell (p := ⟨2, 2, none⟩) hw).trans g2
  clear g0 g1 g2
  go_wp2_with fail
  refine (roundS2 ha_0 hb_0).mono ?_
  rintro e w1 ⟨rfl, hB⟩
  have hB_1 : Below W0.heap.size W0 w1 := (bl.next hB)
  have R_1 := R_0.next hB_1
  have cR_1_0 : _ = some (Value.bool false) := R_1.cell 0
  have cR_1_1 : _ = some (Value.slice a 1 c) := R_1.cell 1
  have cR_1_2 : _ = some (Value.slice b 1 d) := R_1.cell 2
  have ha_1 := ha_0.below hB_1
  have hb_1 := hb_0.below hB_1
  have hbel_1 := hbel_0.next hB_1
  have hsz_1 := hB_1.size
  clear R_0 cR_0_0 cR_0_1 cR_0_2 ha_0 hb_0 hbel_0 hB_1
  try clear hB
  go_wp2
  go_ret
  exact ⟨rfl, hbel_1⟩

set_option maxRecDepth 100000 in
theorem neg_lo (w : World) : Sem.run Tryd.prog (Op.unary .neg (.float .f64 4599676419421066581)) w = .ok (.float .f64 13823048456275842389) w := by kernel_rfl
set_option maxRecDepth 100000 in
theorem neg_hi (w : World) : Sem.run Tryd.prog (Op.unary .neg (.float .f64 4599676419421066582)) w = .ok (.float .f64 13823048456275842390) w := by kernel_rfl

set_option maxRecDepth 100000 in
set_option maxHeartbeats 4000000 in
theorem around3 {w : World} (g0 : w.cell? ⟨0, 0, none⟩ = some (.int .i64 53)) (g1 : w.cell? ⟨0, 1, none⟩ = some (.int .i64 (-1074))) (g2 : w.cell? ⟨0, 2, none⟩ = some (.int .i64 971)) {a b : Option Addr} {c d : Nat} (ha : Rd w a 1 c [1]) (hb : Rd w b 1 d [3]) :
    Calls Tryd.prog 7 #[.agg #[.bool true, .slice a 1 c, .slice b 1 d]] w (fun e w' => e = .returned (.tuple #[.float .f64 13823048456275842390, .float .f64 13823048456275842389]) ∧ Below w.heap.size w w') := by
  have hw := World.block_lt_of_cell? _ _ g0
  have HL := hid (fun w => Ldexpl (w := w))
  have HU := hid (fun w => Ldexpu (w := w))
  have hc1 := run_fll
  have hc2 := run_flu
  have hn1 := neg_lo
  have hn2 := neg_hi
  have hz : (FloatKind.f64.format.order 4599676419421066581 0 == some .eq) = false := by decide +kernel
  have hsg : sgn (zv true (val [1])) = -1 := by decide
  have hent := ent1 w #[Value.bool true, Value.slice a 1 c, Value.slice b 1 d] 27
  go_enter Tryd.func7, Tryd.ntmps7
  go_wp2_with fail
  generalize (w.alloc (.cells #[Value.bool true, Value.slice a 1 c, Value.slice b 1 d] 27)) = W0 at hent ⊢
  obtain ⟨R_0, hbel_0, hsz_0⟩ := hent
  have cR_0_0 : _ = some (Value.bool true) := R_0.cell 0
  have cR_0_1 : _ = some (Value.slice a 1 c) := R_0.cell 1
  have cR_0_2 : _ = some (Value.slice b 1 d) := R_0.cell 2
  have ha_0 := ha.below hbel_0
  clear ha
  have hb_0 := hb.below hbel_0
  clear hb
  have e0 := (hbel_0.cell (p := ⟨0, 0, none⟩) hw).trans g0
  have e1 := (hbel_0.cell (p := ⟨0, 1, none⟩) hw).trans g1
  have e2 := (hbel_0.cell (p := ⟨0, 2, none⟩) hw).trans g2
  clear g0 g1 g2
  go_wp2_with fail
  refine (cutL3 ha_0 hb_0).mono ?_
  rintro e w1 ⟨rfl, hB⟩
  have hB_1 : Below W0.heap.size W0 w1 := (bl.next hB)
  have R_1 := R_0.next hB_1
  have cR_1_0 : _ = some (Value.bool true) := R_1.cell 0
  have cR_1_1 : _ = some (Value.slice a 1 c) := R_1.cell 1
  have cR_1_2 : _ = some (Value.slice b 1 d) := R_1.cell 2
  have ha_1 := ha_0.below hB_1
  have hb_1 := hb_0.below hB_1
  have hbel_1 := hbel_0.next hB_1
  have hsz_1 := hB_1.size
  clear R_0 cR_0_0 cR_0_1 cR_0_2 ha_0 hb_0 hbel_0 hB_1
  try clear hB
  go_wp2_with fail
  refine (HL.out _).mono ?_
  rintro e w2 ⟨rfl, hB⟩
  have hB_2 : Below w1.heap.size w1 w2 := (bl.next hB)
  have R_2 := R_1.next hB_2
  have cR_2_0 : _ = some (Value.bool true) := R_2.cell 0
  have cR_2_1 : _ = some (Value.slice a 1 c) := R_2.cell 1
  have cR_2_2 : _ = some (Value.slice b 1 d) := R_2.cell 2
  have ha_2 := ha_1.below hB_2
  have hb_2 := hb_1.below hB_2
  have hbel_2 := hbel_1.next hB_2
  have hsz_2 := hB_2.size
  clear R_1 cR_1_0 cR_1_1 cR_1_2 ha_1 hb_1 hbel_1 hB_2
  try clear hB
  go_wp2_with fail
  refine (HL.out _).mono ?_
  rintro e w3 ⟨rfl, hB⟩
  have hB_3 : Below w2.heap.size w2 w3 := (bl.next hB)
  have R_3 := R_2.next hB_3
  have cR_3_0 : _ = some (Value.bool true) := R_3.cell 0
  have cR_3_1 : _ = some (Value.slice a 1 c) := R_3.cell 1
  have cR_3_2 : _ = some (Value.slice b 1 d) := R_3.cell 2
  have ha_3 := ha_2.below hB_3
  have hb_3 := hb_2.below hB_3
  have hbel_3 := hbel_2.next hB_3
  have hsz_3 := hB_3.size
  clear R_2 cR_2_0 cR_2_1 cR_2_2 ha_2 hb_2 hbel_2 hB_3
  try clear hB
  go_wp2_with fail
  refine (HU.out _).mono ?_
  rintro e w4 ⟨rfl, hB⟩
  have hB_4 : Below w3.heap.size w3 w4 := (bl.next hB)
  have R_4 := R_3.next hB_4
  have cR_4_0 : _ = some (Value.bool true) := R_4.cell 0
  have cR_4_1 : _ = some (Value.slice a 1 c) := R_4.cell 1
  have cR_4_2 : _ = some (Value.slice b 1 d) := R_4.cell 2
  have ha_4 := ha_3.below hB_4
  have hb_4 := hb_3.below hB_4
  have hbel_4 := hbel_3.next hB_4
  have hsz_4 := hB_4.size
  clear R_3 cR_3_0 cR_3_1 cR_3_2 ha_3 hb_3 hbel_3 hB_4
  try clear hB
  go_wp2_with fail
  refine (zsign_any true ha_4 (by omega)).mono ?_
  rintro e w5 ⟨rfl, hB⟩
  have hB_5 : Below w4.heap.size w4 w5 := (bl.next hB)
  have R_5 := R_4.next hB_5
  have cR_5_0 : _ = some (Value.bool true) := R_5.cell 0
  have cR_5_1 : _ = some (Value.slice a 1 c) := R_5.cell 1
  have cR_5_2 : _ = some (Value.slice b 1 d) := R_5.cell 2
  have ha_5 := ha_4.below hB_5
  have hb_5 := hb_4.below hB_5
  have hbel_5 := hbel_4.next hB_5
  have hsz_5 := hB_5.size
  clear R_4 cR_4_0 cR_4_1 cR_4_2 ha_4 hb_4 hbel_4 hB_5
  try clear hB
  go_wp2
  refine bodyPost_ret (v := .tuple #[.float .f64 13823048456275842390, .float .f64 13823048456275842389]) (by simp [results, Tryd.results7, go_sem]) rfl ?_
  exact ⟨rfl, hbel_5⟩

end Go.Proofs.YtoeldbdcbfgmoaaDoor
