/- THE WALK OF credencelaw12.RingLaws: the laws of rings, of any three things of each. -/
import Derived.Test.YtbfhnlbdpbfalaaGreatKe
import Derived.Test.YtbfhnlbdpbfalaaGreatKq2
import Derived.Test.YtbfhnlbdpbfalaaGreatKg2
import Derived.Test.YtbfhnlbdpbfalaaGreatKg3
import Derived.Deep.MidRow
namespace Go.Proofs.YtbfhnlbdpbfalaaGreat
set_option linter.unusedVariables false
set_option linter.unusedSimpArgs false
open Go.ChangeShapes Go.WideShapes Go.ChangeAt Go.RowKit Go.NatP

theorem blk_range {w : World} {g : Nat} {cs : Array Value} (h : Blk w g cs) : w.rangeAt g 0 cs.toList := fun j v hv => by
  rw [Nat.zero_add, h.cell j]; simpa using hv
theorem w64_sub (x : Int) : (wrap64 x - x) % 18446744073709551616 = 0 := by unfold wrap64; omega
theorem w64_congr {x y : Int} (h : (x - y) % 18446744073709551616 = 0) : wrap64 x = wrap64 y := by unfold wrap64; omega
theorem w64_ex (x : Int) : ∃ t, wrap64 x = x + 18446744073709551616 * t := ⟨(wrap64 x - x) / 18446744073709551616, by have := w64_sub x; omega⟩
theorem w64_of (x t : Int) : wrap64 (x + 18446744073709551616 * t) = wrap64 x := w64_congr (by omega)
theorem w64_dist (u v w : Int) : wrap64 (u * wrap64 (v + w)) = wrap64 (wrap64 (u * v) + wrap64 (u * w)) := by
  obtain ⟨t, ht⟩ := w64_ex (v + w)
  obtain ⟨t1, h1⟩ := w64_ex (u * v)
  obtain ⟨t2, h2⟩ := w64_ex (u * w)
  rw [ht, h1, h2, Int.mul_add, Int.mul_add, Int.mul_left_comm, w64_of, show u * v + 18446744073709551616 * t1 + (u * w + 18446744073709551616 * t2) = u * v + u * w + 18446744073709551616 * (t1 + t2) by omega, w64_of]
theorem w64_assoc (u v w : Int) : wrap64 (wrap64 (u * v) * w) = wrap64 (u * wrap64 (v * w)) := by
  obtain ⟨t, ht⟩ := w64_ex (u * v)
  obtain ⟨t1, h1⟩ := w64_ex (v * w)
  rw [ht, h1, Int.add_mul, Int.mul_add, Int.mul_assoc u v w, Int.mul_assoc _ t w, w64_of, show u * (18446744073709551616 * t1) = 18446744073709551616 * (u * t1) from Int.mul_left_comm _ _ _, w64_of]
theorem w64_id {x : Int} (h1 : -9223372036854775808 ≤ x) (h2 : x ≤ 9223372036854775807) : wrap64 x = x := by unfold wrap64; omega
theorem w64_bd (x : Int) : -9223372036854775808 ≤ wrap64 x ∧ wrap64 x ≤ 9223372036854775807 := by unfold wrap64; omega
theorem qv_false_nn (n d : Nat) : 0 ≤ qv false n d := by
  rcases sgnQ_cases (qv false n d) with ⟨h, e⟩ | ⟨h, _⟩ | ⟨h, _⟩
  · unfold qv at e
    rw [sgnQ_mk _ (und_ne d)] at e
    unfold sgn zv at e
    simp at e
    omega
  · rw [h]; exact Rat.le_refl
  · exact Rat.le_of_lt h

set_option maxRecDepth 100000 in
set_option maxHeartbeats 32000000 in
theorem ringLaws_walk {w : World} {a1 b1 : Option Addr} {n1 c1 m1 d1 : Nat} {la1 lb1 : List Nat} (s1 : Bool) (ha1 : Rd w a1 n1 c1 la1) (hb1 : Rd w b1 m1 d1 lb1) {a2 b2 : Option Addr} {n2 c2 m2 d2 : Nat} {la2 lb2 : List Nat} (s2 : Bool) (ha2 : Rd w a2 n2 c2 la2) (hb2 : Rd w b2 m2 d2 lb2) {a3 b3 : Option Addr} {n3 c3 m3 d3 : Nat} {la3 lb3 : List Nat} (s3 : Bool) (ha3 : Rd w a3 n3 c3 la3) (hb3 : Rd w b3 m3 d3 lb3) (u : Int) (bu1 : -9223372036854775808 ≤ u) (bu2 : u ≤ 9223372036854775807) (v : Int) (bv1 : -9223372036854775808 ≤ v) (bv2 : v ≤ 9223372036854775807) (z : Int) (bz1 : -9223372036854775808 ≤ z) (bz2 : z ≤ 9223372036854775807) (p q r : Bool) :
    Calls Tryz.prog 3 #[.agg #[Value.bool s1, Value.slice a1 n1 c1, Value.slice b1 m1 d1, Value.bool s2, Value.slice a2 n2 c2, Value.slice b2 m2 d2, Value.bool s3, Value.slice a3 n3 c3, Value.slice b3 m3 d3], .agg #[.int .i64 u, .int .i64 v, .int .i64 z], .agg #[.bool p, .bool q, .bool r]] w (fun e w' => e = .returned (.bool true) ∧ Below w.heap.size w w') := by
  obtain ⟨vz, hvz0⟩ : ∃ y, wrap64 (v + z) = y := ⟨_, rfl⟩
  have bvz := w64_bd (v + z)
  rw [hvz0] at bvz
  obtain ⟨vz1, vz2⟩ := bvz
  have hvz := hid hvz0
  obtain ⟨uv, huv0⟩ : ∃ y, wrap64 (u * v) = y := ⟨_, rfl⟩
  have buv := w64_bd (u * v)
  rw [huv0] at buv
  obtain ⟨uv1, uv2⟩ := buv
  have huv := hid huv0
  obtain ⟨uz, huz0⟩ : ∃ y, wrap64 (u * z) = y := ⟨_, rfl⟩
  have buz := w64_bd (u * z)
  rw [huz0] at buz
  obtain ⟨uz1, uz2⟩ := buz
  have huz := hid huz0
  obtain ⟨wv, hwv0⟩ : ∃ y, wrap64 (v * z) = y := ⟨_, rfl⟩
  have bwv := w64_bd (v * z)
  rw [hwv0] at bwv
  obtain ⟨wv1, wv2⟩ := bwv
  have hwv := hid hwv0
  obtain ⟨ud, hud0⟩ : ∃ y, wrap64 (u * vz) = y := ⟨_, rfl⟩
  have hud := hid hud0
  have hud2 := hid (show wrap64 (uv + uz) = ud by rw [← hud0, ← hvz0, ← huv0, ← huz0]; exact (w64_dist u v z).symm)
  obtain ⟨ua, hua0⟩ : ∃ y, wrap64 (uv * z) = y := ⟨_, rfl⟩
  have hua := hid hua0
  have hua2 := hid (show wrap64 (u * wv) = ua by rw [← hua0, ← huv0, ← hwv0]; exact (w64_assoc u v z).symm)
  have hu0 := hid (show wrap64 (u + 0) = u by rw [Int.add_zero]; exact w64_id bu1 bu2)
  have hu1 := hid (show wrap64 (u * 1) = u by rw [Int.mul_one]; exact w64_id bu1 bu2)
  have hum := hid (show wrap64 (u * 0) = 0 by rw [Int.mul_zero]; exact w64_id (by omega) (by omega))
  clear hvz0 huv0 huz0 hwv0 hud0 hua0
  have eud : (ud == ud) = true := beq_self_eq_true _
  have eua : (ua == ua) = true := beq_self_eq_true _
  have euu : (u == u) = true := beq_self_eq_true _
  obtain ⟨qr, hqr0⟩ : ∃ y, (q || r) = y := ⟨_, rfl⟩
  have hqr := hid hqr0
  obtain ⟨pq, hpq0⟩ : ∃ y, (p && q) = y := ⟨_, rfl⟩
  have hpq := hid hpq0
  obtain ⟨pr, hpr0⟩ : ∃ y, (p && r) = y := ⟨_, rfl⟩
  have hpr := hid hpr0
  obtain ⟨oq, hoq0⟩ : ∃ y, (p || q) = y := ⟨_, rfl⟩
  have hoq := hid hoq0
  obtain ⟨xq, hxq0⟩ : ∃ y, (q && r) = y := ⟨_, rfl⟩
  have hxq := hid hxq0
  obtain ⟨bd, hbd0⟩ : ∃ y, (p && qr) = y := ⟨_, rfl⟩
  have hbd := hid hbd0
  have hbd2 := hid (show (pq || pr) = bd by rw [← hbd0, ← hqr0, ← hpq0, ← hpr0]; cases p <;> cases q <;> cases r <;> rfl)
  obtain ⟨ba, hba0⟩ : ∃ y, (pq && r) = y := ⟨_, rfl⟩
  have hba := hid hba0
  have hba2 := hid (show (p && xq) = ba by rw [← hba0, ← hpq0, ← hxq0]; cases p <;> cases q <;> cases r <;> rfl)
  have hpf := hid (show (p || false) = p by cases p <;> rfl)
  have hpt := hid (show (p && true) = p by cases p <;> rfl)
  have hpm := hid (show (p && false) = false by cases p <;> rfl)
  have hqp := hid (show (q || p) = oq by rw [← hoq0]; cases p <;> cases q <;> rfl)
  clear hqr0 hpq0 hpr0 hoq0 hxq0 hbd0 hba0
  have ebd : (bd == bd) = true := beq_self_eq_true _
  have eba : (ba == ba) = true := beq_self_eq_true _
  have epp : (p == p) = true := beq_self_eq_true _
  have eoq : (oq == oq) = true := beq_self_eq_true _
  have HA1 := hid ha1
  have HB1 := hid hb1
  have A1 := ha1
  have B1 := hb1
  clear ha1 hb1
  have HA2 := hid ha2
  have HB2 := hid hb2
  have A2 := ha2
  have B2 := hb2
  clear ha2 hb2
  have HA3 := hid ha3
  have HB3 := hid hb3
  have A3 := ha3
  have B3 := hb3
  clear ha3 hb3
  have hent := ent3 w #[Value.bool s1, Value.slice a1 n1 c1, Value.slice b1 m1 d1, Value.bool s2, Value.slice a2 n2 c2, Value.slice b2 m2 d2, Value.bool s3, Value.slice a3 n3 c3, Value.slice b3 m3 d3] #[Value.int .i64 u, Value.int .i64 v, Value.int .i64 z] #[Value.bool p, Value.bool q, Value.bool r] 28 29 30
  go_enter Tryz.func3, Tryz.ntmps3
  go_wp2_with fail
  generalize (((w.alloc (.cells #[Value.bool s1, Value.slice a1 n1 c1, Value.slice b1 m1 d1, Value.bool s2, Value.slice a2 n2 c2, Value.slice b2 m2 d2, Value.bool s3, Value.slice a3 n3 c3, Value.slice b3 m3 d3] 28)).alloc (.cells #[Value.int .i64 u, Value.int .i64 v, Value.int .i64 z] 29)).alloc (.cells #[Value.bool p, Value.bool q, Value.bool r] 30)) = W0 at hent ⊢
  obtain ⟨X_0, Y_0, Z_0, hbel_0, hsz_0⟩ := hent
  have cX_0_0 : _ = some (Value.bool s1) := X_0.cell 0
  have fX_0_0 := X_0.free 0
  have cX_0_1 : _ = some (Value.slice a1 n1 c1) := X_0.cell 1
  have fX_0_1 := X_0.free 1
  have cX_0_2 : _ = some (Value.slice b1 m1 d1) := X_0.cell 2
  have fX_0_2 := X_0.free 2
  have cX_0_3 : _ = some (Value.bool s2) := X_0.cell 3
  have fX_0_3 := X_0.free 3
  have cX_0_4 : _ = some (Value.slice a2 n2 c2) := X_0.cell 4
  have fX_0_4 := X_0.free 4
  have cX_0_5 : _ = some (Value.slice b2 m2 d2) := X_0.cell 5
  have fX_0_5 := X_0.free 5
  have cX_0_6 : _ = some (Value.bool s3) := X_0.cell 6
  have fX_0_6 := X_0.free 6
  have cX_0_7 : _ = some (Value.slice a3 n3 c3) := X_0.cell 7
  have fX_0_7 := X_0.free 7
  have cX_0_8 : _ = some (Value.slice b3 m3 d3) := X_0.cell 8
  have fX_0_8 := X_0.free 8
  have cY_0_0 : _ = some (Value.int .i64 u) := Y_0.cell 0
  have cY_0_1 : _ = some (Value.int .i64 v) := Y_0.cell 1
  have cY_0_2 : _ = some (Value.int .i64 z) := Y_0.cell 2
  have cZ_0_0 : _ = some (Value.bool p) := Z_0.cell 0
  have cZ_0_1 : _ = some (Value.bool q) := Z_0.cell 1
  have cZ_0_2 : _ = some (Value.bool r) := Z_0.cell 2
  have A1_0 := A1.below hbel_0
  clear A1
  have A2_0 := A2.below hbel_0
  clear A2
  have A3_0 := A3.below hbel_0
  clear A3
  have B1_0 := B1.below hbel_0
  clear B1
  have B2_0 := B2.below hbel_0
  clear B2
  have B3_0 := B3.below hbel_0
  clear B3
  go_wp2_with fail
  refine (kawake).mono ?_
  rintro e w1 ⟨rfl, hB⟩
  have hB_1 : Below W0.heap.size W0 w1 := (bl.next hB)
  have X_1 := X_0.next hB_1
  have cX_1_0 : _ = some (Value.bool s1) := X_1.cell 0
  have fX_1_0 := X_1.free 0
  have cX_1_1 : _ = some (Value.slice a1 n1 c1) := X_1.cell 1
  have fX_1_1 := X_1.free 1
  have cX_1_2 : _ = some (Value.slice b1 m1 d1) := X_1.cell 2
  have fX_1_2 := X_1.free 2
  have cX_1_3 : _ = some (Value.bool s2) := X_1.cell 3
  have fX_1_3 := X_1.free 3
  have cX_1_4 : _ = some (Value.slice a2 n2 c2) := X_1.cell 4
  have fX_1_4 := X_1.free 4
  have cX_1_5 : _ = some (Value.slice b2 m2 d2) := X_1.cell 5
  have fX_1_5 := X_1.free 5
  have cX_1_6 : _ = some (Value.bool s3) := X_1.cell 6
  have fX_1_6 := X_1.free 6
  have cX_1_7 : _ = some (Value.slice a3 n3 c3) := X_1.cell 7
  have fX_1_7 := X_1.free 7
  have cX_1_8 : _ = some (Value.slice b3 m3 d3) := X_1.cell 8
  have fX_1_8 := X_1.free 8
  have Y_1 := Y_0.next hB_1
  have cY_1_0 : _ = some (Value.int .i64 u) := Y_1.cell 0
  have cY_1_1 : _ = some (Value.int .i64 v) := Y_1.cell 1
  have cY_1_2 : _ = some (Value.int .i64 z) := Y_1.cell 2
  have Z_1 := Z_0.next hB_1
  have cZ_1_0 : _ = some (Value.bool p) := Z_1.cell 0
  have cZ_1_1 : _ = some (Value.bool q) := Z_1.cell 1
  have cZ_1_2 : _ = some (Value.bool r) := Z_1.cell 2
  have A1_1 := A1_0.below hB_1
  have A2_1 := A2_0.below hB_1
  have A3_1 := A3_0.below hB_1
  have B1_1 := B1_0.below hB_1
  have B2_1 := B2_0.below hB_1
  have B3_1 := B3_0.below hB_1
  have hbel_1 := hbel_0.next hB_1
  have hsz_1 := hB_1.size
  clear X_0 cX_0_0 fX_0_0 cX_0_1 fX_0_1 cX_0_2 fX_0_2 cX_0_3 fX_0_3 cX_0_4 fX_0_4 cX_0_5 fX_0_5 cX_0_6 fX_0_6 cX_0_7 fX_0_7 cX_0_8 fX_0_8 Y_0 cY_0_0 cY_0_1 cY_0_2 Z_0 cZ_0_0 cZ_0_1 cZ_0_2 A1_0 A2_0 A3_0 B1_0 B2_0 B3_0 hbel_0 hB_1
  try clear hB
  have hbx0 : Blk ((w1.alloc (.cells #[Value.bool false, Value.slice none 0 0, Value.slice none 0 0, Value.bool false, Value.slice none 0 0, Value.slice none 0 0, Value.bool false, Value.slice none 0 0, Value.slice none 0 0, Value.bool false, Value.slice none 0 0, Value.slice none 0 0, Value.bool false, Value.slice none 0 0, Value.slice none 0 0, Value.bool false, Value.slice none 0 0, Value.slice none 0 0] 34)).alloc (.cells #[Value.bool false, Value.slice none 0 0, Value.slice none 0 0, Value.bool false, Value.slice none 0 0, Value.slice none 0 0, Value.bool false, Value.slice none 0 0, Value.slice none 0 0] 28)) (w1.heap.size) #[Value.bool false, Value.slice none 0 0, Value.slice none 0 0, Value.bool false, Value.slice none 0 0, Value.slice none 0 0, Value.bool false, Value.slice none 0 0, Value.slice none 0 0, Value.bool false, Value.slice none 0 0, Value.slice none 0 0, Value.bool false, Value.slice none 0 0, Value.slice none 0 0, Value.bool false, Value.slice none 0 0, Value.slice none 0 0] := ((blk_new' w1 #[Value.bool false, Value.slice none 0 0, Value.slice none 0 0, Value.bool false, Value.slice none 0 0, Value.slice none 0 0, Value.bool false, Value.slice none 0 0, Value.slice none 0 0, Value.bool false, Value.slice none 0 0, Value.slice none 0 0, Value.bool false, Value.slice none 0 0, Value.slice none 0 0, Value.bool false, Value.slice none 0 0, Value.slice none 0 0] 34 (g := w1.heap.size) (by simp)).alloc _)
  have hbx1 : Blk ((w1.alloc (.cells #[Value.bool false, Value.slice none 0 0, Value.slice none 0 0, Value.bool false, Value.slice none 0 0, Value.slice none 0 0, Value.bool false, Value.slice none 0 0, Value.slice none 0 0, Value.bool false, Value.slice none 0 0, Value.slice none 0 0, Value.bool false, Value.slice none 0 0, Value.slice none 0 0, Value.bool false, Value.slice none 0 0, Value.slice none 0 0] 34)).alloc (.cells #[Value.bool false, Value.slice none 0 0, Value.slice none 0 0, Value.bool false, Value.slice none 0 0, Value.slice none 0 0, Value.bool false, Value.slice none 0 0, Value.slice none 0 0] 28)) (w1.heap.size + 1) #[Value.bool false, Value.slice none 0 0, Value.slice none 0 0, Value.bool false, Value.slice none 0 0, Value.slice none 0 0, Value.bool false, Value.slice none 0 0, Value.slice none 0 0] := (blk_new' (w1.alloc (.cells #[Value.bool false, Value.slice none 0 0, Value.slice none 0 0, Value.bool false, Value.slice none 0 0, Value.slice none 0 0, Value.bool false, Value.slice none 0 0, Value.slice none 0 0, Value.bool false, Value.slice none 0 0, Value.slice none 0 0, Value.bool false, Value.slice none 0 0, Value.slice none 0 0, Value.bool false, Value.slice none 0 0, Value.slice none 0 0] 34)) #[Value.bool false, Value.slice none 0 0, Value.slice none 0 0, Value.bool false, Value.slice none 0 0, Value.slice none 0 0, Value.bool false, Value.slice none 0 0, Value.slice none 0 0] 28 (g := w1.heap.size + 1) (by simp))
  have hbB : Below w1.heap.size w1 ((w1.alloc (.cells #[Value.bool false, Value.slice none 0 0, Value.slice none 0 0, Value.bool false, Value.slice none 0 0, Value.slice none 0 0, Value.bool false, Value.slice none 0 0, Value.slice none 0 0, Value.bool false, Value.slice none 0 0, Value.slice none 0 0, Value.bool false, Value.slice none 0 0, Value.slice none 0 0, Value.bool false, Value.slice none 0 0, Value.slice none 0 0] 34)).alloc (.cells #[Value.bool false, Value.slice none 0 0, Value.slice none 0 0, Value.bool false, Value.slice none 0 0, Value.slice none 0 0, Value.bool false, Value.slice none 0 0, Value.slice none 0 0] 28)) := bl
  have hltSS := hbx0.lt
  have hltMM := hbx1.lt
  have hB_2 : Below w1.heap.size w1 ((w1.alloc (.cells #[Value.bool false, Value.slice none 0 0, Value.slice none 0 0, Value.bool false, Value.slice none 0 0, Value.slice none 0 0, Value.bool false, Value.slice none 0 0, Value.slice none 0 0, Value.bool false, Value.slice none 0 0, Value.slice none 0 0, Value.bool false, Value.slice none 0 0, Value.slice none 0 0, Value.bool false, Value.slice none 0 0, Value.slice none 0 0] 34)).alloc (.cells #[Value.bool false, Value.slice none 0 0, Value.slice none 0 0, Value.bool false, Value.slice none 0 0, Value.slice none 0 0, Value.bool false, Value.slice none 0 0, Value.slice none 0 0] 28)) := hbB
  have X_2 := X_1.next hB_2
  have cX_2_0 : _ = some (Value.bool s1) := X_2.cell 0
  have fX_2_0 := X_2.free 0
  have cX_2_1 : _ = some (Value.slice a1 n1 c1) := X_2.cell 1
  have fX_2_1 := X_2.free 1
  have cX_2_2 : _ = some (Value.slice b1 m1 d1) := X_2.cell 2
  have fX_2_2 := X_2.free 2
  have cX_2_3 : _ = some (Value.bool s2) := X_2.cell 3
  have fX_2_3 := X_2.free 3
  have cX_2_4 : _ = some (Value.slice a2 n2 c2) := X_2.cell 4
  have fX_2_4 := X_2.free 4
  have cX_2_5 : _ = some (Value.slice b2 m2 d2) := X_2.cell 5
  have fX_2_5 := X_2.free 5
  have cX_2_6 : _ = some (Value.bool s3) := X_2.cell 6
  have fX_2_6 := X_2.free 6
  have cX_2_7 : _ = some (Value.slice a3 n3 c3) := X_2.cell 7
  have fX_2_7 := X_2.free 7
  have cX_2_8 : _ = some (Value.slice b3 m3 d3) := X_2.cell 8
  have fX_2_8 := X_2.free 8
  have Y_2 := Y_1.next hB_2
  have cY_2_0 : _ = some (Value.int .i64 u) := Y_2.cell 0
  have cY_2_1 : _ = some (Value.int .i64 v) := Y_2.cell 1
  have cY_2_2 : _ = some (Value.int .i64 z) := Y_2.cell 2
  have Z_2 := Z_1.next hB_2
  have cZ_2_0 : _ = some (Value.bool p) := Z_2.cell 0
  have cZ_2_1 : _ = some (Value.bool q) := Z_2.cell 1
  have cZ_2_2 : _ = some (Value.bool r) := Z_2.cell 2
  have A1_2 := A1_1.below hB_2
  have A2_2 := A2_1.below hB_2
  have A3_2 := A3_1.below hB_2
  have B1_2 := B1_1.below hB_2
  have B2_2 := B2_1.below hB_2
  have B3_2 := B3_1.below hB_2
  have hbel_2 := hbel_1.next hB_2
  have hsz_2 := hB_2.size
  clear hB_2
  have SS_2 := hbx0
  clear hbx0
  have cSS_2_0 : _ = some (Value.bool false) := SS_2.cell 0
  have cSS_2_1 : _ = some (Value.slice none 0 0) := SS_2.cell 1
  have cSS_2_2 : _ = some (Value.slice none 0 0) := SS_2.cell 2
  have cSS_2_3 : _ = some (Value.bool false) := SS_2.cell 3
  have cSS_2_4 : _ = some (Value.slice none 0 0) := SS_2.cell 4
  have cSS_2_5 : _ = some (Value.slice none 0 0) := SS_2.cell 5
  have cSS_2_6 : _ = some (Value.bool false) := SS_2.cell 6
  have cSS_2_7 : _ = some (Value.slice none 0 0) := SS_2.cell 7
  have cSS_2_8 : _ = some (Value.slice none 0 0) := SS_2.cell 8
  have cSS_2_9 : _ = some (Value.bool false) := SS_2.cell 9
  have cSS_2_10 : _ = some (Value.slice none 0 0) := SS_2.cell 10
  have cSS_2_11 : _ = some (Value.slice none 0 0) := SS_2.cell 11
  have cSS_2_12 : _ = some (Value.bool false) := SS_2.cell 12
  have cSS_2_13 : _ = some (Value.slice none 0 0) := SS_2.cell 13
  have cSS_2_14 : _ = some (Value.slice none 0 0) := SS_2.cell 14
  have cSS_2_15 : _ = some (Value.bool false) := SS_2.cell 15
  have cSS_2_16 : _ = some (Value.slice none 0 0) := SS_2.cell 16
  have cSS_2_17 : _ = some (Value.slice none 0 0) := SS_2.cell 17
  have MM_2 := hbx1
  clear hbx1
  have cMM_2_0 : _ = some (Value.bool false) := MM_2.cell 0
  have cMM_2_1 : _ = some (Value.slice none 0 0) := MM_2.cell 1
  have cMM_2_2 : _ = some (Value.slice none 0 0) := MM_2.cell 2
  have cMM_2_3 : _ = some (Value.bool false) := MM_2.cell 3
  have cMM_2_4 : _ = some (Value.slice none 0 0) := MM_2.cell 4
  have cMM_2_5 : _ = some (Value.slice none 0 0) := MM_2.cell 5
  have cMM_2_6 : _ = some (Value.bool false) := MM_2.cell 6
  have cMM_2_7 : _ = some (Value.slice none 0 0) := MM_2.cell 7
  have cMM_2_8 : _ = some (Value.slice none 0 0) := MM_2.cell 8
  clear hbB
  go_wp2_with fail
  clear X_1 cX_1_0 fX_1_0 cX_1_1 fX_1_1 cX_1_2 fX_1_2 cX_1_3 fX_1_3 cX_1_4 fX_1_4 cX_1_5 fX_1_5 cX_1_6 fX_1_6 cX_1_7 fX_1_7 cX_1_8 fX_1_8 Y_1 cY_1_0 cY_1_1 cY_1_2 Z_1 cZ_1_0 cZ_1_1 cZ_1_2 A1_1 A2_1 A3_1 B1_1 B2_1 B3_1 hbel_1
  generalize ((w1.alloc (.cells #[Value.bool false, Value.slice none 0 0, Value.slice none 0 0, Value.bool false, Value.slice none 0 0, Value.slice none 0 0, Value.bool false, Value.slice none 0 0, Value.slice none 0 0, Value.bool false, Value.slice none 0 0, Value.slice none 0 0, Value.bool false, Value.slice none 0 0, Value.slice none 0 0, Value.bool false, Value.slice none 0 0, Value.slice none 0 0] 34)).alloc (.cells #[Value.bool false, Value.slice none 0 0, Value.slice none 0 0, Value.bool false, Value.slice none 0 0, Value.slice none 0 0, Value.bool false, Value.slice none 0 0, Value.slice none 0 0] 28)) = v2 at *
  have cSS_2_0 : _ = some (Value.bool false) := SS_2.cell 0
  have fSS_2_0 := SS_2.free 0
  have cSS_2_1 : _ = some (Value.slice none 0 0) := SS_2.cell 1
  have fSS_2_1 := SS_2.free 1
  have cSS_2_2 : _ = some (Value.slice none 0 0) := SS_2.cell 2
  have fSS_2_2 := SS_2.free 2
  have cSS_2_3 : _ = some (Value.bool false) := SS_2.cell 3
  have fSS_2_3 := SS_2.free 3
  have cSS_2_4 : _ = some (Value.slice none 0 0) := SS_2.cell 4
  have fSS_2_4 := SS_2.free 4
  have cSS_2_5 : _ = some (Value.slice none 0 0) := SS_2.cell 5
  have fSS_2_5 := SS_2.free 5
  have cSS_2_6 : _ = some (Value.bool false) := SS_2.cell 6
  have fSS_2_6 := SS_2.free 6
  have cSS_2_7 : _ = some (Value.slice none 0 0) := SS_2.cell 7
  have fSS_2_7 := SS_2.free 7
  have cSS_2_8 : _ = some (Value.slice none 0 0) := SS_2.cell 8
  have fSS_2_8 := SS_2.free 8
  have cSS_2_9 : _ = some (Value.bool false) := SS_2.cell 9
  have fSS_2_9 := SS_2.free 9
  have cSS_2_10 : _ = some (Value.slice none 0 0) := SS_2.cell 10
  have fSS_2_10 := SS_2.free 10
  have cSS_2_11 : _ = some (Value.slice none 0 0) := SS_2.cell 11
  have fSS_2_11 := SS_2.free 11
  have cSS_2_12 : _ = some (Value.bool false) := SS_2.cell 12
  have fSS_2_12 := SS_2.free 12
  have cSS_2_13 : _ = some (Value.slice none 0 0) := SS_2.cell 13
  have fSS_2_13 := SS_2.free 13
  have cSS_2_14 : _ = some (Value.slice none 0 0) := SS_2.cell 14
  have fSS_2_14 := SS_2.free 14
  have cSS_2_15 : _ = some (Value.bool false) := SS_2.cell 15
  have fSS_2_15 := SS_2.free 15
  have cSS_2_16 : _ = some (Value.slice none 0 0) := SS_2.cell 16
  have fSS_2_16 := SS_2.free 16
  have cSS_2_17 : _ = some (Value.slice none 0 0) := SS_2.cell 17
  have fSS_2_17 := SS_2.free 17
  have cMM_2_0 : _ = some (Value.bool false) := MM_2.cell 0
  have fMM_2_0 := MM_2.free 0
  have cMM_2_1 : _ = some (Value.slice none 0 0) := MM_2.cell 1
  have fMM_2_1 := MM_2.free 1
  have cMM_2_2 : _ = some (Value.slice none 0 0) := MM_2.cell 2
  have fMM_2_2 := MM_2.free 2
  have cMM_2_3 : _ = some (Value.bool false) := MM_2.cell 3
  have fMM_2_3 := MM_2.free 3
  have cMM_2_4 : _ = some (Value.slice none 0 0) := MM_2.cell 4
  have fMM_2_4 := MM_2.free 4
  have cMM_2_5 : _ = some (Value.slice none 0 0) := MM_2.cell 5
  have fMM_2_5 := MM_2.free 5
  have cMM_2_6 : _ = some (Value.bool false) := MM_2.cell 6
  have fMM_2_6 := MM_2.free 6
  have cMM_2_7 : _ = some (Value.slice none 0 0) := MM_2.cell 7
  have fMM_2_7 := MM_2.free 7
  have cMM_2_8 : _ = some (Value.slice none 0 0) := MM_2.cell 8
  have fMM_2_8 := MM_2.free 8
  go_wp2_with fail
  refine wp_loop_rounds 4 ?_
  rw [rounds_succ]
  go_wp2_with fail
  refine (fcut 6 (by omega) A1_2 B1_2).mono ?_
  rintro e w3 ⟨p1, l1, q1, k1, rfl, hp1, hq1, hlA1, hlB1, hR, hR', hB⟩
  have hB_3 : Below v2.heap.size v2 w3 := (bl.next hB)
  have X_3 := X_2.next hB_3
  have cX_3_0 : _ = some (Value.bool s1) := X_3.cell 0
  have fX_3_0 := X_3.free 0
  have cX_3_1 : _ = some (Value.slice a1 n1 c1) := X_3.cell 1
  have fX_3_1 := X_3.free 1
  have cX_3_2 : _ = some (Value.slice b1 m1 d1) := X_3.cell 2
  have fX_3_2 := X_3.free 2
  have cX_3_3 : _ = some (Value.bool s2) := X_3.cell 3
  have fX_3_3 := X_3.free 3
  have cX_3_4 : _ = some (Value.slice a2 n2 c2) := X_3.cell 4
  have fX_3_4 := X_3.free 4
  have cX_3_5 : _ = some (Value.slice b2 m2 d2) := X_3.cell 5
  have fX_3_5 := X_3.free 5
  have cX_3_6 : _ = some (Value.bool s3) := X_3.cell 6
  have fX_3_6 := X_3.free 6
  have cX_3_7 : _ = some (Value.slice a3 n3 c3) := X_3.cell 7
  have fX_3_7 := X_3.free 7
  have cX_3_8 : _ = some (Value.slice b3 m3 d3) := X_3.cell 8
  have fX_3_8 := X_3.free 8
  have Y_3 := Y_2.next hB_3
  have cY_3_0 : _ = some (Value.int .i64 u) := Y_3.cell 0
  have cY_3_1 : _ = some (Value.int .i64 v) := Y_3.cell 1
  have cY_3_2 : _ = some (Value.int .i64 z) := Y_3.cell 2
  have Z_3 := Z_2.next hB_3
  have cZ_3_0 : _ = some (Value.bool p) := Z_3.cell 0
  have cZ_3_1 : _ = some (Value.bool q) := Z_3.cell 1
  have cZ_3_2 : _ = some (Value.bool r) := Z_3.cell 2
  have SS_3 := SS_2.next hB_3
  have cSS_3_0 : _ = some (Value.bool false) := SS_3.cell 0
  have fSS_3_0 := SS_3.free 0
  have cSS_3_1 : _ = some (Value.slice none 0 0) := SS_3.cell 1
  have fSS_3_1 := SS_3.free 1
  have cSS_3_2 : _ = some (Value.slice none 0 0) := SS_3.cell 2
  have fSS_3_2 := SS_3.free 2
  have cSS_3_3 : _ = some (Value.bool false) := SS_3.cell 3
  have fSS_3_3 := SS_3.free 3
  have cSS_3_4 : _ = some (Value.slice none 0 0) := SS_3.cell 4
  have fSS_3_4 := SS_3.free 4
  have cSS_3_5 : _ = some (Value.slice none 0 0) := SS_3.cell 5
  have fSS_3_5 := SS_3.free 5
  have cSS_3_6 : _ = some (Value.bool false) := SS_3.cell 6
  have fSS_3_6 := SS_3.free 6
  have cSS_3_7 : _ = some (Value.slice none 0 0) := SS_3.cell 7
  have fSS_3_7 := SS_3.free 7
  have cSS_3_8 : _ = some (Value.slice none 0 0) := SS_3.cell 8
  have fSS_3_8 := SS_3.free 8
  have cSS_3_9 : _ = some (Value.bool false) := SS_3.cell 9
  have fSS_3_9 := SS_3.free 9
  have cSS_3_10 : _ = some (Value.slice none 0 0) := SS_3.cell 10
  have fSS_3_10 := SS_3.free 10
  have cSS_3_11 : _ = some (Value.slice none 0 0) := SS_3.cell 11
  have fSS_3_11 := SS_3.free 11
  have cSS_3_12 : _ = some (Value.bool false) := SS_3.cell 12
  have fSS_3_12 := SS_3.free 12
  have cSS_3_13 : _ = some (Value.slice none 0 0) := SS_3.cell 13
  have fSS_3_13 := SS_3.free 13
  have cSS_3_14 : _ = some (Value.slice none 0 0) := SS_3.cell 14
  have fSS_3_14 := SS_3.free 14
  have cSS_3_15 : _ = some (Value.bool false) := SS_3.cell 15
  have fSS_3_15 := SS_3.free 15
  have cSS_3_16 : _ = some (Value.slice none 0 0) := SS_3.cell 16
  have fSS_3_16 := SS_3.free 16
  have cSS_3_17 : _ = some (Value.slice none 0 0) := SS_3.cell 17
  have fSS_3_17 := SS_3.free 17
  have MM_3 := MM_2.next hB_3
  have cMM_3_0 : _ = some (Value.bool false) := MM_3.cell 0
  have fMM_3_0 := MM_3.free 0
  have cMM_3_1 : _ = some (Value.slice none 0 0) := MM_3.cell 1
  have fMM_3_1 := MM_3.free 1
  have cMM_3_2 : _ = some (Value.slice none 0 0) := MM_3.cell 2
  have fMM_3_2 := MM_3.free 2
  have cMM_3_3 : _ = some (Value.bool false) := MM_3.cell 3
  have fMM_3_3 := MM_3.free 3
  have cMM_3_4 : _ = some (Value.slice none 0 0) := MM_3.cell 4
  have fMM_3_4 := MM_3.free 4
  have cMM_3_5 : _ = some (Value.slice none 0 0) := MM_3.cell 5
  have fMM_3_5 := MM_3.free 5
  have cMM_3_6 : _ = some (Value.bool false) := MM_3.cell 6
  have fMM_3_6 := MM_3.free 6
  have cMM_3_7 : _ = some (Value.slice none 0 0) := MM_3.cell 7
  have fMM_3_7 := MM_3.free 7
  have cMM_3_8 : _ = some (Value.slice none 0 0) := MM_3.cell 8
  have fMM_3_8 := MM_3.free 8
  have A1_3 := A1_2.below hB_3
  have A2_3 := A2_2.below hB_3
  have A3_3 := A3_2.below hB_3
  have B1_3 := B1_2.below hB_3
  have B2_3 := B2_2.below hB_3
  have B3_3 := B3_2.below hB_3
  have hbel_3 := hbel_2.next hB_3
  have hsz_3 := hB_3.size
  clear X_2 cX_2_0 fX_2_0 cX_2_1 fX_2_1 cX_2_2 fX_2_2 cX_2_3 fX_2_3 cX_2_4 fX_2_4 cX_2_5 fX_2_5 cX_2_6 fX_2_6 cX_2_7 fX_2_7 cX_2_8 fX_2_8 Y_2 cY_2_0 cY_2_1 cY_2_2 Z_2 cZ_2_0 cZ_2_1 cZ_2_2 SS_2 cSS_2_0 fSS_2_0 cSS_2_1 fSS_2_1 cSS_2_2 fSS_2_2 cSS_2_3 fSS_2_3 cSS_2_4 fSS_2_4 cSS_2_5 fSS_2_5 cSS_2_6 fSS_2_6 cSS_2_7 fSS_2_7 cSS_2_8 fSS_2_8 cSS_2_9 fSS_2_9 cSS_2_10 fSS_2_10 cSS_2_11 fSS_2_11 cSS_2_12 fSS_2_12 cSS_2_13 fSS_2_13 cSS_2_14 fSS_2_14 cSS_2_15 fSS_2_15 cSS_2_16 fSS_2_16 cSS_2_17 fSS_2_17 MM_2 cMM_2_0 fMM_2_0 cMM_2_1 fMM_2_1 cMM_2_2 fMM_2_2 cMM_2_3 fMM_2_3 cMM_2_4 fMM_2_4 cMM_2_5 fMM_2_5 cMM_2_6 fMM_2_6 cMM_2_7 fMM_2_7 cMM_2_8 fMM_2_8 A1_2 A2_2 A3_2 B1_2 B2_2 B3_2 hbel_2 hB_3
  have A1_3 := hR
  have B1_3 := hR'
  clear hR hR'
  try clear hB
  have hkp := ((((Kp.refl (fun j => j = w.heap.size) (w3)).setCell (ad := ⟨w.heap.size, 0, none⟩) rfl (Value.bool s1)).setCell (ad := ⟨w.heap.size, 1, none⟩) rfl (Value.slice a1 p1 c1)).setCell (ad := ⟨w.heap.size, 2, none⟩) rfl (Value.slice b1 q1 d1))
  have X_4 := (show Blk ((((w3.setCell ⟨w.heap.size, 0, none⟩ (Value.bool s1)).setCell ⟨w.heap.size, 1, none⟩ (Value.slice a1 p1 c1)).setCell ⟨w.heap.size, 2, none⟩ (Value.slice b1 q1 d1))) _ #[Value.bool s1, Value.slice a1 p1 c1, Value.slice b1 q1 d1, Value.bool s2, Value.slice a2 n2 c2, Value.slice b2 m2 d2, Value.bool s3, Value.slice a3 n3 c3, Value.slice b3 m3 d3] from (((X_3).setCell (i := 0) (v := Value.bool s1) (by simp)).setCell (i := 1) (v := Value.slice a1 p1 c1) (by simp)).setCell (i := 2) (v := Value.slice b1 q1 d1) (by simp))
  have Y_4 := Y_3.kp hkp (by show ¬ (w.heap.size + 1 = w.heap.size); omega)
  have Z_4 := Z_3.kp hkp (by show ¬ (w.heap.size + 1 + 1 = w.heap.size); omega)
  have SS_4 := SS_3.kp hkp (by show ¬ (w1.heap.size = w.heap.size); omega)
  have MM_4 := MM_3.kp hkp (by show ¬ (w1.heap.size + 1 = w.heap.size); omega)
  have A1_4 := HA1.out.kp_old hlA1 A1_3 hkp (fun b hb => by show ¬ (b = _); omega)
  have A2_4 := HA2.out.kp_old (Nat.le_refl _) A2_3 hkp (fun b hb => by show ¬ (b = _); omega)
  have A3_4 := HA3.out.kp_old (Nat.le_refl _) A3_3 hkp (fun b hb => by show ¬ (b = _); omega)
  have B1_4 := HB1.out.kp_old hlB1 B1_3 hkp (fun b hb => by show ¬ (b = _); omega)
  have B2_4 := HB2.out.kp_old (Nat.le_refl _) B2_3 hkp (fun b hb => by show ¬ (b = _); omega)
  have B3_4 := HB3.out.kp_old (Nat.le_refl _) B3_3 hkp (fun b hb => by show ¬ (b = _); omega)
  have hbel_4 := hbel_3.kp hkp hbel_3.size (fun j hj => by show ¬ (j = w.heap.size); omega)
  have hsz_4 := hkp.size
  clear hkp
  have cX_4_0 : _ = some (Value.bool s1) := X_4.cell 0
  have fX_4_0 := X_4.free 0
  have cX_4_1 : _ = some (Value.slice a1 p1 c1) := X_4.cell 1
  have fX_4_1 := X_4.free 1
  have cX_4_2 : _ = some (Value.slice b1 q1 d1) := X_4.cell 2
  have fX_4_2 := X_4.free 2
  have cX_4_3 : _ = some (Value.bool s2) := X_4.cell 3
  have fX_4_3 := X_4.free 3
  have cX_4_4 : _ = some (Value.slice a2 n2 c2) := X_4.cell 4
  have fX_4_4 := X_4.free 4
  have cX_4_5 : _ = some (Value.slice b2 m2 d2) := X_4.cell 5
  have fX_4_5 := X_4.free 5
  have cX_4_6 : _ = some (Value.bool s3) := X_4.cell 6
  have fX_4_6 := X_4.free 6
  have cX_4_7 : _ = some (Value.slice a3 n3 c3) := X_4.cell 7
  have fX_4_7 := X_4.free 7
  have cX_4_8 : _ = some (Value.slice b3 m3 d3) := X_4.cell 8
  have fX_4_8 := X_4.free 8
  have cY_4_0 : _ = some (Value.int .i64 u) := Y_4.cell 0
  have cY_4_1 : _ = some (Value.int .i64 v) := Y_4.cell 1
  have cY_4_2 : _ = some (Value.int .i64 z) := Y_4.cell 2
  have cZ_4_0 : _ = some (Value.bool p) := Z_4.cell 0
  have cZ_4_1 : _ = some (Value.bool q) := Z_4.cell 1
  have cZ_4_2 : _ = some (Value.bool r) := Z_4.cell 2
  have cSS_4_0 : _ = some (Value.bool false) := SS_4.cell 0
  have fSS_4_0 := SS_4.free 0
  have cSS_4_1 : _ = some (Value.slice none 0 0) := SS_4.cell 1
  have fSS_4_1 := SS_4.free 1
  have cSS_4_2 : _ = some (Value.slice none 0 0) := SS_4.cell 2
  have fSS_4_2 := SS_4.free 2
  have cSS_4_3 : _ = some (Value.bool false) := SS_4.cell 3
  have fSS_4_3 := SS_4.free 3
  have cSS_4_4 : _ = some (Value.slice none 0 0) := SS_4.cell 4
  have fSS_4_4 := SS_4.free 4
  have cSS_4_5 : _ = some (Value.slice none 0 0) := SS_4.cell 5
  have fSS_4_5 := SS_4.free 5
  have cSS_4_6 : _ = some (Value.bool false) := SS_4.cell 6
  have fSS_4_6 := SS_4.free 6
  have cSS_4_7 : _ = some (Value.slice none 0 0) := SS_4.cell 7
  have fSS_4_7 := SS_4.free 7
  have cSS_4_8 : _ = some (Value.slice none 0 0) := SS_4.cell 8
  have fSS_4_8 := SS_4.free 8
  have cSS_4_9 : _ = some (Value.bool false) := SS_4.cell 9
  have fSS_4_9 := SS_4.free 9
  have cSS_4_10 : _ = some (Value.slice none 0 0) := SS_4.cell 10
  have fSS_4_10 := SS_4.free 10
  have cSS_4_11 : _ = some (Value.slice none 0 0) := SS_4.cell 11
  have fSS_4_11 := SS_4.free 11
  have cSS_4_12 : _ = some (Value.bool false) := SS_4.cell 12
  have fSS_4_12 := SS_4.free 12
  have cSS_4_13 : _ = some (Value.slice none 0 0) := SS_4.cell 13
  have fSS_4_13 := SS_4.free 13
  have cSS_4_14 : _ = some (Value.slice none 0 0) := SS_4.cell 14
  have fSS_4_14 := SS_4.free 14
  have cSS_4_15 : _ = some (Value.bool false) := SS_4.cell 15
  have fSS_4_15 := SS_4.free 15
  have cSS_4_16 : _ = some (Value.slice none 0 0) := SS_4.cell 16
  have fSS_4_16 := SS_4.free 16
  have cSS_4_17 : _ = some (Value.slice none 0 0) := SS_4.cell 17
  have fSS_4_17 := SS_4.free 17
  have cMM_4_0 : _ = some (Value.bool false) := MM_4.cell 0
  have fMM_4_0 := MM_4.free 0
  have cMM_4_1 : _ = some (Value.slice none 0 0) := MM_4.cell 1
  have fMM_4_1 := MM_4.free 1
  have cMM_4_2 : _ = some (Value.slice none 0 0) := MM_4.cell 2
  have fMM_4_2 := MM_4.free 2
  have cMM_4_3 : _ = some (Value.bool false) := MM_4.cell 3
  have fMM_4_3 := MM_4.free 3
  have cMM_4_4 : _ = some (Value.slice none 0 0) := MM_4.cell 4
  have fMM_4_4 := MM_4.free 4
  have cMM_4_5 : _ = some (Value.slice none 0 0) := MM_4.cell 5
  have fMM_4_5 := MM_4.free 5
  have cMM_4_6 : _ = some (Value.bool false) := MM_4.cell 6
  have fMM_4_6 := MM_4.free 6
  have cMM_4_7 : _ = some (Value.slice none 0 0) := MM_4.cell 7
  have fMM_4_7 := MM_4.free 7
  have cMM_4_8 : _ = some (Value.slice none 0 0) := MM_4.cell 8
  have fMM_4_8 := MM_4.free 8
  have hkp := ((((Kp.refl (fun j => j = w1.heap.size + 1) ((((w3.setCell ⟨w.heap.size, 0, none⟩ (Value.bool s1)).setCell ⟨w.heap.size, 1, none⟩ (Value.slice a1 p1 c1)).setCell ⟨w.heap.size, 2, none⟩ (Value.slice b1 q1 d1)))).setCell (ad := ⟨w1.heap.size + 1, 0, none⟩) rfl (Value.bool s1)).setCell (ad := ⟨w1.heap.size + 1, 1, none⟩) rfl (Value.slice a1 p1 c1)).setCell (ad := ⟨w1.heap.size + 1, 2, none⟩) rfl (Value.slice b1 q1 d1))
  have MM_5 := (show Blk (((((((w3.setCell ⟨w.heap.size, 0, none⟩ (Value.bool s1)).setCell ⟨w.heap.size, 1, none⟩ (Value.slice a1 p1 c1)).setCell ⟨w.heap.size, 2, none⟩ (Value.slice b1 q1 d1)).setCell ⟨w1.heap.size + 1, 0, none⟩ (Value.bool s1)).setCell ⟨w1.heap.size + 1, 1, none⟩ (Value.slice a1 p1 c1)).setCell ⟨w1.heap.size + 1, 2, none⟩ (Value.slice b1 q1 d1))) _ #[Value.bool s1, Value.slice a1 p1 c1, Value.slice b1 q1 d1, Value.bool false, Value.slice none 0 0, Value.slice none 0 0, Value.bool false, Value.slice none 0 0, Value.slice none 0 0] from (((MM_4).setCell (i := 0) (v := Value.bool s1) (by simp)).setCell (i := 1) (v := Value.slice a1 p1 c1) (by simp)).setCell (i := 2) (v := Value.slice b1 q1 d1) (by simp))
  have X_5 := X_4.kp hkp (by show ¬ (w.heap.size = w1.heap.size + 1); omega)
  have Y_5 := Y_4.kp hkp (by show ¬ (w.heap.size + 1 = w1.heap.size + 1); omega)
  have Z_5 := Z_4.kp hkp (by show ¬ (w.heap.size + 1 + 1 = w1.heap.size + 1); omega)
  have SS_5 := SS_4.kp hkp (by show ¬ (w1.heap.size = w1.heap.size + 1); omega)
  have A1_5 := HA1.out.kp_old hlA1 A1_4 hkp (fun b hb => by show ¬ (b = _); omega)
  have A2_5 := HA2.out.kp_old (Nat.le_refl _) A2_4 hkp (fun b hb => by show ¬ (b = _); omega)
  have A3_5 := HA3.out.kp_old (Nat.le_refl _) A3_4 hkp (fun b hb => by show ¬ (b = _); omega)
  have B1_5 := HB1.out.kp_old hlB1 B1_4 hkp (fun b hb => by show ¬ (b = _); omega)
  have B2_5 := HB2.out.kp_old (Nat.le_refl _) B2_4 hkp (fun b hb => by show ¬ (b = _); omega)
  have B3_5 := HB3.out.kp_old (Nat.le_refl _) B3_4 hkp (fun b hb => by show ¬ (b = _); omega)
  have hbel_5 := hbel_4.kp hkp hbel_4.size (fun j hj => by show ¬ (j = w1.heap.size + 1); omega)
  have hsz_5 := hkp.size
  clear hkp
  have cX_5_0 : _ = some (Value.bool s1) := X_5.cell 0
  have fX_5_0 := X_5.free 0
  have cX_5_1 : _ = some (Value.slice a1 p1 c1) := X_5.cell 1
  have fX_5_1 := X_5.free 1
  have cX_5_2 : _ = some (Value.slice b1 q1 d1) := X_5.cell 2
  have fX_5_2 := X_5.free 2
  have cX_5_3 : _ = some (Value.bool s2) := X_5.cell 3
  have fX_5_3 := X_5.free 3
  have cX_5_4 : _ = some (Value.slice a2 n2 c2) := X_5.cell 4
  have fX_5_4 := X_5.free 4
  have cX_5_5 : _ = some (Value.slice b2 m2 d2) := X_5.cell 5
  have fX_5_5 := X_5.free 5
  have cX_5_6 : _ = some (Value.bool s3) := X_5.cell 6
  have fX_5_6 := X_5.free 6
  have cX_5_7 : _ = some (Value.slice a3 n3 c3) := X_5.cell 7
  have fX_5_7 := X_5.free 7
  have cX_5_8 : _ = some (Value.slice b3 m3 d3) := X_5.cell 8
  have fX_5_8 := X_5.free 8
  have cY_5_0 : _ = some (Value.int .i64 u) := Y_5.cell 0
  have cY_5_1 : _ = some (Value.int .i64 v) := Y_5.cell 1
  have cY_5_2 : _ = some (Value.int .i64 z) := Y_5.cell 2
  have cZ_5_0 : _ = some (Value.bool p) := Z_5.cell 0
  have cZ_5_1 : _ = some (Value.bool q) := Z_5.cell 1
  have cZ_5_2 : _ = some (Value.bool r) := Z_5.cell 2
  have cSS_5_0 : _ = some (Value.bool false) := SS_5.cell 0
  have fSS_5_0 := SS_5.free 0
  have cSS_5_1 : _ = some (Value.slice none 0 0) := SS_5.cell 1
  have fSS_5_1 := SS_5.free 1
  have cSS_5_2 : _ = some (Value.slice none 0 0) := SS_5.cell 2
  have fSS_5_2 := SS_5.free 2
  have cSS_5_3 : _ = some (Value.bool false) := SS_5.cell 3
  have fSS_5_3 := SS_5.free 3
  have cSS_5_4 : _ = some (Value.slice none 0 0) := SS_5.cell 4
  have fSS_5_4 := SS_5.free 4
  have cSS_5_5 : _ = some (Value.slice none 0 0) := SS_5.cell 5
  have fSS_5_5 := SS_5.free 5
  have cSS_5_6 : _ = some (Value.bool false) := SS_5.cell 6
  have fSS_5_6 := SS_5.free 6
  have cSS_5_7 : _ = some (Value.slice none 0 0) := SS_5.cell 7
  have fSS_5_7 := SS_5.free 7
  have cSS_5_8 : _ = some (Value.slice none 0 0) := SS_5.cell 8
  have fSS_5_8 := SS_5.free 8
  have cSS_5_9 : _ = some (Value.bool false) := SS_5.cell 9
  have fSS_5_9 := SS_5.free 9
  have cSS_5_10 : _ = some (Value.slice none 0 0) := SS_5.cell 10
  have fSS_5_10 := SS_5.free 10
  have cSS_5_11 : _ = some (Value.slice none 0 0) := SS_5.cell 11
  have fSS_5_11 := SS_5.free 11
  have cSS_5_12 : _ = some (Value.bool false) := SS_5.cell 12
  have fSS_5_12 := SS_5.free 12
  have cSS_5_13 : _ = some (Value.slice none 0 0) := SS_5.cell 13
  have fSS_5_13 := SS_5.free 13
  have cSS_5_14 : _ = some (Value.slice none 0 0) := SS_5.cell 14
  have fSS_5_14 := SS_5.free 14
  have cSS_5_15 : _ = some (Value.bool false) := SS_5.cell 15
  have fSS_5_15 := SS_5.free 15
  have cSS_5_16 : _ = some (Value.slice none 0 0) := SS_5.cell 16
  have fSS_5_16 := SS_5.free 16
  have cSS_5_17 : _ = some (Value.slice none 0 0) := SS_5.cell 17
  have fSS_5_17 := SS_5.free 17
  have cMM_5_0 : _ = some (Value.bool s1) := MM_5.cell 0
  have fMM_5_0 := MM_5.free 0
  have cMM_5_1 : _ = some (Value.slice a1 p1 c1) := MM_5.cell 1
  have fMM_5_1 := MM_5.free 1
  have cMM_5_2 : _ = some (Value.slice b1 q1 d1) := MM_5.cell 2
  have fMM_5_2 := MM_5.free 2
  have cMM_5_3 : _ = some (Value.bool false) := MM_5.cell 3
  have fMM_5_3 := MM_5.free 3
  have cMM_5_4 : _ = some (Value.slice none 0 0) := MM_5.cell 4
  have fMM_5_4 := MM_5.free 4
  have cMM_5_5 : _ = some (Value.slice none 0 0) := MM_5.cell 5
  have fMM_5_5 := MM_5.free 5
  have cMM_5_6 : _ = some (Value.bool false) := MM_5.cell 6
  have fMM_5_6 := MM_5.free 6
  have cMM_5_7 : _ = some (Value.slice none 0 0) := MM_5.cell 7
  have fMM_5_7 := MM_5.free 7
  have cMM_5_8 : _ = some (Value.slice none 0 0) := MM_5.cell 8
  have fMM_5_8 := MM_5.free 8
  have hkp := ((Kp.refl (fun j => j = w1.heap.size + 1) (((((((w3.setCell ⟨w.heap.size, 0, none⟩ (Value.bool s1)).setCell ⟨w.heap.size, 1, none⟩ (Value.slice a1 p1 c1)).setCell ⟨w.heap.size, 2, none⟩ (Value.slice b1 q1 d1)).setCell ⟨w1.heap.size + 1, 0, none⟩ (Value.bool s1)).setCell ⟨w1.heap.size + 1, 1, none⟩ (Value.slice a1 p1 c1)).setCell ⟨w1.heap.size + 1, 2, none⟩ (Value.slice b1 q1 d1)))).setCell (ad := ⟨w1.heap.size + 1, 0, none⟩) rfl (Value.bool false))
  have MM_6 := (show Blk ((((((((w3.setCell ⟨w.heap.size, 0, none⟩ (Value.bool s1)).setCell ⟨w.heap.size, 1, none⟩ (Value.slice a1 p1 c1)).setCell ⟨w.heap.size, 2, none⟩ (Value.slice b1 q1 d1)).setCell ⟨w1.heap.size + 1, 0, none⟩ (Value.bool s1)).setCell ⟨w1.heap.size + 1, 1, none⟩ (Value.slice a1 p1 c1)).setCell ⟨w1.heap.size + 1, 2, none⟩ (Value.slice b1 q1 d1)).setCell ⟨w1.heap.size + 1, 0, none⟩ (Value.bool false))) _ #[Value.bool false, Value.slice a1 p1 c1, Value.slice b1 q1 d1, Value.bool false, Value.slice none 0 0, Value.slice none 0 0, Value.bool false, Value.slice none 0 0, Value.slice none 0 0] from (MM_5).setCell (i := 0) (v := Value.bool false) (by simp))
  have X_6 := X_5.kp hkp (by show ¬ (w.heap.size = w1.heap.size + 1); omega)
  have Y_6 := Y_5.kp hkp (by show ¬ (w.heap.size + 1 = w1.heap.size + 1); omega)
  have Z_6 := Z_5.kp hkp (by show ¬ (w.heap.size + 1 + 1 = w1.heap.size + 1); omega)
  have SS_6 := SS_5.kp hkp (by show ¬ (w1.heap.size = w1.heap.size + 1); omega)
  have A1_6 := HA1.out.kp_old hlA1 A1_5 hkp (fun b hb => by show ¬ (b = _); omega)
  have A2_6 := HA2.out.kp_old (Nat.le_refl _) A2_5 hkp (fun b hb => by show ¬ (b = _); omega)
  have A3_6 := HA3.out.kp_old (Nat.le_refl _) A3_5 hkp (fun b hb => by show ¬ (b = _); omega)
  have B1_6 := HB1.out.kp_old hlB1 B1_5 hkp (fun b hb => by show ¬ (b = _); omega)
  have B2_6 := HB2.out.kp_old (Nat.le_refl _) B2_5 hkp (fun b hb => by show ¬ (b = _); omega)
  have B3_6 := HB3.out.kp_old (Nat.le_refl _) B3_5 hkp (fun b hb => by show ¬ (b = _); omega)
  have hbel_6 := hbel_5.kp hkp hbel_5.size (fun j hj => by show ¬ (j = w1.heap.size + 1); omega)
  have hsz_6 := hkp.size
  clear hkp
  have cX_6_0 : _ = some (Value.bool s1) := X_6.cell 0
  have fX_6_0 := X_6.free 0
  have cX_6_1 : _ = some (Value.slice a1 p1 c1) := X_6.cell 1
  have fX_6_1 := X_6.free 1
  have cX_6_2 : _ = some (Value.slice b1 q1 d1) := X_6.cell 2
  have fX_6_2 := X_6.free 2
  have cX_6_3 : _ = some (Value.bool s2) := X_6.cell 3
  have fX_6_3 := X_6.free 3
  have cX_6_4 : _ = some (Value.slice a2 n2 c2) := X_6.cell 4
  have fX_6_4 := X_6.free 4
  have cX_6_5 : _ = some (Value.slice b2 m2 d2) := X_6.cell 5
  have fX_6_5 := X_6.free 5
  have cX_6_6 : _ = some (Value.bool s3) := X_6.cell 6
  have fX_6_6 := X_6.free 6
  have cX_6_7 : _ = some (Value.slice a3 n3 c3) := X_6.cell 7
  have fX_6_7 := X_6.free 7
  have cX_6_8 : _ = some (Value.slice b3 m3 d3) := X_6.cell 8
  have fX_6_8 := X_6.free 8
  have cY_6_0 : _ = some (Value.int .i64 u) := Y_6.cell 0
  have cY_6_1 : _ = some (Value.int .i64 v) := Y_6.cell 1
  have cY_6_2 : _ = some (Value.int .i64 z) := Y_6.cell 2
  have cZ_6_0 : _ = some (Value.bool p) := Z_6.cell 0
  have cZ_6_1 : _ = some (Value.bool q) := Z_6.cell 1
  have cZ_6_2 : _ = some (Value.bool r) := Z_6.cell 2
  have cSS_6_0 : _ = some (Value.bool false) := SS_6.cell 0
  have fSS_6_0 := SS_6.free 0
  have cSS_6_1 : _ = some (Value.slice none 0 0) := SS_6.cell 1
  have fSS_6_1 := SS_6.free 1
  have cSS_6_2 : _ = some (Value.slice none 0 0) := SS_6.cell 2
  have fSS_6_2 := SS_6.free 2
  have cSS_6_3 : _ = some (Value.bool false) := SS_6.cell 3
  have fSS_6_3 := SS_6.free 3
  have cSS_6_4 : _ = some (Value.slice none 0 0) := SS_6.cell 4
  have fSS_6_4 := SS_6.free 4
  have cSS_6_5 : _ = some (Value.slice none 0 0) := SS_6.cell 5
  have fSS_6_5 := SS_6.free 5
  have cSS_6_6 : _ = some (Value.bool false) := SS_6.cell 6
  have fSS_6_6 := SS_6.free 6
  have cSS_6_7 : _ = some (Value.slice none 0 0) := SS_6.cell 7
  have fSS_6_7 := SS_6.free 7
  have cSS_6_8 : _ = some (Value.slice none 0 0) := SS_6.cell 8
  have fSS_6_8 := SS_6.free 8
  have cSS_6_9 : _ = some (Value.bool false) := SS_6.cell 9
  have fSS_6_9 := SS_6.free 9
  have cSS_6_10 : _ = some (Value.slice none 0 0) := SS_6.cell 10
  have fSS_6_10 := SS_6.free 10
  have cSS_6_11 : _ = some (Value.slice none 0 0) := SS_6.cell 11
  have fSS_6_11 := SS_6.free 11
  have cSS_6_12 : _ = some (Value.bool false) := SS_6.cell 12
  have fSS_6_12 := SS_6.free 12
  have cSS_6_13 : _ = some (Value.slice none 0 0) := SS_6.cell 13
  have fSS_6_13 := SS_6.free 13
  have cSS_6_14 : _ = some (Value.slice none 0 0) := SS_6.cell 14
  have fSS_6_14 := SS_6.free 14
  have cSS_6_15 : _ = some (Value.bool false) := SS_6.cell 15
  have fSS_6_15 := SS_6.free 15
  have cSS_6_16 : _ = some (Value.slice none 0 0) := SS_6.cell 16
  have fSS_6_16 := SS_6.free 16
  have cSS_6_17 : _ = some (Value.slice none 0 0) := SS_6.cell 17
  have fSS_6_17 := SS_6.free 17
  have cMM_6_0 : _ = some (Value.bool false) := MM_6.cell 0
  have fMM_6_0 := MM_6.free 0
  have cMM_6_1 : _ = some (Value.slice a1 p1 c1) := MM_6.cell 1
  have fMM_6_1 := MM_6.free 1
  have cMM_6_2 : _ = some (Value.slice b1 q1 d1) := MM_6.cell 2
  have fMM_6_2 := MM_6.free 2
  have cMM_6_3 : _ = some (Value.bool false) := MM_6.cell 3
  have fMM_6_3 := MM_6.free 3
  have cMM_6_4 : _ = some (Value.slice none 0 0) := MM_6.cell 4
  have fMM_6_4 := MM_6.free 4
  have cMM_6_5 : _ = some (Value.slice none 0 0) := MM_6.cell 5
  have fMM_6_5 := MM_6.free 5
  have cMM_6_6 : _ = some (Value.bool false) := MM_6.cell 6
  have fMM_6_6 := MM_6.free 6
  have cMM_6_7 : _ = some (Value.slice none 0 0) := MM_6.cell 7
  have fMM_6_7 := MM_6.free 7
  have cMM_6_8 : _ = some (Value.slice none 0 0) := MM_6.cell 8
  have fMM_6_8 := MM_6.free 8
  go_wp2_with fail
  clear X_3 Y_3 Z_3 SS_3 MM_3 cX_3_0 fX_3_0 cX_3_1 fX_3_1 cX_3_2 fX_3_2 cX_3_3 fX_3_3 cX_3_4 fX_3_4 cX_3_5 fX_3_5 cX_3_6 fX_3_6 cX_3_7 fX_3_7 cX_3_8 fX_3_8 cY_3_0 cY_3_1 cY_3_2 cZ_3_0 cZ_3_1 cZ_3_2 cSS_3_0 fSS_3_0 cSS_3_1 fSS_3_1 cSS_3_2 fSS_3_2 cSS_3_3 fSS_3_3 cSS_3_4 fSS_3_4 cSS_3_5 fSS_3_5 cSS_3_6 fSS_3_6 cSS_3_7 fSS_3_7 cSS_3_8 fSS_3_8 cSS_3_9 fSS_3_9 cSS_3_10 fSS_3_10 cSS_3_11 fSS_3_11 cSS_3_12 fSS_3_12 cSS_3_13 fSS_3_13 cSS_3_14 fSS_3_14 cSS_3_15 fSS_3_15 cSS_3_16 fSS_3_16 cSS_3_17 fSS_3_17 cMM_3_0 fMM_3_0 cMM_3_1 fMM_3_1 cMM_3_2 fMM_3_2 cMM_3_3 fMM_3_3 cMM_3_4 fMM_3_4 cMM_3_5 fMM_3_5 cMM_3_6 fMM_3_6 cMM_3_7 fMM_3_7 cMM_3_8 fMM_3_8 A1_3 A2_3 A3_3 B1_3 B2_3 B3_3 hbel_3 X_4 Y_4 Z_4 SS_4 MM_4 cX_4_0 fX_4_0 cX_4_1 fX_4_1 cX_4_2 fX_4_2 cX_4_3 fX_4_3 cX_4_4 fX_4_4 cX_4_5 fX_4_5 cX_4_6 fX_4_6 cX_4_7 fX_4_7 cX_4_8 fX_4_8 cY_4_0 cY_4_1 cY_4_2 cZ_4_0 cZ_4_1 cZ_4_2 cSS_4_0 fSS_4_0 cSS_4_1 fSS_4_1 cSS_4_2 fSS_4_2 cSS_4_3 fSS_4_3 cSS_4_4 fSS_4_4 cSS_4_5 fSS_4_5 cSS_4_6 fSS_4_6 cSS_4_7 fSS_4_7 cSS_4_8 fSS_4_8 cSS_4_9 fSS_4_9 cSS_4_10 fSS_4_10 cSS_4_11 fSS_4_11 cSS_4_12 fSS_4_12 cSS_4_13 fSS_4_13 cSS_4_14 fSS_4_14 cSS_4_15 fSS_4_15 cSS_4_16 fSS_4_16 cSS_4_17 fSS_4_17 cMM_4_0 fMM_4_0 cMM_4_1 fMM_4_1 cMM_4_2 fMM_4_2 cMM_4_3 fMM_4_3 cMM_4_4 fMM_4_4 cMM_4_5 fMM_4_5 cMM_4_6 fMM_4_6 cMM_4_7 fMM_4_7 cMM_4_8 fMM_4_8 A1_4 A2_4 A3_4 B1_4 B2_4 B3_4 hbel_4 X_5 Y_5 Z_5 SS_5 MM_5 cX_5_0 fX_5_0 cX_5_1 fX_5_1 cX_5_2 fX_5_2 cX_5_3 fX_5_3 cX_5_4 fX_5_4 cX_5_5 fX_5_5 cX_5_6 fX_5_6 cX_5_7 fX_5_7 cX_5_8 fX_5_8 cY_5_0 cY_5_1 cY_5_2 cZ_5_0 cZ_5_1 cZ_5_2 cSS_5_0 fSS_5_0 cSS_5_1 fSS_5_1 cSS_5_2 fSS_5_2 cSS_5_3 fSS_5_3 cSS_5_4 fSS_5_4 cSS_5_5 fSS_5_5 cSS_5_6 fSS_5_6 cSS_5_7 fSS_5_7 cSS_5_8 fSS_5_8 cSS_5_9 fSS_5_9 cSS_5_10 fSS_5_10 cSS_5_11 fSS_5_11 cSS_5_12 fSS_5_12 cSS_5_13 fSS_5_13 cSS_5_14 fSS_5_14 cSS_5_15 fSS_5_15 cSS_5_16 fSS_5_16 cSS_5_17 fSS_5_17 cMM_5_0 fMM_5_0 cMM_5_1 fMM_5_1 cMM_5_2 fMM_5_2 cMM_5_3 fMM_5_3 cMM_5_4 fMM_5_4 cMM_5_5 fMM_5_5 cMM_5_6 fMM_5_6 cMM_5_7 fMM_5_7 cMM_5_8 fMM_5_8 A1_5 A2_5 A3_5 B1_5 B2_5 B3_5 hbel_5
  generalize (((((((w3.setCell ⟨w.heap.size, 0, none⟩ (Value.bool s1)).setCell ⟨w.heap.size, 1, none⟩ (Value.slice a1 p1 c1)).setCell ⟨w.heap.size, 2, none⟩ (Value.slice b1 q1 d1)).setCell ⟨w1.heap.size + 1, 0, none⟩ (Value.bool s1)).setCell ⟨w1.heap.size + 1, 1, none⟩ (Value.slice a1 p1 c1)).setCell ⟨w1.heap.size + 1, 2, none⟩ (Value.slice b1 q1 d1)).setCell ⟨w1.heap.size + 1, 0, none⟩ (Value.bool false)) = v6 at *
  rw [rounds_succ]
  go_wp2_with fail
  refine (fcut 6 (by omega) A2_6 B2_6).mono ?_
  rintro e w7 ⟨p2, l2, q2, k2, rfl, hp2, hq2, hlA2, hlB2, hR, hR', hB⟩
  have hB_7 : Below v6.heap.size v6 w7 := (bl.next hB)
  have X_7 := X_6.next hB_7
  have cX_7_0 : _ = some (Value.bool s1) := X_7.cell 0
  have fX_7_0 := X_7.free 0
  have cX_7_1 : _ = some (Value.slice a1 p1 c1) := X_7.cell 1
  have fX_7_1 := X_7.free 1
  have cX_7_2 : _ = some (Value.slice b1 q1 d1) := X_7.cell 2
  have fX_7_2 := X_7.free 2
  have cX_7_3 : _ = some (Value.bool s2) := X_7.cell 3
  have fX_7_3 := X_7.free 3
  have cX_7_4 : _ = some (Value.slice a2 n2 c2) := X_7.cell 4
  have fX_7_4 := X_7.free 4
  have cX_7_5 : _ = some (Value.slice b2 m2 d2) := X_7.cell 5
  have fX_7_5 := X_7.free 5
  have cX_7_6 : _ = some (Value.bool s3) := X_7.cell 6
  have fX_7_6 := X_7.free 6
  have cX_7_7 : _ = some (Value.slice a3 n3 c3) := X_7.cell 7
  have fX_7_7 := X_7.free 7
  have cX_7_8 : _ = some (Value.slice b3 m3 d3) := X_7.cell 8
  have fX_7_8 := X_7.free 8
  have Y_7 := Y_6.next hB_7
  have cY_7_0 : _ = some (Value.int .i64 u) := Y_7.cell 0
  have cY_7_1 : _ = some (Value.int .i64 v) := Y_7.cell 1
  have cY_7_2 : _ = some (Value.int .i64 z) := Y_7.cell 2
  have Z_7 := Z_6.next hB_7
  have cZ_7_0 : _ = some (Value.bool p) := Z_7.cell 0
  have cZ_7_1 : _ = some (Value.bool q) := Z_7.cell 1
  have cZ_7_2 : _ = some (Value.bool r) := Z_7.cell 2
  have SS_7 := SS_6.next hB_7
  have cSS_7_0 : _ = some (Value.bool false) := SS_7.cell 0
  have fSS_7_0 := SS_7.free 0
  have cSS_7_1 : _ = some (Value.slice none 0 0) := SS_7.cell 1
  have fSS_7_1 := SS_7.free 1
  have cSS_7_2 : _ = some (Value.slice none 0 0) := SS_7.cell 2
  have fSS_7_2 := SS_7.free 2
  have cSS_7_3 : _ = some (Value.bool false) := SS_7.cell 3
  have fSS_7_3 := SS_7.free 3
  have cSS_7_4 : _ = some (Value.slice none 0 0) := SS_7.cell 4
  have fSS_7_4 := SS_7.free 4
  have cSS_7_5 : _ = some (Value.slice none 0 0) := SS_7.cell 5
  have fSS_7_5 := SS_7.free 5
  have cSS_7_6 : _ = some (Value.bool false) := SS_7.cell 6
  have fSS_7_6 := SS_7.free 6
  have cSS_7_7 : _ = some (Value.slice none 0 0) := SS_7.cell 7
  have fSS_7_7 := SS_7.free 7
  have cSS_7_8 : _ = some (Value.slice none 0 0) := SS_7.cell 8
  have fSS_7_8 := SS_7.free 8
  have cSS_7_9 : _ = some (Value.bool false) := SS_7.cell 9
  have fSS_7_9 := SS_7.free 9
  have cSS_7_10 : _ = some (Value.slice none 0 0) := SS_7.cell 10
  have fSS_7_10 := SS_7.free 10
  have cSS_7_11 : _ = some (Value.slice none 0 0) := SS_7.cell 11
  have fSS_7_11 := SS_7.free 11
  have cSS_7_12 : _ = some (Value.bool false) := SS_7.cell 12
  have fSS_7_12 := SS_7.free 12
  have cSS_7_13 : _ = some (Value.slice none 0 0) := SS_7.cell 13
  have fSS_7_13 := SS_7.free 13
  have cSS_7_14 : _ = some (Value.slice none 0 0) := SS_7.cell 14
  have fSS_7_14 := SS_7.free 14
  have cSS_7_15 : _ = some (Value.bool false) := SS_7.cell 15
  have fSS_7_15 := SS_7.free 15
  have cSS_7_16 : _ = some (Value.slice none 0 0) := SS_7.cell 16
  have fSS_7_16 := SS_7.free 16
  have cSS_7_17 : _ = some (Value.slice none 0 0) := SS_7.cell 17
  have fSS_7_17 := SS_7.free 17
  have MM_7 := MM_6.next hB_7
  have cMM_7_0 : _ = some (Value.bool false) := MM_7.cell 0
  have fMM_7_0 := MM_7.free 0
  have cMM_7_1 : _ = some (Value.slice a1 p1 c1) := MM_7.cell 1
  have fMM_7_1 := MM_7.free 1
  have cMM_7_2 : _ = some (Value.slice b1 q1 d1) := MM_7.cell 2
  have fMM_7_2 := MM_7.free 2
  have cMM_7_3 : _ = some (Value.bool false) := MM_7.cell 3
  have fMM_7_3 := MM_7.free 3
  have cMM_7_4 : _ = some (Value.slice none 0 0) := MM_7.cell 4
  have fMM_7_4 := MM_7.free 4
  have cMM_7_5 : _ = some (Value.slice none 0 0) := MM_7.cell 5
  have fMM_7_5 := MM_7.free 5
  have cMM_7_6 : _ = some (Value.bool false) := MM_7.cell 6
  have fMM_7_6 := MM_7.free 6
  have cMM_7_7 : _ = some (Value.slice none 0 0) := MM_7.cell 7
  have fMM_7_7 := MM_7.free 7
  have cMM_7_8 : _ = some (Value.slice none 0 0) := MM_7.cell 8
  have fMM_7_8 := MM_7.free 8
  have A1_7 := A1_6.below hB_7
  have A2_7 := A2_6.below hB_7
  have A3_7 := A3_6.below hB_7
  have B1_7 := B1_6.below hB_7
  have B2_7 := B2_6.below hB_7
  have B3_7 := B3_6.below hB_7
  have hbel_7 := hbel_6.next hB_7
  have hsz_7 := hB_7.size
  clear X_6 cX_6_0 fX_6_0 cX_6_1 fX_6_1 cX_6_2 fX_6_2 cX_6_3 fX_6_3 cX_6_4 fX_6_4 cX_6_5 fX_6_5 cX_6_6 fX_6_6 cX_6_7 fX_6_7 cX_6_8 fX_6_8 Y_6 cY_6_0 cY_6_1 cY_6_2 Z_6 cZ_6_0 cZ_6_1 cZ_6_2 SS_6 cSS_6_0 fSS_6_0 cSS_6_1 fSS_6_1 cSS_6_2 fSS_6_2 cSS_6_3 fSS_6_3 cSS_6_4 fSS_6_4 cSS_6_5 fSS_6_5 cSS_6_6 fSS_6_6 cSS_6_7 fSS_6_7 cSS_6_8 fSS_6_8 cSS_6_9 fSS_6_9 cSS_6_10 fSS_6_10 cSS_6_11 fSS_6_11 cSS_6_12 fSS_6_12 cSS_6_13 fSS_6_13 cSS_6_14 fSS_6_14 cSS_6_15 fSS_6_15 cSS_6_16 fSS_6_16 cSS_6_17 fSS_6_17 MM_6 cMM_6_0 fMM_6_0 cMM_6_1 fMM_6_1 cMM_6_2 fMM_6_2 cMM_6_3 fMM_6_3 cMM_6_4 fMM_6_4 cMM_6_5 fMM_6_5 cMM_6_6 fMM_6_6 cMM_6_7 fMM_6_7 cMM_6_8 fMM_6_8 A1_6 A2_6 A3_6 B1_6 B2_6 B3_6 hbel_6 hB_7
  have A2_7 := hR
  have B2_7 := hR'
  clear hR hR'
  try clear hB
  have hkp := ((((Kp.refl (fun j => j = w.heap.size) (w7)).setCell (ad := ⟨w.heap.size, 3, none⟩) rfl (Value.bool s2)).setCell (ad := ⟨w.heap.size, 4, none⟩) rfl (Value.slice a2 p2 c2)).setCell (ad := ⟨w.heap.size, 5, none⟩) rfl (Value.slice b2 q2 d2))
  have X_8 := (show Blk ((((w7.setCell ⟨w.heap.size, 3, none⟩ (Value.bool s2)).setCell ⟨w.heap.size, 4, none⟩ (Value.slice a2 p2 c2)).setCell ⟨w.heap.size, 5, none⟩ (Value.slice b2 q2 d2))) _ #[Value.bool s1, Value.slice a1 p1 c1, Value.slice b1 q1 d1, Value.bool s2, Value.slice a2 p2 c2, Value.slice b2 q2 d2, Value.bool s3, Value.slice a3 n3 c3, Value.slice b3 m3 d3] from (((X_7).setCell (i := 3) (v := Value.bool s2) (by simp)).setCell (i := 4) (v := Value.slice a2 p2 c2) (by simp)).setCell (i := 5) (v := Value.slice b2 q2 d2) (by simp))
  have Y_8 := Y_7.kp hkp (by show ¬ (w.heap.size + 1 = w.heap.size); omega)
  have Z_8 := Z_7.kp hkp (by show ¬ (w.heap.size + 1 + 1 = w.heap.size); omega)
  have SS_8 := SS_7.kp hkp (by show ¬ (w1.heap.size = w.heap.size); omega)
  have MM_8 := MM_7.kp hkp (by show ¬ (w1.heap.size + 1 = w.heap.size); omega)
  have A1_8 := HA1.out.kp_old hlA1 A1_7 hkp (fun b hb => by show ¬ (b = _); omega)
  have A2_8 := HA2.out.kp_old hlA2 A2_7 hkp (fun b hb => by show ¬ (b = _); omega)
  have A3_8 := HA3.out.kp_old (Nat.le_refl _) A3_7 hkp (fun b hb => by show ¬ (b = _); omega)
  have B1_8 := HB1.out.kp_old hlB1 B1_7 hkp (fun b hb => by show ¬ (b = _); omega)
  have B2_8 := HB2.out.kp_old hlB2 B2_7 hkp (fun b hb => by show ¬ (b = _); omega)
  have B3_8 := HB3.out.kp_old (Nat.le_refl _) B3_7 hkp (fun b hb => by show ¬ (b = _); omega)
  have hbel_8 := hbel_7.kp hkp hbel_7.size (fun j hj => by show ¬ (j = w.heap.size); omega)
  have hsz_8 := hkp.size
  clear hkp
  have cX_8_0 : _ = some (Value.bool s1) := X_8.cell 0
  have fX_8_0 := X_8.free 0
  have cX_8_1 : _ = some (Value.slice a1 p1 c1) := X_8.cell 1
  have fX_8_1 := X_8.free 1
  have cX_8_2 : _ = some (Value.slice b1 q1 d1) := X_8.cell 2
  have fX_8_2 := X_8.free 2
  have cX_8_3 : _ = some (Value.bool s2) := X_8.cell 3
  have fX_8_3 := X_8.free 3
  have cX_8_4 : _ = some (Value.slice a2 p2 c2) := X_8.cell 4
  have fX_8_4 := X_8.free 4
  have cX_8_5 : _ = some (Value.slice b2 q2 d2) := X_8.cell 5
  have fX_8_5 := X_8.free 5
  have cX_8_6 : _ = some (Value.bool s3) := X_8.cell 6
  have fX_8_6 := X_8.free 6
  have cX_8_7 : _ = some (Value.slice a3 n3 c3) := X_8.cell 7
  have fX_8_7 := X_8.free 7
  have cX_8_8 : _ = some (Value.slice b3 m3 d3) := X_8.cell 8
  have fX_8_8 := X_8.free 8
  have cY_8_0 : _ = some (Value.int .i64 u) := Y_8.cell 0
  have cY_8_1 : _ = some (Value.int .i64 v) := Y_8.cell 1
  have cY_8_2 : _ = some (Value.int .i64 z) := Y_8.cell 2
  have cZ_8_0 : _ = some (Value.bool p) := Z_8.cell 0
  have cZ_8_1 : _ = some (Value.bool q) := Z_8.cell 1
  have cZ_8_2 : _ = some (Value.bool r) := Z_8.cell 2
  have cSS_8_0 : _ = some (Value.bool false) := SS_8.cell 0
  have fSS_8_0 := SS_8.free 0
  have cSS_8_1 : _ = some (Value.slice none 0 0) := SS_8.cell 1
  have fSS_8_1 := SS_8.free 1
  have cSS_8_2 : _ = some (Value.slice none 0 0) := SS_8.cell 2
  have fSS_8_2 := SS_8.free 2
  have cSS_8_3 : _ = some (Value.bool false) := SS_8.cell 3
  have fSS_8_3 := SS_8.free 3
  have cSS_8_4 : _ = some (Value.slice none 0 0) := SS_8.cell 4
  have fSS_8_4 := SS_8.free 4
  have cSS_8_5 : _ = some (Value.slice none 0 0) := SS_8.cell 5
  have fSS_8_5 := SS_8.free 5
  have cSS_8_6 : _ = some (Value.bool false) := SS_8.cell 6
  have fSS_8_6 := SS_8.free 6
  have cSS_8_7 : _ = some (Value.slice none 0 0) := SS_8.cell 7
  have fSS_8_7 := SS_8.free 7
  have cSS_8_8 : _ = some (Value.slice none 0 0) := SS_8.cell 8
  have fSS_8_8 := SS_8.free 8
  have cSS_8_9 : _ = some (Value.bool false) := SS_8.cell 9
  have fSS_8_9 := SS_8.free 9
  have cSS_8_10 : _ = some (Value.slice none 0 0) := SS_8.cell 10
  have fSS_8_10 := SS_8.free 10
  have cSS_8_11 : _ = some (Value.slice none 0 0) := SS_8.cell 11
  have fSS_8_11 := SS_8.free 11
  have cSS_8_12 : _ = some (Value.bool false) := SS_8.cell 12
  have fSS_8_12 := SS_8.free 12
  have cSS_8_13 : _ = some (Value.slice none 0 0) := SS_8.cell 13
  have fSS_8_13 := SS_8.free 13
  have cSS_8_14 : _ = some (Value.slice none 0 0) := SS_8.cell 14
  have fSS_8_14 := SS_8.free 14
  have cSS_8_15 : _ = some (Value.bool false) := SS_8.cell 15
  have fSS_8_15 := SS_8.free 15
  have cSS_8_16 : _ = some (Value.slice none 0 0) := SS_8.cell 16
  have fSS_8_16 := SS_8.free 16
  have cSS_8_17 : _ = some (Value.slice none 0 0) := SS_8.cell 17
  have fSS_8_17 := SS_8.free 17
  have cMM_8_0 : _ = some (Value.bool false) := MM_8.cell 0
  have fMM_8_0 := MM_8.free 0
  have cMM_8_1 : _ = some (Value.slice a1 p1 c1) := MM_8.cell 1
  have fMM_8_1 := MM_8.free 1
  have cMM_8_2 : _ = some (Value.slice b1 q1 d1) := MM_8.cell 2
  have fMM_8_2 := MM_8.free 2
  have cMM_8_3 : _ = some (Value.bool false) := MM_8.cell 3
  have fMM_8_3 := MM_8.free 3
  have cMM_8_4 : _ = some (Value.slice none 0 0) := MM_8.cell 4
  have fMM_8_4 := MM_8.free 4
  have cMM_8_5 : _ = some (Value.slice none 0 0) := MM_8.cell 5
  have fMM_8_5 := MM_8.free 5
  have cMM_8_6 : _ = some (Value.bool false) := MM_8.cell 6
  have fMM_8_6 := MM_8.free 6
  have cMM_8_7 : _ = some (Value.slice none 0 0) := MM_8.cell 7
  have fMM_8_7 := MM_8.free 7
  have cMM_8_8 : _ = some (Value.slice none 0 0) := MM_8.cell 8
  have fMM_8_8 := MM_8.free 8
  have hkp := ((((Kp.refl (fun j => j = w1.heap.size + 1) ((((w7.setCell ⟨w.heap.size, 3, none⟩ (Value.bool s2)).setCell ⟨w.heap.size, 4, none⟩ (Value.slice a2 p2 c2)).setCell ⟨w.heap.size, 5, none⟩ (Value.slice b2 q2 d2)))).setCell (ad := ⟨w1.heap.size + 1, 3, none⟩) rfl (Value.bool s2)).setCell (ad := ⟨w1.heap.size + 1, 4, none⟩) rfl (Value.slice a2 p2 c2)).setCell (ad := ⟨w1.heap.size + 1, 5, none⟩) rfl (Value.slice b2 q2 d2))
  have MM_9 := (show Blk (((((((w7.setCell ⟨w.heap.size, 3, none⟩ (Value.bool s2)).setCell ⟨w.heap.size, 4, none⟩ (Value.slice a2 p2 c2)).setCell ⟨w.heap.size, 5, none⟩ (Value.slice b2 q2 d2)).setCell ⟨w1.heap.size + 1, 3, none⟩ (Value.bool s2)).setCell ⟨w1.heap.size + 1, 4, none⟩ (Value.slice a2 p2 c2)).setCell ⟨w1.heap.size + 1, 5, none⟩ (Value.slice b2 q2 d2))) _ #[Value.bool false, Value.slice a1 p1 c1, Value.slice b1 q1 d1, Value.bool s2, Value.slice a2 p2 c2, Value.slice b2 q2 d2, Value.bool false, Value.slice none 0 0, Value.slice none 0 0] from (((MM_8).setCell (i := 3) (v := Value.bool s2) (by simp)).setCell (i := 4) (v := Value.slice a2 p2 c2) (by simp)).setCell (i := 5) (v := Value.slice b2 q2 d2) (by simp))
  have X_9 := X_8.kp hkp (by show ¬ (w.heap.size = w1.heap.size + 1); omega)
  have Y_9 := Y_8.kp hkp (by show ¬ (w.heap.size + 1 = w1.heap.size + 1); omega)
  have Z_9 := Z_8.kp hkp (by show ¬ (w.heap.size + 1 + 1 = w1.heap.size + 1); omega)
  have SS_9 := SS_8.kp hkp (by show ¬ (w1.heap.size = w1.heap.size + 1); omega)
  have A1_9 := HA1.out.kp_old hlA1 A1_8 hkp (fun b hb => by show ¬ (b = _); omega)
  have A2_9 := HA2.out.kp_old hlA2 A2_8 hkp (fun b hb => by show ¬ (b = _); omega)
  have A3_9 := HA3.out.kp_old (Nat.le_refl _) A3_8 hkp (fun b hb => by show ¬ (b = _); omega)
  have B1_9 := HB1.out.kp_old hlB1 B1_8 hkp (fun b hb => by show ¬ (b = _); omega)
  have B2_9 := HB2.out.kp_old hlB2 B2_8 hkp (fun b hb => by show ¬ (b = _); omega)
  have B3_9 := HB3.out.kp_old (Nat.le_refl _) B3_8 hkp (fun b hb => by show ¬ (b = _); omega)
  have hbel_9 := hbel_8.kp hkp hbel_8.size (fun j hj => by show ¬ (j = w1.heap.size + 1); omega)
  have hsz_9 := hkp.size
  clear hkp
  have cX_9_0 : _ = some (Value.bool s1) := X_9.cell 0
  have fX_9_0 := X_9.free 0
  have cX_9_1 : _ = some (Value.slice a1 p1 c1) := X_9.cell 1
  have fX_9_1 := X_9.free 1
  have cX_9_2 : _ = some (Value.slice b1 q1 d1) := X_9.cell 2
  have fX_9_2 := X_9.free 2
  have cX_9_3 : _ = some (Value.bool s2) := X_9.cell 3
  have fX_9_3 := X_9.free 3
  have cX_9_4 : _ = some (Value.slice a2 p2 c2) := X_9.cell 4
  have fX_9_4 := X_9.free 4
  have cX_9_5 : _ = some (Value.slice b2 q2 d2) := X_9.cell 5
  have fX_9_5 := X_9.free 5
  have cX_9_6 : _ = some (Value.bool s3) := X_9.cell 6
  have fX_9_6 := X_9.free 6
  have cX_9_7 : _ = some (Value.slice a3 n3 c3) := X_9.cell 7
  have fX_9_7 := X_9.free 7
  have cX_9_8 : _ = some (Value.slice b3 m3 d3) := X_9.cell 8
  have fX_9_8 := X_9.free 8
  have cY_9_0 : _ = some (Value.int .i64 u) := Y_9.cell 0
  have cY_9_1 : _ = some (Value.int .i64 v) := Y_9.cell 1
  have cY_9_2 : _ = some (Value.int .i64 z) := Y_9.cell 2
  have cZ_9_0 : _ = some (Value.bool p) := Z_9.cell 0
  have cZ_9_1 : _ = some (Value.bool q) := Z_9.cell 1
  have cZ_9_2 : _ = some (Value.bool r) := Z_9.cell 2
  have cSS_9_0 : _ = some (Value.bool false) := SS_9.cell 0
  have fSS_9_0 := SS_9.free 0
  have cSS_9_1 : _ = some (Value.slice none 0 0) := SS_9.cell 1
  have fSS_9_1 := SS_9.free 1
  have cSS_9_2 : _ = some (Value.slice none 0 0) := SS_9.cell 2
  have fSS_9_2 := SS_9.free 2
  have cSS_9_3 : _ = some (Value.bool false) := SS_9.cell 3
  have fSS_9_3 := SS_9.free 3
  have cSS_9_4 : _ = some (Value.slice none 0 0) := SS_9.cell 4
  have fSS_9_4 := SS_9.free 4
  have cSS_9_5 : _ = some (Value.slice none 0 0) := SS_9.cell 5
  have fSS_9_5 := SS_9.free 5
  have cSS_9_6 : _ = some (Value.bool false) := SS_9.cell 6
  have fSS_9_6 := SS_9.free 6
  have cSS_9_7 : _ = some (Value.slice none 0 0) := SS_9.cell 7
  have fSS_9_7 := SS_9.free 7
  have cSS_9_8 : _ = some (Value.slice none 0 0) := SS_9.cell 8
  have fSS_9_8 := SS_9.free 8
  have cSS_9_9 : _ = some (Value.bool false) := SS_9.cell 9
  have fSS_9_9 := SS_9.free 9
  have cSS_9_10 : _ = some (Value.slice none 0 0) := SS_9.cell 10
  have fSS_9_10 := SS_9.free 10
  have cSS_9_11 : _ = some (Value.slice none 0 0) := SS_9.cell 11
  have fSS_9_11 := SS_9.free 11
  have cSS_9_12 : _ = some (Value.bool false) := SS_9.cell 12
  have fSS_9_12 := SS_9.free 12
  have cSS_9_13 : _ = some (Value.slice none 0 0) := SS_9.cell 13
  have fSS_9_13 := SS_9.free 13
  have cSS_9_14 : _ = some (Value.slice none 0 0) := SS_9.cell 14
  have fSS_9_14 := SS_9.free 14
  have cSS_9_15 : _ = some (Value.bool false) := SS_9.cell 15
  have fSS_9_15 := SS_9.free 15
  have cSS_9_16 : _ = some (Value.slice none 0 0) := SS_9.cell 16
  have fSS_9_16 := SS_9.free 16
  have cSS_9_17 : _ = some (Value.slice none 0 0) := SS_9.cell 17
  have fSS_9_17 := SS_9.free 17
  have cMM_9_0 : _ = some (Value.bool false) := MM_9.cell 0
  have fMM_9_0 := MM_9.free 0
  have cMM_9_1 : _ = some (Value.slice a1 p1 c1) := MM_9.cell 1
  have fMM_9_1 := MM_9.free 1
  have cMM_9_2 : _ = some (Value.slice b1 q1 d1) := MM_9.cell 2
  have fMM_9_2 := MM_9.free 2
  have cMM_9_3 : _ = some (Value.bool s2) := MM_9.cell 3
  have fMM_9_3 := MM_9.free 3
  have cMM_9_4 : _ = some (Value.slice a2 p2 c2) := MM_9.cell 4
  have fMM_9_4 := MM_9.free 4
  have cMM_9_5 : _ = some (Value.slice b2 q2 d2) := MM_9.cell 5
  have fMM_9_5 := MM_9.free 5
  have cMM_9_6 : _ = some (Value.bool false) := MM_9.cell 6
  have fMM_9_6 := MM_9.free 6
  have cMM_9_7 : _ = some (Value.slice none 0 0) := MM_9.cell 7
  have fMM_9_7 := MM_9.free 7
  have cMM_9_8 : _ = some (Value.slice none 0 0) := MM_9.cell 8
  have fMM_9_8 := MM_9.free 8
  have hkp := ((Kp.refl (fun j => j = w1.heap.size + 1) (((((((w7.setCell ⟨w.heap.size, 3, none⟩ (Value.bool s2)).setCell ⟨w.heap.size, 4, none⟩ (Value.slice a2 p2 c2)).setCell ⟨w.heap.size, 5, none⟩ (Value.slice b2 q2 d2)).setCell ⟨w1.heap.size + 1, 3, none⟩ (Value.bool s2)).setCell ⟨w1.heap.size + 1, 4, none⟩ (Value.slice a2 p2 c2)).setCell ⟨w1.heap.size + 1, 5, none⟩ (Value.slice b2 q2 d2)))).setCell (ad := ⟨w1.heap.size + 1, 3, none⟩) rfl (Value.bool false))
  have MM_10 := (show Blk ((((((((w7.setCell ⟨w.heap.size, 3, none⟩ (Value.bool s2)).setCell ⟨w.heap.size, 4, none⟩ (Value.slice a2 p2 c2)).setCell ⟨w.heap.size, 5, none⟩ (Value.slice b2 q2 d2)).setCell ⟨w1.heap.size + 1, 3, none⟩ (Value.bool s2)).setCell ⟨w1.heap.size + 1, 4, none⟩ (Value.slice a2 p2 c2)).setCell ⟨w1.heap.size + 1, 5, none⟩ (Value.slice b2 q2 d2)).setCell ⟨w1.heap.size + 1, 3, none⟩ (Value.bool false))) _ #[Value.bool false, Value.slice a1 p1 c1, Value.slice b1 q1 d1, Value.bool false, Value.slice a2 p2 c2, Value.slice b2 q2 d2, Value.bool false, Value.slice none 0 0, Value.slice none 0 0] from (MM_9).setCell (i := 3) (v := Value.bool false) (by simp))
  have X_10 := X_9.kp hkp (by show ¬ (w.heap.size = w1.heap.size + 1); omega)
  have Y_10 := Y_9.kp hkp (by show ¬ (w.heap.size + 1 = w1.heap.size + 1); omega)
  have Z_10 := Z_9.kp hkp (by show ¬ (w.heap.size + 1 + 1 = w1.heap.size + 1); omega)
  have SS_10 := SS_9.kp hkp (by show ¬ (w1.heap.size = w1.heap.size + 1); omega)
  have A1_10 := HA1.out.kp_old hlA1 A1_9 hkp (fun b hb => by show ¬ (b = _); omega)
  have A2_10 := HA2.out.kp_old hlA2 A2_9 hkp (fun b hb => by show ¬ (b = _); omega)
  have A3_10 := HA3.out.kp_old (Nat.le_refl _) A3_9 hkp (fun b hb => by show ¬ (b = _); omega)
  have B1_10 := HB1.out.kp_old hlB1 B1_9 hkp (fun b hb => by show ¬ (b = _); omega)
  have B2_10 := HB2.out.kp_old hlB2 B2_9 hkp (fun b hb => by show ¬ (b = _); omega)
  have B3_10 := HB3.out.kp_old (Nat.le_refl _) B3_9 hkp (fun b hb => by show ¬ (b = _); omega)
  have hbel_10 := hbel_9.kp hkp hbel_9.size (fun j hj => by show ¬ (j = w1.heap.size + 1); omega)
  have hsz_10 := hkp.size
  clear hkp
  have cX_10_0 : _ = some (Value.bool s1) := X_10.cell 0
  have fX_10_0 := X_10.free 0
  have cX_10_1 : _ = some (Value.slice a1 p1 c1) := X_10.cell 1
  have fX_10_1 := X_10.free 1
  have cX_10_2 : _ = some (Value.slice b1 q1 d1) := X_10.cell 2
  have fX_10_2 := X_10.free 2
  have cX_10_3 : _ = some (Value.bool s2) := X_10.cell 3
  have fX_10_3 := X_10.free 3
  have cX_10_4 : _ = some (Value.slice a2 p2 c2) := X_10.cell 4
  have fX_10_4 := X_10.free 4
  have cX_10_5 : _ = some (Value.slice b2 q2 d2) := X_10.cell 5
  have fX_10_5 := X_10.free 5
  have cX_10_6 : _ = some (Value.bool s3) := X_10.cell 6
  have fX_10_6 := X_10.free 6
  have cX_10_7 : _ = some (Value.slice a3 n3 c3) := X_10.cell 7
  have fX_10_7 := X_10.free 7
  have cX_10_8 : _ = some (Value.slice b3 m3 d3) := X_10.cell 8
  have fX_10_8 := X_10.free 8
  have cY_10_0 : _ = some (Value.int .i64 u) := Y_10.cell 0
  have cY_10_1 : _ = some (Value.int .i64 v) := Y_10.cell 1
  have cY_10_2 : _ = some (Value.int .i64 z) := Y_10.cell 2
  have cZ_10_0 : _ = some (Value.bool p) := Z_10.cell 0
  have cZ_10_1 : _ = some (Value.bool q) := Z_10.cell 1
  have cZ_10_2 : _ = some (Value.bool r) := Z_10.cell 2
  have cSS_10_0 : _ = some (Value.bool false) := SS_10.cell 0
  have fSS_10_0 := SS_10.free 0
  have cSS_10_1 : _ = some (Value.slice none 0 0) := SS_10.cell 1
  have fSS_10_1 := SS_10.free 1
  have cSS_10_2 : _ = some (Value.slice none 0 0) := SS_10.cell 2
  have fSS_10_2 := SS_10.free 2
  have cSS_10_3 : _ = some (Value.bool false) := SS_10.cell 3
  have fSS_10_3 := SS_10.free 3
  have cSS_10_4 : _ = some (Value.slice none 0 0) := SS_10.cell 4
  have fSS_10_4 := SS_10.free 4
  have cSS_10_5 : _ = some (Value.slice none 0 0) := SS_10.cell 5
  have fSS_10_5 := SS_10.free 5
  have cSS_10_6 : _ = some (Value.bool false) := SS_10.cell 6
  have fSS_10_6 := SS_10.free 6
  have cSS_10_7 : _ = some (Value.slice none 0 0) := SS_10.cell 7
  have fSS_10_7 := SS_10.free 7
  have cSS_10_8 : _ = some (Value.slice none 0 0) := SS_10.cell 8
  have fSS_10_8 := SS_10.free 8
  have cSS_10_9 : _ = some (Value.bool false) := SS_10.cell 9
  have fSS_10_9 := SS_10.free 9
  have cSS_10_10 : _ = some (Value.slice none 0 0) := SS_10.cell 10
  have fSS_10_10 := SS_10.free 10
  have cSS_10_11 : _ = some (Value.slice none 0 0) := SS_10.cell 11
  have fSS_10_11 := SS_10.free 11
  have cSS_10_12 : _ = some (Value.bool false) := SS_10.cell 12
  have fSS_10_12 := SS_10.free 12
  have cSS_10_13 : _ = some (Value.slice none 0 0) := SS_10.cell 13
  have fSS_10_13 := SS_10.free 13
  have cSS_10_14 : _ = some (Value.slice none 0 0) := SS_10.cell 14
  have fSS_10_14 := SS_10.free 14
  have cSS_10_15 : _ = some (Value.bool false) := SS_10.cell 15
  have fSS_10_15 := SS_10.free 15
  have cSS_10_16 : _ = some (Value.slice none 0 0) := SS_10.cell 16
  have fSS_10_16 := SS_10.free 16
  have cSS_10_17 : _ = some (Value.slice none 0 0) := SS_10.cell 17
  have fSS_10_17 := SS_10.free 17
  have cMM_10_0 : _ = some (Value.bool false) := MM_10.cell 0
  have fMM_10_0 := MM_10.free 0
  have cMM_10_1 : _ = some (Value.slice a1 p1 c1) := MM_10.cell 1
  have fMM_10_1 := MM_10.free 1
  have cMM_10_2 : _ = some (Value.slice b1 q1 d1) := MM_10.cell 2
  have fMM_10_2 := MM_10.free 2
  have cMM_10_3 : _ = some (Value.bool false) := MM_10.cell 3
  have fMM_10_3 := MM_10.free 3
  have cMM_10_4 : _ = some (Value.slice a2 p2 c2) := MM_10.cell 4
  have fMM_10_4 := MM_10.free 4
  have cMM_10_5 : _ = some (Value.slice b2 q2 d2) := MM_10.cell 5
  have fMM_10_5 := MM_10.free 5
  have cMM_10_6 : _ = some (Value.bool false) := MM_10.cell 6
  have fMM_10_6 := MM_10.free 6
  have cMM_10_7 : _ = some (Value.slice none 0 0) := MM_10.cell 7
  have fMM_10_7 := MM_10.free 7
  have cMM_10_8 : _ = some (Value.slice none 0 0) := MM_10.cell 8
  have fMM_10_8 := MM_10.free 8
  go_wp2_with fail
  clear X_7 Y_7 Z_7 SS_7 MM_7 cX_7_0 fX_7_0 cX_7_1 fX_7_1 cX_7_2 fX_7_2 cX_7_3 fX_7_3 cX_7_4 fX_7_4 cX_7_5 fX_7_5 cX_7_6 fX_7_6 cX_7_7 fX_7_7 cX_7_8 fX_7_8 cY_7_0 cY_7_1 cY_7_2 cZ_7_0 cZ_7_1 cZ_7_2 cSS_7_0 fSS_7_0 cSS_7_1 fSS_7_1 cSS_7_2 fSS_7_2 cSS_7_3 fSS_7_3 cSS_7_4 fSS_7_4 cSS_7_5 fSS_7_5 cSS_7_6 fSS_7_6 cSS_7_7 fSS_7_7 cSS_7_8 fSS_7_8 cSS_7_9 fSS_7_9 cSS_7_10 fSS_7_10 cSS_7_11 fSS_7_11 cSS_7_12 fSS_7_12 cSS_7_13 fSS_7_13 cSS_7_14 fSS_7_14 cSS_7_15 fSS_7_15 cSS_7_16 fSS_7_16 cSS_7_17 fSS_7_17 cMM_7_0 fMM_7_0 cMM_7_1 fMM_7_1 cMM_7_2 fMM_7_2 cMM_7_3 fMM_7_3 cMM_7_4 fMM_7_4 cMM_7_5 fMM_7_5 cMM_7_6 fMM_7_6 cMM_7_7 fMM_7_7 cMM_7_8 fMM_7_8 A1_7 A2_7 A3_7 B1_7 B2_7 B3_7 hbel_7 X_8 Y_8 Z_8 SS_8 MM_8 cX_8_0 fX_8_0 cX_8_1 fX_8_1 cX_8_2 fX_8_2 cX_8_3 fX_8_3 cX_8_4 fX_8_4 cX_8_5 fX_8_5 cX_8_6 fX_8_6 cX_8_7 fX_8_7 cX_8_8 fX_8_8 cY_8_0 cY_8_1 cY_8_2 cZ_8_0 cZ_8_1 cZ_8_2 cSS_8_0 fSS_8_0 cSS_8_1 fSS_8_1 cSS_8_2 fSS_8_2 cSS_8_3 fSS_8_3 cSS_8_4 fSS_8_4 cSS_8_5 fSS_8_5 cSS_8_6 fSS_8_6 cSS_8_7 fSS_8_7 cSS_8_8 fSS_8_8 cSS_8_9 fSS_8_9 cSS_8_10 fSS_8_10 cSS_8_11 fSS_8_11 cSS_8_12 fSS_8_12 cSS_8_13 fSS_8_13 cSS_8_14 fSS_8_14 cSS_8_15 fSS_8_15 cSS_8_16 fSS_8_16 cSS_8_17 fSS_8_17 cMM_8_0 fMM_8_0 cMM_8_1 fMM_8_1 cMM_8_2 fMM_8_2 cMM_8_3 fMM_8_3 cMM_8_4 fMM_8_4 cMM_8_5 fMM_8_5 cMM_8_6 fMM_8_6 cMM_8_7 fMM_8_7 cMM_8_8 fMM_8_8 A1_8 A2_8 A3_8 B1_8 B2_8 B3_8 hbel_8 X_9 Y_9 Z_9 SS_9 MM_9 cX_9_0 fX_9_0 cX_9_1 fX_9_1 cX_9_2 fX_9_2 cX_9_3 fX_9_3 cX_9_4 fX_9_4 cX_9_5 fX_9_5 cX_9_6 fX_9_6 cX_9_7 fX_9_7 cX_9_8 fX_9_8 cY_9_0 cY_9_1 cY_9_2 cZ_9_0 cZ_9_1 cZ_9_2 cSS_9_0 fSS_9_0 cSS_9_1 fSS_9_1 cSS_9_2 fSS_9_2 cSS_9_3 fSS_9_3 cSS_9_4 fSS_9_4 cSS_9_5 fSS_9_5 cSS_9_6 fSS_9_6 cSS_9_7 fSS_9_7 cSS_9_8 fSS_9_8 cSS_9_9 fSS_9_9 cSS_9_10 fSS_9_10 cSS_9_11 fSS_9_11 cSS_9_12 fSS_9_12 cSS_9_13 fSS_9_13 cSS_9_14 fSS_9_14 cSS_9_15 fSS_9_15 cSS_9_16 fSS_9_16 cSS_9_17 fSS_9_17 cMM_9_0 fMM_9_0 cMM_9_1 fMM_9_1 cMM_9_2 fMM_9_2 cMM_9_3 fMM_9_3 cMM_9_4 fMM_9_4 cMM_9_5 fMM_9_5 cMM_9_6 fMM_9_6 cMM_9_7 fMM_9_7 cMM_9_8 fMM_9_8 A1_9 A2_9 A3_9 B1_9 B2_9 B3_9 hbel_9
  generalize (((((((w7.setCell ⟨w.heap.size, 3, none⟩ (Value.bool s2)).setCell ⟨w.heap.size, 4, none⟩ (Value.slice a2 p2 c2)).setCell ⟨w.heap.size, 5, none⟩ (Value.slice b2 q2 d2)).setCell ⟨w1.heap.size + 1, 3, none⟩ (Value.bool s2)).setCell ⟨w1.heap.size + 1, 4, none⟩ (Value.slice a2 p2 c2)).setCell ⟨w1.heap.size + 1, 5, none⟩ (Value.slice b2 q2 d2)).setCell ⟨w1.heap.size + 1, 3, none⟩ (Value.bool false)) = v10 at *
  rw [rounds_succ]
  go_wp2_with fail
  refine (fcut 6 (by omega) A3_10 B3_10).mono ?_
  rintro e w11 ⟨p3, l3, q3, k3, rfl, hp3, hq3, hlA3, hlB3, hR, hR', hB⟩
  have hB_11 : Below v10.heap.size v10 w11 := (bl.next hB)
  have X_11 := X_10.next hB_11
  have cX_11_0 : _ = some (Value.bool s1) := X_11.cell 0
  have fX_11_0 := X_11.free 0
  have cX_11_1 : _ = some (Value.slice a1 p1 c1) := X_11.cell 1
  have fX_11_1 := X_11.free 1
  have cX_11_2 : _ = some (Value.slice b1 q1 d1) := X_11.cell 2
  have fX_11_2 := X_11.free 2
  have cX_11_3 : _ = some (Value.bool s2) := X_11.cell 3
  have fX_11_3 := X_11.free 3
  have cX_11_4 : _ = some (Value.slice a2 p2 c2) := X_11.cell 4
  have fX_11_4 := X_11.free 4
  have cX_11_5 : _ = some (Value.slice b2 q2 d2) := X_11.cell 5
  have fX_11_5 := X_11.free 5
  have cX_11_6 : _ = some (Value.bool s3) := X_11.cell 6
  have fX_11_6 := X_11.free 6
  have cX_11_7 : _ = some (Value.slice a3 n3 c3) := X_11.cell 7
  have fX_11_7 := X_11.free 7
  have cX_11_8 : _ = some (Value.slice b3 m3 d3) := X_11.cell 8
  have fX_11_8 := X_11.free 8
  have Y_11 := Y_10.next hB_11
  have cY_11_0 : _ = some (Value.int .i64 u) := Y_11.cell 0
  have cY_11_1 : _ = some (Value.int .i64 v) := Y_11.cell 1
  have cY_11_2 : _ = some (Value.int .i64 z) := Y_11.cell 2
  have Z_11 := Z_10.next hB_11
  have cZ_11_0 : _ = some (Value.bool p) := Z_11.cell 0
  have cZ_11_1 : _ = some (Value.bool q) := Z_11.cell 1
  have cZ_11_2 : _ = some (Value.bool r) := Z_11.cell 2
  have SS_11 := SS_10.next hB_11
  have cSS_11_0 : _ = some (Value.bool false) := SS_11.cell 0
  have fSS_11_0 := SS_11.free 0
  have cSS_11_1 : _ = some (Value.slice none 0 0) := SS_11.cell 1
  have fSS_11_1 := SS_11.free 1
  have cSS_11_2 : _ = some (Value.slice none 0 0) := SS_11.cell 2
  have fSS_11_2 := SS_11.free 2
  have cSS_11_3 : _ = some (Value.bool false) := SS_11.cell 3
  have fSS_11_3 := SS_11.free 3
  have cSS_11_4 : _ = some (Value.slice none 0 0) := SS_11.cell 4
  have fSS_11_4 := SS_11.free 4
  have cSS_11_5 : _ = some (Value.slice none 0 0) := SS_11.cell 5
  have fSS_11_5 := SS_11.free 5
  have cSS_11_6 : _ = some (Value.bool false) := SS_11.cell 6
  have fSS_11_6 := SS_11.free 6
  have cSS_11_7 : _ = some (Value.slice none 0 0) := SS_11.cell 7
  have fSS_11_7 := SS_11.free 7
  have cSS_11_8 : _ = some (Value.slice none 0 0) := SS_11.cell 8
  have fSS_11_8 := SS_11.free 8
  have cSS_11_9 : _ = some (Value.bool false) := SS_11.cell 9
  have fSS_11_9 := SS_11.free 9
  have cSS_11_10 : _ = some (Value.slice none 0 0) := SS_11.cell 10
  have fSS_11_10 := SS_11.free 10
  have cSS_11_11 : _ = some (Value.slice none 0 0) := SS_11.cell 11
  have fSS_11_11 := SS_11.free 11
  have cSS_11_12 : _ = some (Value.bool false) := SS_11.cell 12
  have fSS_11_12 := SS_11.free 12
  have cSS_11_13 : _ = some (Value.slice none 0 0) := SS_11.cell 13
  have fSS_11_13 := SS_11.free 13
  have cSS_11_14 : _ = some (Value.slice none 0 0) := SS_11.cell 14
  have fSS_11_14 := SS_11.free 14
  have cSS_11_15 : _ = some (Value.bool false) := SS_11.cell 15
  have fSS_11_15 := SS_11.free 15
  have cSS_11_16 : _ = some (Value.slice none 0 0) := SS_11.cell 16
  have fSS_11_16 := SS_11.free 16
  have cSS_11_17 : _ = some (Value.slice none 0 0) := SS_11.cell 17
  have fSS_11_17 := SS_11.free 17
  have MM_11 := MM_10.next hB_11
  have cMM_11_0 : _ = some (Value.bool false) := MM_11.cell 0
  have fMM_11_0 := MM_11.free 0
  have cMM_11_1 : _ = some (Value.slice a1 p1 c1) := MM_11.cell 1
  have fMM_11_1 := MM_11.free 1
  have cMM_11_2 : _ = some (Value.slice b1 q1 d1) := MM_11.cell 2
  have fMM_11_2 := MM_11.free 2
  have cMM_11_3 : _ = some (Value.bool false) := MM_11.cell 3
  have fMM_11_3 := MM_11.free 3
  have cMM_11_4 : _ = some (Value.slice a2 p2 c2) := MM_11.cell 4
  have fMM_11_4 := MM_11.free 4
  have cMM_11_5 : _ = some (Value.slice b2 q2 d2) := MM_11.cell 5
  have fMM_11_5 := MM_11.free 5
  have cMM_11_6 : _ = some (Value.bool false) := MM_11.cell 6
  have fMM_11_6 := MM_11.free 6
  have cMM_11_7 : _ = some (Value.slice none 0 0) := MM_11.cell 7
  have fMM_11_7 := MM_11.free 7
  have cMM_11_8 : _ = some (Value.slice none 0 0) := MM_11.cell 8
  have fMM_11_8 := MM_11.free 8
  have A1_11 := A1_10.below hB_11
  have A2_11 := A2_10.below hB_11
  have A3_11 := A3_10.below hB_11
  have B1_11 := B1_10.below hB_11
  have B2_11 := B2_10.below hB_11
  have B3_11 := B3_10.below hB_11
  have hbel_11 := hbel_10.next hB_11
  have hsz_11 := hB_11.size
  clear X_10 cX_10_0 fX_10_0 cX_10_1 fX_10_1 cX_10_2 fX_10_2 cX_10_3 fX_10_3 cX_10_4 fX_10_4 cX_10_5 fX_10_5 cX_10_6 fX_10_6 cX_10_7 fX_10_7 cX_10_8 fX_10_8 Y_10 cY_10_0 cY_10_1 cY_10_2 Z_10 cZ_10_0 cZ_10_1 cZ_10_2 SS_10 cSS_10_0 fSS_10_0 cSS_10_1 fSS_10_1 cSS_10_2 fSS_10_2 cSS_10_3 fSS_10_3 cSS_10_4 fSS_10_4 cSS_10_5 fSS_10_5 cSS_10_6 fSS_10_6 cSS_10_7 fSS_10_7 cSS_10_8 fSS_10_8 cSS_10_9 fSS_10_9 cSS_10_10 fSS_10_10 cSS_10_11 fSS_10_11 cSS_10_12 fSS_10_12 cSS_10_13 fSS_10_13 cSS_10_14 fSS_10_14 cSS_10_15 fSS_10_15 cSS_10_16 fSS_10_16 cSS_10_17 fSS_10_17 MM_10 cMM_10_0 fMM_10_0 cMM_10_1 fMM_10_1 cMM_10_2 fMM_10_2 cMM_10_3 fMM_10_3 cMM_10_4 fMM_10_4 cMM_10_5 fMM_10_5 cMM_10_6 fMM_10_6 cMM_10_7 fMM_10_7 cMM_10_8 fMM_10_8 A1_10 A2_10 A3_10 B1_10 B2_10 B3_10 hbel_10 hB_11
  have A3_11 := hR
  have B3_11 := hR'
  clear hR hR'
  try clear hB
  have hkp := ((((Kp.refl (fun j => j = w.heap.size) (w11)).setCell (ad := ⟨w.heap.size, 6, none⟩) rfl (Value.bool s3)).setCell (ad := ⟨w.heap.size, 7, none⟩) rfl (Value.slice a3 p3 c3)).setCell (ad := ⟨w.heap.size, 8, none⟩) rfl (Value.slice b3 q3 d3))
  have X_12 := (show Blk ((((w11.setCell ⟨w.heap.size, 6, none⟩ (Value.bool s3)).setCell ⟨w.heap.size, 7, none⟩ (Value.slice a3 p3 c3)).setCell ⟨w.heap.size, 8, none⟩ (Value.slice b3 q3 d3))) _ #[Value.bool s1, Value.slice a1 p1 c1, Value.slice b1 q1 d1, Value.bool s2, Value.slice a2 p2 c2, Value.slice b2 q2 d2, Value.bool s3, Value.slice a3 p3 c3, Value.slice b3 q3 d3] from (((X_11).setCell (i := 6) (v := Value.bool s3) (by simp)).setCell (i := 7) (v := Value.slice a3 p3 c3) (by simp)).setCell (i := 8) (v := Value.slice b3 q3 d3) (by simp))
  have Y_12 := Y_11.kp hkp (by show ¬ (w.heap.size + 1 = w.heap.size); omega)
  have Z_12 := Z_11.kp hkp (by show ¬ (w.heap.size + 1 + 1 = w.heap.size); omega)
  have SS_12 := SS_11.kp hkp (by show ¬ (w1.heap.size = w.heap.size); omega)
  have MM_12 := MM_11.kp hkp (by show ¬ (w1.heap.size + 1 = w.heap.size); omega)
  have A1_12 := HA1.out.kp_old hlA1 A1_11 hkp (fun b hb => by show ¬ (b = _); omega)
  have A2_12 := HA2.out.kp_old hlA2 A2_11 hkp (fun b hb => by show ¬ (b = _); omega)
  have A3_12 := HA3.out.kp_old hlA3 A3_11 hkp (fun b hb => by show ¬ (b = _); omega)
  have B1_12 := HB1.out.kp_old hlB1 B1_11 hkp (fun b hb => by show ¬ (b = _); omega)
  have B2_12 := HB2.out.kp_old hlB2 B2_11 hkp (fun b hb => by show ¬ (b = _); omega)
  have B3_12 := HB3.out.kp_old hlB3 B3_11 hkp (fun b hb => by show ¬ (b = _); omega)
  have hbel_12 := hbel_11.kp hkp hbel_11.size (fun j hj => by show ¬ (j = w.heap.size); omega)
  have hsz_12 := hkp.size
  clear hkp
  have cX_12_0 : _ = some (Value.bool s1) := X_12.cell 0
  have fX_12_0 := X_12.free 0
  have cX_12_1 : _ = some (Value.slice a1 p1 c1) := X_12.cell 1
  have fX_12_1 := X_12.free 1
  have cX_12_2 : _ = some (Value.slice b1 q1 d1) := X_12.cell 2
  have fX_12_2 := X_12.free 2
  have cX_12_3 : _ = some (Value.bool s2) := X_12.cell 3
  have fX_12_3 := X_12.free 3
  have cX_12_4 : _ = some (Value.slice a2 p2 c2) := X_12.cell 4
  have fX_12_4 := X_12.free 4
  have cX_12_5 : _ = some (Value.slice b2 q2 d2) := X_12.cell 5
  have fX_12_5 := X_12.free 5
  have cX_12_6 : _ = some (Value.bool s3) := X_12.cell 6
  have fX_12_6 := X_12.free 6
  have cX_12_7 : _ = some (Value.slice a3 p3 c3) := X_12.cell 7
  have fX_12_7 := X_12.free 7
  have cX_12_8 : _ = some (Value.slice b3 q3 d3) := X_12.cell 8
  have fX_12_8 := X_12.free 8
  have cY_12_0 : _ = some (Value.int .i64 u) := Y_12.cell 0
  have cY_12_1 : _ = some (Value.int .i64 v) := Y_12.cell 1
  have cY_12_2 : _ = some (Value.int .i64 z) := Y_12.cell 2
  have cZ_12_0 : _ = some (Value.bool p) := Z_12.cell 0
  have cZ_12_1 : _ = some (Value.bool q) := Z_12.cell 1
  have cZ_12_2 : _ = some (Value.bool r) := Z_12.cell 2
  have cSS_12_0 : _ = some (Value.bool false) := SS_12.cell 0
  have fSS_12_0 := SS_12.free 0
  have cSS_12_1 : _ = some (Value.slice none 0 0) := SS_12.cell 1
  have fSS_12_1 := SS_12.free 1
  have cSS_12_2 : _ = some (Value.slice none 0 0) := SS_12.cell 2
  have fSS_12_2 := SS_12.free 2
  have cSS_12_3 : _ = some (Value.bool false) := SS_12.cell 3
  have fSS_12_3 := SS_12.free 3
  have cSS_12_4 : _ = some (Value.slice none 0 0) := SS_12.cell 4
  have fSS_12_4 := SS_12.free 4
  have cSS_12_5 : _ = some (Value.slice none 0 0) := SS_12.cell 5
  have fSS_12_5 := SS_12.free 5
  have cSS_12_6 : _ = some (Value.bool false) := SS_12.cell 6
  have fSS_12_6 := SS_12.free 6
  have cSS_12_7 : _ = some (Value.slice none 0 0) := SS_12.cell 7
  have fSS_12_7 := SS_12.free 7
  have cSS_12_8 : _ = some (Value.slice none 0 0) := SS_12.cell 8
  have fSS_12_8 := SS_12.free 8
  have cSS_12_9 : _ = some (Value.bool false) := SS_12.cell 9
  have fSS_12_9 := SS_12.free 9
  have cSS_12_10 : _ = some (Value.slice none 0 0) := SS_12.cell 10
  have fSS_12_10 := SS_12.free 10
  have cSS_12_11 : _ = some (Value.slice none 0 0) := SS_12.cell 11
  have fSS_12_11 := SS_12.free 11
  have cSS_12_12 : _ = some (Value.bool false) := SS_12.cell 12
  have fSS_12_12 := SS_12.free 12
  have cSS_12_13 : _ = some (Value.slice none 0 0) := SS_12.cell 13
  have fSS_12_13 := SS_12.free 13
  have cSS_12_14 : _ = some (Value.slice none 0 0) := SS_12.cell 14
  have fSS_12_14 := SS_12.free 14
  have cSS_12_15 : _ = some (Value.bool false) := SS_12.cell 15
  have fSS_12_15 := SS_12.free 15
  have cSS_12_16 : _ = some (Value.slice none 0 0) := SS_12.cell 16
  have fSS_12_16 := SS_12.free 16
  have cSS_12_17 : _ = some (Value.slice none 0 0) := SS_12.cell 17
  have fSS_12_17 := SS_12.free 17
  have cMM_12_0 : _ = some (Value.bool false) := MM_12.cell 0
  have fMM_12_0 := MM_12.free 0
  have cMM_12_1 : _ = some (Value.slice a1 p1 c1) := MM_12.cell 1
  have fMM_12_1 := MM_12.free 1
  have cMM_12_2 : _ = some (Value.slice b1 q1 d1) := MM_12.cell 2
  have fMM_12_2 := MM_12.free 2
  have cMM_12_3 : _ = some (Value.bool false) := MM_12.cell 3
  have fMM_12_3 := MM_12.free 3
  have cMM_12_4 : _ = some (Value.slice a2 p2 c2) := MM_12.cell 4
  have fMM_12_4 := MM_12.free 4
  have cMM_12_5 : _ = some (Value.slice b2 q2 d2) := MM_12.cell 5
  have fMM_12_5 := MM_12.free 5
  have cMM_12_6 : _ = some (Value.bool false) := MM_12.cell 6
  have fMM_12_6 := MM_12.free 6
  have cMM_12_7 : _ = some (Value.slice none 0 0) := MM_12.cell 7
  have fMM_12_7 := MM_12.free 7
  have cMM_12_8 : _ = some (Value.slice none 0 0) := MM_12.cell 8
  have fMM_12_8 := MM_12.free 8
  have hkp := ((((Kp.refl (fun j => j = w1.heap.size + 1) ((((w11.setCell ⟨w.heap.size, 6, none⟩ (Value.bool s3)).setCell ⟨w.heap.size, 7, none⟩ (Value.slice a3 p3 c3)).setCell ⟨w.heap.size, 8, none⟩ (Value.slice b3 q3 d3)))).setCell (ad := ⟨w1.heap.size + 1, 6, none⟩) rfl (Value.bool s3)).setCell (ad := ⟨w1.heap.size + 1, 7, none⟩) rfl (Value.slice a3 p3 c3)).setCell (ad := ⟨w1.heap.size + 1, 8, none⟩) rfl (Value.slice b3 q3 d3))
  have MM_13 := (show Blk (((((((w11.setCell ⟨w.heap.size, 6, none⟩ (Value.bool s3)).setCell ⟨w.heap.size, 7, none⟩ (Value.slice a3 p3 c3)).setCell ⟨w.heap.size, 8, none⟩ (Value.slice b3 q3 d3)).setCell ⟨w1.heap.size + 1, 6, none⟩ (Value.bool s3)).setCell ⟨w1.heap.size + 1, 7, none⟩ (Value.slice a3 p3 c3)).setCell ⟨w1.heap.size + 1, 8, none⟩ (Value.slice b3 q3 d3))) _ #[Value.bool false, Value.slice a1 p1 c1, Value.slice b1 q1 d1, Value.bool false, Value.slice a2 p2 c2, Value.slice b2 q2 d2, Value.bool s3, Value.slice a3 p3 c3, Value.slice b3 q3 d3] from (((MM_12).setCell (i := 6) (v := Value.bool s3) (by simp)).setCell (i := 7) (v := Value.slice a3 p3 c3) (by simp)).setCell (i := 8) (v := Value.slice b3 q3 d3) (by simp))
  have X_13 := X_12.kp hkp (by show ¬ (w.heap.size = w1.heap.size + 1); omega)
  have Y_13 := Y_12.kp hkp (by show ¬ (w.heap.size + 1 = w1.heap.size + 1); omega)
  have Z_13 := Z_12.kp hkp (by show ¬ (w.heap.size + 1 + 1 = w1.heap.size + 1); omega)
  have SS_13 := SS_12.kp hkp (by show ¬ (w1.heap.size = w1.heap.size + 1); omega)
  have A1_13 := HA1.out.kp_old hlA1 A1_12 hkp (fun b hb => by show ¬ (b = _); omega)
  have A2_13 := HA2.out.kp_old hlA2 A2_12 hkp (fun b hb => by show ¬ (b = _); omega)
  have A3_13 := HA3.out.kp_old hlA3 A3_12 hkp (fun b hb => by show ¬ (b = _); omega)
  have B1_13 := HB1.out.kp_old hlB1 B1_12 hkp (fun b hb => by show ¬ (b = _); omega)
  have B2_13 := HB2.out.kp_old hlB2 B2_12 hkp (fun b hb => by show ¬ (b = _); omega)
  have B3_13 := HB3.out.kp_old hlB3 B3_12 hkp (fun b hb => by show ¬ (b = _); omega)
  have hbel_13 := hbel_12.kp hkp hbel_12.size (fun j hj => by show ¬ (j = w1.heap.size + 1); omega)
  have hsz_13 := hkp.size
  clear hkp
  have cX_13_0 : _ = some (Value.bool s1) := X_13.cell 0
  have fX_13_0 := X_13.free 0
  have cX_13_1 : _ = some (Value.slice a1 p1 c1) := X_13.cell 1
  have fX_13_1 := X_13.free 1
  have cX_13_2 : _ = some (Value.slice b1 q1 d1) := X_13.cell 2
  have fX_13_2 := X_13.free 2
  have cX_13_3 : _ = some (Value.bool s2) := X_13.cell 3
  have fX_13_3 := X_13.free 3
  have cX_13_4 : _ = some (Value.slice a2 p2 c2) := X_13.cell 4
  have fX_13_4 := X_13.free 4
  have cX_13_5 : _ = some (Value.slice b2 q2 d2) := X_13.cell 5
  have fX_13_5 := X_13.free 5
  have cX_13_6 : _ = some (Value.bool s3) := X_13.cell 6
  have fX_13_6 := X_13.free 6
  have cX_13_7 : _ = some (Value.slice a3 p3 c3) := X_13.cell 7
  have fX_13_7 := X_13.free 7
  have cX_13_8 : _ = some (Value.slice b3 q3 d3) := X_13.cell 8
  have fX_13_8 := X_13.free 8
  have cY_13_0 : _ = some (Value.int .i64 u) := Y_13.cell 0
  have cY_13_1 : _ = some (Value.int .i64 v) := Y_13.cell 1
  have cY_13_2 : _ = some (Value.int .i64 z) := Y_13.cell 2
  have cZ_13_0 : _ = some (Value.bool p) := Z_13.cell 0
  have cZ_13_1 : _ = some (Value.bool q) := Z_13.cell 1
  have cZ_13_2 : _ = some (Value.bool r) := Z_13.cell 2
  have cSS_13_0 : _ = some (Value.bool false) := SS_13.cell 0
  have fSS_13_0 := SS_13.free 0
  have cSS_13_1 : _ = some (Value.slice none 0 0) := SS_13.cell 1
  have fSS_13_1 := SS_13.free 1
  have cSS_13_2 : _ = some (Value.slice none 0 0) := SS_13.cell 2
  have fSS_13_2 := SS_13.free 2
  have cSS_13_3 : _ = some (Value.bool false) := SS_13.cell 3
  have fSS_13_3 := SS_13.free 3
  have cSS_13_4 : _ = some (Value.slice none 0 0) := SS_13.cell 4
  have fSS_13_4 := SS_13.free 4
  have cSS_13_5 : _ = some (Value.slice none 0 0) := SS_13.cell 5
  have fSS_13_5 := SS_13.free 5
  have cSS_13_6 : _ = some (Value.bool false) := SS_13.cell 6
  have fSS_13_6 := SS_13.free 6
  have cSS_13_7 : _ = some (Value.slice none 0 0) := SS_13.cell 7
  have fSS_13_7 := SS_13.free 7
  have cSS_13_8 : _ = some (Value.slice none 0 0) := SS_13.cell 8
  have fSS_13_8 := SS_13.free 8
  have cSS_13_9 : _ = some (Value.bool false) := SS_13.cell 9
  have fSS_13_9 := SS_13.free 9
  have cSS_13_10 : _ = some (Value.slice none 0 0) := SS_13.cell 10
  have fSS_13_10 := SS_13.free 10
  have cSS_13_11 : _ = some (Value.slice none 0 0) := SS_13.cell 11
  have fSS_13_11 := SS_13.free 11
  have cSS_13_12 : _ = some (Value.bool false) := SS_13.cell 12
  have fSS_13_12 := SS_13.free 12
  have cSS_13_13 : _ = some (Value.slice none 0 0) := SS_13.cell 13
  have fSS_13_13 := SS_13.free 13
  have cSS_13_14 : _ = some (Value.slice none 0 0) := SS_13.cell 14
  have fSS_13_14 := SS_13.free 14
  have cSS_13_15 : _ = some (Value.bool false) := SS_13.cell 15
  have fSS_13_15 := SS_13.free 15
  have cSS_13_16 : _ = some (Value.slice none 0 0) := SS_13.cell 16
  have fSS_13_16 := SS_13.free 16
  have cSS_13_17 : _ = some (Value.slice none 0 0) := SS_13.cell 17
  have fSS_13_17 := SS_13.free 17
  have cMM_13_0 : _ = some (Value.bool false) := MM_13.cell 0
  have fMM_13_0 := MM_13.free 0
  have cMM_13_1 : _ = some (Value.slice a1 p1 c1) := MM_13.cell 1
  have fMM_13_1 := MM_13.free 1
  have cMM_13_2 : _ = some (Value.slice b1 q1 d1) := MM_13.cell 2
  have fMM_13_2 := MM_13.free 2
  have cMM_13_3 : _ = some (Value.bool false) := MM_13.cell 3
  have fMM_13_3 := MM_13.free 3
  have cMM_13_4 : _ = some (Value.slice a2 p2 c2) := MM_13.cell 4
  have fMM_13_4 := MM_13.free 4
  have cMM_13_5 : _ = some (Value.slice b2 q2 d2) := MM_13.cell 5
  have fMM_13_5 := MM_13.free 5
  have cMM_13_6 : _ = some (Value.bool s3) := MM_13.cell 6
  have fMM_13_6 := MM_13.free 6
  have cMM_13_7 : _ = some (Value.slice a3 p3 c3) := MM_13.cell 7
  have fMM_13_7 := MM_13.free 7
  have cMM_13_8 : _ = some (Value.slice b3 q3 d3) := MM_13.cell 8
  have fMM_13_8 := MM_13.free 8
  have hkp := ((Kp.refl (fun j => j = w1.heap.size + 1) (((((((w11.setCell ⟨w.heap.size, 6, none⟩ (Value.bool s3)).setCell ⟨w.heap.size, 7, none⟩ (Value.slice a3 p3 c3)).setCell ⟨w.heap.size, 8, none⟩ (Value.slice b3 q3 d3)).setCell ⟨w1.heap.size + 1, 6, none⟩ (Value.bool s3)).setCell ⟨w1.heap.size + 1, 7, none⟩ (Value.slice a3 p3 c3)).setCell ⟨w1.heap.size + 1, 8, none⟩ (Value.slice b3 q3 d3)))).setCell (ad := ⟨w1.heap.size + 1, 6, none⟩) rfl (Value.bool false))
  have MM_14 := (show Blk ((((((((w11.setCell ⟨w.heap.size, 6, none⟩ (Value.bool s3)).setCell ⟨w.heap.size, 7, none⟩ (Value.slice a3 p3 c3)).setCell ⟨w.heap.size, 8, none⟩ (Value.slice b3 q3 d3)).setCell ⟨w1.heap.size + 1, 6, none⟩ (Value.bool s3)).setCell ⟨w1.heap.size + 1, 7, none⟩ (Value.slice a3 p3 c3)).setCell ⟨w1.heap.size + 1, 8, none⟩ (Value.slice b3 q3 d3)).setCell ⟨w1.heap.size + 1, 6, none⟩ (Value.bool false))) _ #[Value.bool false, Value.slice a1 p1 c1, Value.slice b1 q1 d1, Value.bool false, Value.slice a2 p2 c2, Value.slice b2 q2 d2, Value.bool false, Value.slice a3 p3 c3, Value.slice b3 q3 d3] from (MM_13).setCell (i := 6) (v := Value.bool false) (by simp))
  have X_14 := X_13.kp hkp (by show ¬ (w.heap.size = w1.heap.size + 1); omega)
  have Y_14 := Y_13.kp hkp (by show ¬ (w.heap.size + 1 = w1.heap.size + 1); omega)
  have Z_14 := Z_13.kp hkp (by show ¬ (w.heap.size + 1 + 1 = w1.heap.size + 1); omega)
  have SS_14 := SS_13.kp hkp (by show ¬ (w1.heap.size = w1.heap.size + 1); omega)
  have A1_14 := HA1.out.kp_old hlA1 A1_13 hkp (fun b hb => by show ¬ (b = _); omega)
  have A2_14 := HA2.out.kp_old hlA2 A2_13 hkp (fun b hb => by show ¬ (b = _); omega)
  have A3_14 := HA3.out.kp_old hlA3 A3_13 hkp (fun b hb => by show ¬ (b = _); omega)
  have B1_14 := HB1.out.kp_old hlB1 B1_13 hkp (fun b hb => by show ¬ (b = _); omega)
  have B2_14 := HB2.out.kp_old hlB2 B2_13 hkp (fun b hb => by show ¬ (b = _); omega)
  have B3_14 := HB3.out.kp_old hlB3 B3_13 hkp (fun b hb => by show ¬ (b = _); omega)
  have hbel_14 := hbel_13.kp hkp hbel_13.size (fun j hj => by show ¬ (j = w1.heap.size + 1); omega)
  have hsz_14 := hkp.size
  clear hkp
  have cX_14_0 : _ = some (Value.bool s1) := X_14.cell 0
  have fX_14_0 := X_14.free 0
  have cX_14_1 : _ = some (Value.slice a1 p1 c1) := X_14.cell 1
  have fX_14_1 := X_14.free 1
  have cX_14_2 : _ = some (Value.slice b1 q1 d1) := X_14.cell 2
  have fX_14_2 := X_14.free 2
  have cX_14_3 : _ = some (Value.bool s2) := X_14.cell 3
  have fX_14_3 := X_14.free 3
  have cX_14_4 : _ = some (Value.slice a2 p2 c2) := X_14.cell 4
  have fX_14_4 := X_14.free 4
  have cX_14_5 : _ = some (Value.slice b2 q2 d2) := X_14.cell 5
  have fX_14_5 := X_14.free 5
  have cX_14_6 : _ = some (Value.bool s3) := X_14.cell 6
  have fX_14_6 := X_14.free 6
  have cX_14_7 : _ = some (Value.slice a3 p3 c3) := X_14.cell 7
  have fX_14_7 := X_14.free 7
  have cX_14_8 : _ = some (Value.slice b3 q3 d3) := X_14.cell 8
  have fX_14_8 := X_14.free 8
  have cY_14_0 : _ = some (Value.int .i64 u) := Y_14.cell 0
  have cY_14_1 : _ = some (Value.int .i64 v) := Y_14.cell 1
  have cY_14_2 : _ = some (Value.int .i64 z) := Y_14.cell 2
  have cZ_14_0 : _ = some (Value.bool p) := Z_14.cell 0
  have cZ_14_1 : _ = some (Value.bool q) := Z_14.cell 1
  have cZ_14_2 : _ = some (Value.bool r) := Z_14.cell 2
  have cSS_14_0 : _ = some (Value.bool false) := SS_14.cell 0
  have fSS_14_0 := SS_14.free 0
  have cSS_14_1 : _ = some (Value.slice none 0 0) := SS_14.cell 1
  have fSS_14_1 := SS_14.free 1
  have cSS_14_2 : _ = some (Value.slice none 0 0) := SS_14.cell 2
  have fSS_14_2 := SS_14.free 2
  have cSS_14_3 : _ = some (Value.bool false) := SS_14.cell 3
  have fSS_14_3 := SS_14.free 3
  have cSS_14_4 : _ = some (Value.slice none 0 0) := SS_14.cell 4
  have fSS_14_4 := SS_14.free 4
  have cSS_14_5 : _ = some (Value.slice none 0 0) := SS_14.cell 5
  have fSS_14_5 := SS_14.free 5
  have cSS_14_6 : _ = some (Value.bool false) := SS_14.cell 6
  have fSS_14_6 := SS_14.free 6
  have cSS_14_7 : _ = some (Value.slice none 0 0) := SS_14.cell 7
  have fSS_14_7 := SS_14.free 7
  have cSS_14_8 : _ = some (Value.slice none 0 0) := SS_14.cell 8
  have fSS_14_8 := SS_14.free 8
  have cSS_14_9 : _ = some (Value.bool false) := SS_14.cell 9
  have fSS_14_9 := SS_14.free 9
  have cSS_14_10 : _ = some (Value.slice none 0 0) := SS_14.cell 10
  have fSS_14_10 := SS_14.free 10
  have cSS_14_11 : _ = some (Value.slice none 0 0) := SS_14.cell 11
  have fSS_14_11 := SS_14.free 11
  have cSS_14_12 : _ = some (Value.bool false) := SS_14.cell 12
  have fSS_14_12 := SS_14.free 12
  have cSS_14_13 : _ = some (Value.slice none 0 0) := SS_14.cell 13
  have fSS_14_13 := SS_14.free 13
  have cSS_14_14 : _ = some (Value.slice none 0 0) := SS_14.cell 14
  have fSS_14_14 := SS_14.free 14
  have cSS_14_15 : _ = some (Value.bool false) := SS_14.cell 15
  have fSS_14_15 := SS_14.free 15
  have cSS_14_16 : _ = some (Value.slice none 0 0) := SS_14.cell 16
  have fSS_14_16 := SS_14.free 16
  have cSS_14_17 : _ = some (Value.slice none 0 0) := SS_14.cell 17
  have fSS_14_17 := SS_14.free 17
  have cMM_14_0 : _ = some (Value.bool false) := MM_14.cell 0
  have fMM_14_0 := MM_14.free 0
  have cMM_14_1 : _ = some (Value.slice a1 p1 c1) := MM_14.cell 1
  have fMM_14_1 := MM_14.free 1
  have cMM_14_2 : _ = some (Value.slice b1 q1 d1) := MM_14.cell 2
  have fMM_14_2 := MM_14.free 2
  have cMM_14_3 : _ = some (Value.bool false) := MM_14.cell 3
  have fMM_14_3 := MM_14.free 3
  have cMM_14_4 : _ = some (Value.slice a2 p2 c2) := MM_14.cell 4
  have fMM_14_4 := MM_14.free 4
  have cMM_14_5 : _ = some (Value.slice b2 q2 d2) := MM_14.cell 5
  have fMM_14_5 := MM_14.free 5
  have cMM_14_6 : _ = some (Value.bool false) := MM_14.cell 6
  have fMM_14_6 := MM_14.free 6
  have cMM_14_7 : _ = some (Value.slice a3 p3 c3) := MM_14.cell 7
  have fMM_14_7 := MM_14.free 7
  have cMM_14_8 : _ = some (Value.slice b3 q3 d3) := MM_14.cell 8
  have fMM_14_8 := MM_14.free 8
  go_wp2_with fail
  clear X_11 Y_11 Z_11 SS_11 MM_11 cX_11_0 fX_11_0 cX_11_1 fX_11_1 cX_11_2 fX_11_2 cX_11_3 fX_11_3 cX_11_4 fX_11_4 cX_11_5 fX_11_5 cX_11_6 fX_11_6 cX_11_7 fX_11_7 cX_11_8 fX_11_8 cY_11_0 cY_11_1 cY_11_2 cZ_11_0 cZ_11_1 cZ_11_2 cSS_11_0 fSS_11_0 cSS_11_1 fSS_11_1 cSS_11_2 fSS_11_2 cSS_11_3 fSS_11_3 cSS_11_4 fSS_11_4 cSS_11_5 fSS_11_5 cSS_11_6 fSS_11_6 cSS_11_7 fSS_11_7 cSS_11_8 fSS_11_8 cSS_11_9 fSS_11_9 cSS_11_10 fSS_11_10 cSS_11_11 fSS_11_11 cSS_11_12 fSS_11_12 cSS_11_13 fSS_11_13 cSS_11_14 fSS_11_14 cSS_11_15 fSS_11_15 cSS_11_16 fSS_11_16 cSS_11_17 fSS_11_17 cMM_11_0 fMM_11_0 cMM_11_1 fMM_11_1 cMM_11_2 fMM_11_2 cMM_11_3 fMM_11_3 cMM_11_4 fMM_11_4 cMM_11_5 fMM_11_5 cMM_11_6 fMM_11_6 cMM_11_7 fMM_11_7 cMM_11_8 fMM_11_8 A1_11 A2_11 A3_11 B1_11 B2_11 B3_11 hbel_11 X_12 Y_12 Z_12 SS_12 MM_12 cX_12_0 fX_12_0 cX_12_1 fX_12_1 cX_12_2 fX_12_2 cX_12_3 fX_12_3 cX_12_4 fX_12_4 cX_12_5 fX_12_5 cX_12_6 fX_12_6 cX_12_7 fX_12_7 cX_12_8 fX_12_8 cY_12_0 cY_12_1 cY_12_2 cZ_12_0 cZ_12_1 cZ_12_2 cSS_12_0 fSS_12_0 cSS_12_1 fSS_12_1 cSS_12_2 fSS_12_2 cSS_12_3 fSS_12_3 cSS_12_4 fSS_12_4 cSS_12_5 fSS_12_5 cSS_12_6 fSS_12_6 cSS_12_7 fSS_12_7 cSS_12_8 fSS_12_8 cSS_12_9 fSS_12_9 cSS_12_10 fSS_12_10 cSS_12_11 fSS_12_11 cSS_12_12 fSS_12_12 cSS_12_13 fSS_12_13 cSS_12_14 fSS_12_14 cSS_12_15 fSS_12_15 cSS_12_16 fSS_12_16 cSS_12_17 fSS_12_17 cMM_12_0 fMM_12_0 cMM_12_1 fMM_12_1 cMM_12_2 fMM_12_2 cMM_12_3 fMM_12_3 cMM_12_4 fMM_12_4 cMM_12_5 fMM_12_5 cMM_12_6 fMM_12_6 cMM_12_7 fMM_12_7 cMM_12_8 fMM_12_8 A1_12 A2_12 A3_12 B1_12 B2_12 B3_12 hbel_12 X_13 Y_13 Z_13 SS_13 MM_13 cX_13_0 fX_13_0 cX_13_1 fX_13_1 cX_13_2 fX_13_2 cX_13_3 fX_13_3 cX_13_4 fX_13_4 cX_13_5 fX_13_5 cX_13_6 fX_13_6 cX_13_7 fX_13_7 cX_13_8 fX_13_8 cY_13_0 cY_13_1 cY_13_2 cZ_13_0 cZ_13_1 cZ_13_2 cSS_13_0 fSS_13_0 cSS_13_1 fSS_13_1 cSS_13_2 fSS_13_2 cSS_13_3 fSS_13_3 cSS_13_4 fSS_13_4 cSS_13_5 fSS_13_5 cSS_13_6 fSS_13_6 cSS_13_7 fSS_13_7 cSS_13_8 fSS_13_8 cSS_13_9 fSS_13_9 cSS_13_10 fSS_13_10 cSS_13_11 fSS_13_11 cSS_13_12 fSS_13_12 cSS_13_13 fSS_13_13 cSS_13_14 fSS_13_14 cSS_13_15 fSS_13_15 cSS_13_16 fSS_13_16 cSS_13_17 fSS_13_17 cMM_13_0 fMM_13_0 cMM_13_1 fMM_13_1 cMM_13_2 fMM_13_2 cMM_13_3 fMM_13_3 cMM_13_4 fMM_13_4 cMM_13_5 fMM_13_5 cMM_13_6 fMM_13_6 cMM_13_7 fMM_13_7 cMM_13_8 fMM_13_8 A1_13 A2_13 A3_13 B1_13 B2_13 B3_13 hbel_13
  generalize (((((((w11.setCell ⟨w.heap.size, 6, none⟩ (Value.bool s3)).setCell ⟨w.heap.size, 7, none⟩ (Value.slice a3 p3 c3)).setCell ⟨w.heap.size, 8, none⟩ (Value.slice b3 q3 d3)).setCell ⟨w1.heap.size + 1, 6, none⟩ (Value.bool s3)).setCell ⟨w1.heap.size + 1, 7, none⟩ (Value.slice a3 p3 c3)).setCell ⟨w1.heap.size + 1, 8, none⟩ (Value.slice b3 q3 d3)).setCell ⟨w1.heap.size + 1, 6, none⟩ (Value.bool false)) = v14 at *
  rw [rounds_succ]
  go_wp2_with fail
  refine wp_loop_rounds 4 ?_
  rw [rounds_succ]
  go_wp2_with fail
  go_region
  have hkp := (((((((Kp.refl (fun j => j = w1.heap.size) (v14)).setCell (ad := ⟨w1.heap.size, 0, none⟩) rfl (Value.bool s1)).setCell (ad := ⟨w1.heap.size, 1, none⟩) rfl (Value.slice a1 p1 c1)).setCell (ad := ⟨w1.heap.size, 2, none⟩) rfl (Value.slice b1 q1 d1)).setCell (ad := ⟨w1.heap.size, 3, none⟩) rfl (Value.bool s2)).setCell (ad := ⟨w1.heap.size, 4, none⟩) rfl (Value.slice a2 p2 c2)).setCell (ad := ⟨w1.heap.size, 5, none⟩) rfl (Value.slice b2 q2 d2))
  have SS_15 := (show Blk (((((((v14.setCell ⟨w1.heap.size, 0, none⟩ (Value.bool s1)).setCell ⟨w1.heap.size, 1, none⟩ (Value.slice a1 p1 c1)).setCell ⟨w1.heap.size, 2, none⟩ (Value.slice b1 q1 d1)).setCell ⟨w1.heap.size, 3, none⟩ (Value.bool s2)).setCell ⟨w1.heap.size, 4, none⟩ (Value.slice a2 p2 c2)).setCell ⟨w1.heap.size, 5, none⟩ (Value.slice b2 q2 d2))) _ #[Value.bool s1, Value.slice a1 p1 c1, Value.slice b1 q1 d1, Value.bool s2, Value.slice a2 p2 c2, Value.slice b2 q2 d2, Value.bool false, Value.slice none 0 0, Value.slice none 0 0, Value.bool false, Value.slice none 0 0, Value.slice none 0 0, Value.bool false, Value.slice none 0 0, Value.slice none 0 0, Value.bool false, Value.slice none 0 0, Value.slice none 0 0] from ((((((SS_14).setCell (i := 0) (v := Value.bool s1) (by simp)).setCell (i := 1) (v := Value.slice a1 p1 c1) (by simp)).setCell (i := 2) (v := Value.slice b1 q1 d1) (by simp)).setCell (i := 3) (v := Value.bool s2) (by simp)).setCell (i := 4) (v := Value.slice a2 p2 c2) (by simp)).setCell (i := 5) (v := Value.slice b2 q2 d2) (by simp))
  have X_15 := X_14.kp hkp (by show ¬ (w.heap.size = w1.heap.size); omega)
  have Y_15 := Y_14.kp hkp (by show ¬ (w.heap.size + 1 = w1.heap.size); omega)
  have Z_15 := Z_14.kp hkp (by show ¬ (w.heap.size + 1 + 1 = w1.heap.size); omega)
  have MM_15 := MM_14.kp hkp (by show ¬ (w1.heap.size + 1 = w1.heap.size); omega)
  have A1_15 := HA1.out.kp_old hlA1 A1_14 hkp (fun b hb => by show ¬ (b = _); omega)
  have A2_15 := HA2.out.kp_old hlA2 A2_14 hkp (fun b hb => by show ¬ (b = _); omega)
  have A3_15 := HA3.out.kp_old hlA3 A3_14 hkp (fun b hb => by show ¬ (b = _); omega)
  have B1_15 := HB1.out.kp_old hlB1 B1_14 hkp (fun b hb => by show ¬ (b = _); omega)
  have B2_15 := HB2.out.kp_old hlB2 B2_14 hkp (fun b hb => by show ¬ (b = _); omega)
  have B3_15 := HB3.out.kp_old hlB3 B3_14 hkp (fun b hb => by show ¬ (b = _); omega)
  have hbel_15 := hbel_14.kp hkp hbel_14.size (fun j hj => by show ¬ (j = w1.heap.size); omega)
  have hsz_15 := hkp.size
  clear hkp
  have cX_15_0 : _ = some (Value.bool s1) := X_15.cell 0
  have fX_15_0 := X_15.free 0
  have cX_15_1 : _ = some (Value.slice a1 p1 c1) := X_15.cell 1
  have fX_15_1 := X_15.free 1
  have cX_15_2 : _ = some (Value.slice b1 q1 d1) := X_15.cell 2
  have fX_15_2 := X_15.free 2
  have cX_15_3 : _ = some (Value.bool s2) := X_15.cell 3
  have fX_15_3 := X_15.free 3
  have cX_15_4 : _ = some (Value.slice a2 p2 c2) := X_15.cell 4
  have fX_15_4 := X_15.free 4
  have cX_15_5 : _ = some (Value.slice b2 q2 d2) := X_15.cell 5
  have fX_15_5 := X_15.free 5
  have cX_15_6 : _ = some (Value.bool s3) := X_15.cell 6
  have fX_15_6 := X_15.free 6
  have cX_15_7 : _ = some (Value.slice a3 p3 c3) := X_15.cell 7
  have fX_15_7 := X_15.free 7
  have cX_15_8 : _ = some (Value.slice b3 q3 d3) := X_15.cell 8
  have fX_15_8 := X_15.free 8
  have cY_15_0 : _ = some (Value.int .i64 u) := Y_15.cell 0
  have cY_15_1 : _ = some (Value.int .i64 v) := Y_15.cell 1
  have cY_15_2 : _ = some (Value.int .i64 z) := Y_15.cell 2
  have cZ_15_0 : _ = some (Value.bool p) := Z_15.cell 0
  have cZ_15_1 : _ = some (Value.bool q) := Z_15.cell 1
  have cZ_15_2 : _ = some (Value.bool r) := Z_15.cell 2
  have cSS_15_0 : _ = some (Value.bool s1) := SS_15.cell 0
  have fSS_15_0 := SS_15.free 0
  have cSS_15_1 : _ = some (Value.slice a1 p1 c1) := SS_15.cell 1
  have fSS_15_1 := SS_15.free 1
  have cSS_15_2 : _ = some (Value.slice b1 q1 d1) := SS_15.cell 2
  have fSS_15_2 := SS_15.free 2
  have cSS_15_3 : _ = some (Value.bool s2) := SS_15.cell 3
  have fSS_15_3 := SS_15.free 3
  have cSS_15_4 : _ = some (Value.slice a2 p2 c2) := SS_15.cell 4
  have fSS_15_4 := SS_15.free 4
  have cSS_15_5 : _ = some (Value.slice b2 q2 d2) := SS_15.cell 5
  have fSS_15_5 := SS_15.free 5
  have cSS_15_6 : _ = some (Value.bool false) := SS_15.cell 6
  have fSS_15_6 := SS_15.free 6
  have cSS_15_7 : _ = some (Value.slice none 0 0) := SS_15.cell 7
  have fSS_15_7 := SS_15.free 7
  have cSS_15_8 : _ = some (Value.slice none 0 0) := SS_15.cell 8
  have fSS_15_8 := SS_15.free 8
  have cSS_15_9 : _ = some (Value.bool false) := SS_15.cell 9
  have fSS_15_9 := SS_15.free 9
  have cSS_15_10 : _ = some (Value.slice none 0 0) := SS_15.cell 10
  have fSS_15_10 := SS_15.free 10
  have cSS_15_11 : _ = some (Value.slice none 0 0) := SS_15.cell 11
  have fSS_15_11 := SS_15.free 11
  have cSS_15_12 : _ = some (Value.bool false) := SS_15.cell 12
  have fSS_15_12 := SS_15.free 12
  have cSS_15_13 : _ = some (Value.slice none 0 0) := SS_15.cell 13
  have fSS_15_13 := SS_15.free 13
  have cSS_15_14 : _ = some (Value.slice none 0 0) := SS_15.cell 14
  have fSS_15_14 := SS_15.free 14
  have cSS_15_15 : _ = some (Value.bool false) := SS_15.cell 15
  have fSS_15_15 := SS_15.free 15
  have cSS_15_16 : _ = some (Value.slice none 0 0) := SS_15.cell 16
  have fSS_15_16 := SS_15.free 16
  have cSS_15_17 : _ = some (Value.slice none 0 0) := SS_15.cell 17
  have fSS_15_17 := SS_15.free 17
  have cMM_15_0 : _ = some (Value.bool false) := MM_15.cell 0
  have fMM_15_0 := MM_15.free 0
  have cMM_15_1 : _ = some (Value.slice a1 p1 c1) := MM_15.cell 1
  have fMM_15_1 := MM_15.free 1
  have cMM_15_2 : _ = some (Value.slice b1 q1 d1) := MM_15.cell 2
  have fMM_15_2 := MM_15.free 2
  have cMM_15_3 : _ = some (Value.bool false) := MM_15.cell 3
  have fMM_15_3 := MM_15.free 3
  have cMM_15_4 : _ = some (Value.slice a2 p2 c2) := MM_15.cell 4
  have fMM_15_4 := MM_15.free 4
  have cMM_15_5 : _ = some (Value.slice b2 q2 d2) := MM_15.cell 5
  have fMM_15_5 := MM_15.free 5
  have cMM_15_6 : _ = some (Value.bool false) := MM_15.cell 6
  have fMM_15_6 := MM_15.free 6
  have cMM_15_7 : _ = some (Value.slice a3 p3 c3) := MM_15.cell 7
  have fMM_15_7 := MM_15.free 7
  have cMM_15_8 : _ = some (Value.slice b3 q3 d3) := MM_15.cell 8
  have fMM_15_8 := MM_15.free 8
  go_wp2_with fail
  clear X_14 Y_14 Z_14 SS_14 MM_14 cX_14_0 fX_14_0 cX_14_1 fX_14_1 cX_14_2 fX_14_2 cX_14_3 fX_14_3 cX_14_4 fX_14_4 cX_14_5 fX_14_5 cX_14_6 fX_14_6 cX_14_7 fX_14_7 cX_14_8 fX_14_8 cY_14_0 cY_14_1 cY_14_2 cZ_14_0 cZ_14_1 cZ_14_2 cSS_14_0 fSS_14_0 cSS_14_1 fSS_14_1 cSS_14_2 fSS_14_2 cSS_14_3 fSS_14_3 cSS_14_4 fSS_14_4 cSS_14_5 fSS_14_5 cSS_14_6 fSS_14_6 cSS_14_7 fSS_14_7 cSS_14_8 fSS_14_8 cSS_14_9 fSS_14_9 cSS_14_10 fSS_14_10 cSS_14_11 fSS_14_11 cSS_14_12 fSS_14_12 cSS_14_13 fSS_14_13 cSS_14_14 fSS_14_14 cSS_14_15 fSS_14_15 cSS_14_16 fSS_14_16 cSS_14_17 fSS_14_17 cMM_14_0 fMM_14_0 cMM_14_1 fMM_14_1 cMM_14_2 fMM_14_2 cMM_14_3 fMM_14_3 cMM_14_4 fMM_14_4 cMM_14_5 fMM_14_5 cMM_14_6 fMM_14_6 cMM_14_7 fMM_14_7 cMM_14_8 fMM_14_8 A1_14 A2_14 A3_14 B1_14 B2_14 B3_14 hbel_14
  generalize ((((((v14.setCell ⟨w1.heap.size, 0, none⟩ (Value.bool s1)).setCell ⟨w1.heap.size, 1, none⟩ (Value.slice a1 p1 c1)).setCell ⟨w1.heap.size, 2, none⟩ (Value.slice b1 q1 d1)).setCell ⟨w1.heap.size, 3, none⟩ (Value.bool s2)).setCell ⟨w1.heap.size, 4, none⟩ (Value.slice a2 p2 c2)).setCell ⟨w1.heap.size, 5, none⟩ (Value.slice b2 q2 d2)) = v15 at *
  rw [rounds_succ]
  go_wp2_with fail
  go_region
  have hkp := (((((((Kp.refl (fun j => j = w1.heap.size) (v15)).setCell (ad := ⟨w1.heap.size, 6, none⟩) rfl (Value.bool s2)).setCell (ad := ⟨w1.heap.size, 7, none⟩) rfl (Value.slice a2 p2 c2)).setCell (ad := ⟨w1.heap.size, 8, none⟩) rfl (Value.slice b2 q2 d2)).setCell (ad := ⟨w1.heap.size, 9, none⟩) rfl (Value.bool s3)).setCell (ad := ⟨w1.heap.size, 10, none⟩) rfl (Value.slice a3 p3 c3)).setCell (ad := ⟨w1.heap.size, 11, none⟩) rfl (Value.slice b3 q3 d3))
  have SS_16 := (show Blk (((((((v15.setCell ⟨w1.heap.size, 6, none⟩ (Value.bool s2)).setCell ⟨w1.heap.size, 7, none⟩ (Value.slice a2 p2 c2)).setCell ⟨w1.heap.size, 8, none⟩ (Value.slice b2 q2 d2)).setCell ⟨w1.heap.size, 9, none⟩ (Value.bool s3)).setCell ⟨w1.heap.size, 10, none⟩ (Value.slice a3 p3 c3)).setCell ⟨w1.heap.size, 11, none⟩ (Value.slice b3 q3 d3))) _ #[Value.bool s1, Value.slice a1 p1 c1, Value.slice b1 q1 d1, Value.bool s2, Value.slice a2 p2 c2, Value.slice b2 q2 d2, Value.bool s2, Value.slice a2 p2 c2, Value.slice b2 q2 d2, Value.bool s3, Value.slice a3 p3 c3, Value.slice b3 q3 d3, Value.bool false, Value.slice none 0 0, Value.slice none 0 0, Value.bool false, Value.slice none 0 0, Value.slice none 0 0] from ((((((SS_15).setCell (i := 6) (v := Value.bool s2) (by simp)).setCell (i := 7) (v := Value.slice a2 p2 c2) (by simp)).setCell (i := 8) (v := Value.slice b2 q2 d2) (by simp)).setCell (i := 9) (v := Value.bool s3) (by simp)).setCell (i := 10) (v := Value.slice a3 p3 c3) (by simp)).setCell (i := 11) (v := Value.slice b3 q3 d3) (by simp))
  have X_16 := X_15.kp hkp (by show ¬ (w.heap.size = w1.heap.size); omega)
  have Y_16 := Y_15.kp hkp (by show ¬ (w.heap.size + 1 = w1.heap.size); omega)
  have Z_16 := Z_15.kp hkp (by show ¬ (w.heap.size + 1 + 1 = w1.heap.size); omega)
  have MM_16 := MM_15.kp hkp (by show ¬ (w1.heap.size + 1 = w1.heap.size); omega)
  have A1_16 := HA1.out.kp_old hlA1 A1_15 hkp (fun b hb => by show ¬ (b = _); omega)
  have A2_16 := HA2.out.kp_old hlA2 A2_15 hkp (fun b hb => by show ¬ (b = _); omega)
  have A3_16 := HA3.out.kp_old hlA3 A3_15 hkp (fun b hb => by show ¬ (b = _); omega)
  have B1_16 := HB1.out.kp_old hlB1 B1_15 hkp (fun b hb => by show ¬ (b = _); omega)
  have B2_16 := HB2.out.kp_old hlB2 B2_15 hkp (fun b hb => by show ¬ (b = _); omega)
  have B3_16 := HB3.out.kp_old hlB3 B3_15 hkp (fun b hb => by show ¬ (b = _); omega)
  have hbel_16 := hbel_15.kp hkp hbel_15.size (fun j hj => by show ¬ (j = w1.heap.size); omega)
  have hsz_16 := hkp.size
  clear hkp
  have cX_16_0 : _ = some (Value.bool s1) := X_16.cell 0
  have fX_16_0 := X_16.free 0
  have cX_16_1 : _ = some (Value.slice a1 p1 c1) := X_16.cell 1
  have fX_16_1 := X_16.free 1
  have cX_16_2 : _ = some (Value.slice b1 q1 d1) := X_16.cell 2
  have fX_16_2 := X_16.free 2
  have cX_16_3 : _ = some (Value.bool s2) := X_16.cell 3
  have fX_16_3 := X_16.free 3
  have cX_16_4 : _ = some (Value.slice a2 p2 c2) := X_16.cell 4
  have fX_16_4 := X_16.free 4
  have cX_16_5 : _ = some (Value.slice b2 q2 d2) := X_16.cell 5
  have fX_16_5 := X_16.free 5
  have cX_16_6 : _ = some (Value.bool s3) := X_16.cell 6
  have fX_16_6 := X_16.free 6
  have cX_16_7 : _ = some (Value.slice a3 p3 c3) := X_16.cell 7
  have fX_16_7 := X_16.free 7
  have cX_16_8 : _ = some (Value.slice b3 q3 d3) := X_16.cell 8
  have fX_16_8 := X_16.free 8
  have cY_16_0 : _ = some (Value.int .i64 u) := Y_16.cell 0
  have cY_16_1 : _ = some (Value.int .i64 v) := Y_16.cell 1
  have cY_16_2 : _ = some (Value.int .i64 z) := Y_16.cell 2
  have cZ_16_0 : _ = some (Value.bool p) := Z_16.cell 0
  have cZ_16_1 : _ = some (Value.bool q) := Z_16.cell 1
  have cZ_16_2 : _ = some (Value.bool r) := Z_16.cell 2
  have cSS_16_0 : _ = some (Value.bool s1) := SS_16.cell 0
  have fSS_16_0 := SS_16.free 0
  have cSS_16_1 : _ = some (Value.slice a1 p1 c1) := SS_16.cell 1
  have fSS_16_1 := SS_16.free 1
  have cSS_16_2 : _ = some (Value.slice b1 q1 d1) := SS_16.cell 2
  have fSS_16_2 := SS_16.free 2
  have cSS_16_3 : _ = some (Value.bool s2) := SS_16.cell 3
  have fSS_16_3 := SS_16.free 3
  have cSS_16_4 : _ = some (Value.slice a2 p2 c2) := SS_16.cell 4
  have fSS_16_4 := SS_16.free 4
  have cSS_16_5 : _ = some (Value.slice b2 q2 d2) := SS_16.cell 5
  have fSS_16_5 := SS_16.free 5
  have cSS_16_6 : _ = some (Value.bool s2) := SS_16.cell 6
  have fSS_16_6 := SS_16.free 6
  have cSS_16_7 : _ = some (Value.slice a2 p2 c2) := SS_16.cell 7
  have fSS_16_7 := SS_16.free 7
  have cSS_16_8 : _ = some (Value.slice b2 q2 d2) := SS_16.cell 8
  have fSS_16_8 := SS_16.free 8
  have cSS_16_9 : _ = some (Value.bool s3) := SS_16.cell 9
  have fSS_16_9 := SS_16.free 9
  have cSS_16_10 : _ = some (Value.slice a3 p3 c3) := SS_16.cell 10
  have fSS_16_10 := SS_16.free 10
  have cSS_16_11 : _ = some (Value.slice b3 q3 d3) := SS_16.cell 11
  have fSS_16_11 := SS_16.free 11
  have cSS_16_12 : _ = some (Value.bool false) := SS_16.cell 12
  have fSS_16_12 := SS_16.free 12
  have cSS_16_13 : _ = some (Value.slice none 0 0) := SS_16.cell 13
  have fSS_16_13 := SS_16.free 13
  have cSS_16_14 : _ = some (Value.slice none 0 0) := SS_16.cell 14
  have fSS_16_14 := SS_16.free 14
  have cSS_16_15 : _ = some (Value.bool false) := SS_16.cell 15
  have fSS_16_15 := SS_16.free 15
  have cSS_16_16 : _ = some (Value.slice none 0 0) := SS_16.cell 16
  have fSS_16_16 := SS_16.free 16
  have cSS_16_17 : _ = some (Value.slice none 0 0) := SS_16.cell 17
  have fSS_16_17 := SS_16.free 17
  have cMM_16_0 : _ = some (Value.bool false) := MM_16.cell 0
  have fMM_16_0 := MM_16.free 0
  have cMM_16_1 : _ = some (Value.slice a1 p1 c1) := MM_16.cell 1
  have fMM_16_1 := MM_16.free 1
  have cMM_16_2 : _ = some (Value.slice b1 q1 d1) := MM_16.cell 2
  have fMM_16_2 := MM_16.free 2
  have cMM_16_3 : _ = some (Value.bool false) := MM_16.cell 3
  have fMM_16_3 := MM_16.free 3
  have cMM_16_4 : _ = some (Value.slice a2 p2 c2) := MM_16.cell 4
  have fMM_16_4 := MM_16.free 4
  have cMM_16_5 : _ = some (Value.slice b2 q2 d2) := MM_16.cell 5
  have fMM_16_5 := MM_16.free 5
  have cMM_16_6 : _ = some (Value.bool false) := MM_16.cell 6
  have fMM_16_6 := MM_16.free 6
  have cMM_16_7 : _ = some (Value.slice a3 p3 c3) := MM_16.cell 7
  have fMM_16_7 := MM_16.free 7
  have cMM_16_8 : _ = some (Value.slice b3 q3 d3) := MM_16.cell 8
  have fMM_16_8 := MM_16.free 8
  go_wp2_with fail
  clear X_15 Y_15 Z_15 SS_15 MM_15 cX_15_0 fX_15_0 cX_15_1 fX_15_1 cX_15_2 fX_15_2 cX_15_3 fX_15_3 cX_15_4 fX_15_4 cX_15_5 fX_15_5 cX_15_6 fX_15_6 cX_15_7 fX_15_7 cX_15_8 fX_15_8 cY_15_0 cY_15_1 cY_15_2 cZ_15_0 cZ_15_1 cZ_15_2 cSS_15_0 fSS_15_0 cSS_15_1 fSS_15_1 cSS_15_2 fSS_15_2 cSS_15_3 fSS_15_3 cSS_15_4 fSS_15_4 cSS_15_5 fSS_15_5 cSS_15_6 fSS_15_6 cSS_15_7 fSS_15_7 cSS_15_8 fSS_15_8 cSS_15_9 fSS_15_9 cSS_15_10 fSS_15_10 cSS_15_11 fSS_15_11 cSS_15_12 fSS_15_12 cSS_15_13 fSS_15_13 cSS_15_14 fSS_15_14 cSS_15_15 fSS_15_15 cSS_15_16 fSS_15_16 cSS_15_17 fSS_15_17 cMM_15_0 fMM_15_0 cMM_15_1 fMM_15_1 cMM_15_2 fMM_15_2 cMM_15_3 fMM_15_3 cMM_15_4 fMM_15_4 cMM_15_5 fMM_15_5 cMM_15_6 fMM_15_6 cMM_15_7 fMM_15_7 cMM_15_8 fMM_15_8 A1_15 A2_15 A3_15 B1_15 B2_15 B3_15 hbel_15
  generalize ((((((v15.setCell ⟨w1.heap.size, 6, none⟩ (Value.bool s2)).setCell ⟨w1.heap.size, 7, none⟩ (Value.slice a2 p2 c2)).setCell ⟨w1.heap.size, 8, none⟩ (Value.slice b2 q2 d2)).setCell ⟨w1.heap.size, 9, none⟩ (Value.bool s3)).setCell ⟨w1.heap.size, 10, none⟩ (Value.slice a3 p3 c3)).setCell ⟨w1.heap.size, 11, none⟩ (Value.slice b3 q3 d3)) = v16 at *
  rw [rounds_succ]
  go_wp2_with fail
  go_region
  have hkp := (((((((Kp.refl (fun j => j = w1.heap.size) (v16)).setCell (ad := ⟨w1.heap.size, 12, none⟩) rfl (Value.bool s3)).setCell (ad := ⟨w1.heap.size, 13, none⟩) rfl (Value.slice a3 p3 c3)).setCell (ad := ⟨w1.heap.size, 14, none⟩) rfl (Value.slice b3 q3 d3)).setCell (ad := ⟨w1.heap.size, 15, none⟩) rfl (Value.bool s1)).setCell (ad := ⟨w1.heap.size, 16, none⟩) rfl (Value.slice a1 p1 c1)).setCell (ad := ⟨w1.heap.size, 17, none⟩) rfl (Value.slice b1 q1 d1))
  have SS_17 := (show Blk (((((((v16.setCell ⟨w1.heap.size, 12, none⟩ (Value.bool s3)).setCell ⟨w1.heap.size, 13, none⟩ (Value.slice a3 p3 c3)).setCell ⟨w1.heap.size, 14, none⟩ (Value.slice b3 q3 d3)).setCell ⟨w1.heap.size, 15, none⟩ (Value.bool s1)).setCell ⟨w1.heap.size, 16, none⟩ (Value.slice a1 p1 c1)).setCell ⟨w1.heap.size, 17, none⟩ (Value.slice b1 q1 d1))) _ #[Value.bool s1, Value.slice a1 p1 c1, Value.slice b1 q1 d1, Value.bool s2, Value.slice a2 p2 c2, Value.slice b2 q2 d2, Value.bool s2, Value.slice a2 p2 c2, Value.slice b2 q2 d2, Value.bool s3, Value.slice a3 p3 c3, Value.slice b3 q3 d3, Value.bool s3, Value.slice a3 p3 c3, Value.slice b3 q3 d3, Value.bool s1, Value.slice a1 p1 c1, Value.slice b1 q1 d1] from ((((((SS_16).setCell (i := 12) (v := Value.bool s3) (by simp)).setCell (i := 13) (v := Value.slice a3 p3 c3) (by simp)).setCell (i := 14) (v := Value.slice b3 q3 d3) (by simp)).setCell (i := 15) (v := Value.bool s1) (by simp)).setCell (i := 16) (v := Value.slice a1 p1 c1) (by simp)).setCell (i := 17) (v := Value.slice b1 q1 d1) (by simp))
  have X_17 := X_16.kp hkp (by show ¬ (w.heap.size = w1.heap.size); omega)
  have Y_17 := Y_16.kp hkp (by show ¬ (w.heap.size + 1 = w1.heap.size); omega)
  have Z_17 := Z_16.kp hkp (by show ¬ (w.heap.size + 1 + 1 = w1.heap.size); omega)
  have MM_17 := MM_16.kp hkp (by show ¬ (w1.heap.size + 1 = w1.heap.size); omega)
  have A1_17 := HA1.out.kp_old hlA1 A1_16 hkp (fun b hb => by show ¬ (b = _); omega)
  have A2_17 := HA2.out.kp_old hlA2 A2_16 hkp (fun b hb => by show ¬ (b = _); omega)
  have A3_17 := HA3.out.kp_old hlA3 A3_16 hkp (fun b hb => by show ¬ (b = _); omega)
  have B1_17 := HB1.out.kp_old hlB1 B1_16 hkp (fun b hb => by show ¬ (b = _); omega)
  have B2_17 := HB2.out.kp_old hlB2 B2_16 hkp (fun b hb => by show ¬ (b = _); omega)
  have B3_17 := HB3.out.kp_old hlB3 B3_16 hkp (fun b hb => by show ¬ (b = _); omega)
  have hbel_17 := hbel_16.kp hkp hbel_16.size (fun j hj => by show ¬ (j = w1.heap.size); omega)
  have hsz_17 := hkp.size
  clear hkp
  have cX_17_0 : _ = some (Value.bool s1) := X_17.cell 0
  have fX_17_0 := X_17.free 0
  have cX_17_1 : _ = some (Value.slice a1 p1 c1) := X_17.cell 1
  have fX_17_1 := X_17.free 1
  have cX_17_2 : _ = some (Value.slice b1 q1 d1) := X_17.cell 2
  have fX_17_2 := X_17.free 2
  have cX_17_3 : _ = some (Value.bool s2) := X_17.cell 3
  have fX_17_3 := X_17.free 3
  have cX_17_4 : _ = some (Value.slice a2 p2 c2) := X_17.cell 4
  have fX_17_4 := X_17.free 4
  have cX_17_5 : _ = some (Value.slice b2 q2 d2) := X_17.cell 5
  have fX_17_5 := X_17.free 5
  have cX_17_6 : _ = some (Value.bool s3) := X_17.cell 6
  have fX_17_6 := X_17.free 6
  have cX_17_7 : _ = some (Value.slice a3 p3 c3) := X_17.cell 7
  have fX_17_7 := X_17.free 7
  have cX_17_8 : _ = some (Value.slice b3 q3 d3) := X_17.cell 8
  have fX_17_8 := X_17.free 8
  have cY_17_0 : _ = some (Value.int .i64 u) := Y_17.cell 0
  have cY_17_1 : _ = some (Value.int .i64 v) := Y_17.cell 1
  have cY_17_2 : _ = some (Value.int .i64 z) := Y_17.cell 2
  have cZ_17_0 : _ = some (Value.bool p) := Z_17.cell 0
  have cZ_17_1 : _ = some (Value.bool q) := Z_17.cell 1
  have cZ_17_2 : _ = some (Value.bool r) := Z_17.cell 2
  have cSS_17_0 : _ = some (Value.bool s1) := SS_17.cell 0
  have fSS_17_0 := SS_17.free 0
  have cSS_17_1 : _ = some (Value.slice a1 p1 c1) := SS_17.cell 1
  have fSS_17_1 := SS_17.free 1
  have cSS_17_2 : _ = some (Value.slice b1 q1 d1) := SS_17.cell 2
  have fSS_17_2 := SS_17.free 2
  have cSS_17_3 : _ = some (Value.bool s2) := SS_17.cell 3
  have fSS_17_3 := SS_17.free 3
  have cSS_17_4 : _ = some (Value.slice a2 p2 c2) := SS_17.cell 4
  have fSS_17_4 := SS_17.free 4
  have cSS_17_5 : _ = some (Value.slice b2 q2 d2) := SS_17.cell 5
  have fSS_17_5 := SS_17.free 5
  have cSS_17_6 : _ = some (Value.bool s2) := SS_17.cell 6
  have fSS_17_6 := SS_17.free 6
  have cSS_17_7 : _ = some (Value.slice a2 p2 c2) := SS_17.cell 7
  have fSS_17_7 := SS_17.free 7
  have cSS_17_8 : _ = some (Value.slice b2 q2 d2) := SS_17.cell 8
  have fSS_17_8 := SS_17.free 8
  have cSS_17_9 : _ = some (Value.bool s3) := SS_17.cell 9
  have fSS_17_9 := SS_17.free 9
  have cSS_17_10 : _ = some (Value.slice a3 p3 c3) := SS_17.cell 10
  have fSS_17_10 := SS_17.free 10
  have cSS_17_11 : _ = some (Value.slice b3 q3 d3) := SS_17.cell 11
  have fSS_17_11 := SS_17.free 11
  have cSS_17_12 : _ = some (Value.bool s3) := SS_17.cell 12
  have fSS_17_12 := SS_17.free 12
  have cSS_17_13 : _ = some (Value.slice a3 p3 c3) := SS_17.cell 13
  have fSS_17_13 := SS_17.free 13
  have cSS_17_14 : _ = some (Value.slice b3 q3 d3) := SS_17.cell 14
  have fSS_17_14 := SS_17.free 14
  have cSS_17_15 : _ = some (Value.bool s1) := SS_17.cell 15
  have fSS_17_15 := SS_17.free 15
  have cSS_17_16 : _ = some (Value.slice a1 p1 c1) := SS_17.cell 16
  have fSS_17_16 := SS_17.free 16
  have cSS_17_17 : _ = some (Value.slice b1 q1 d1) := SS_17.cell 17
  have fSS_17_17 := SS_17.free 17
  have cMM_17_0 : _ = some (Value.bool false) := MM_17.cell 0
  have fMM_17_0 := MM_17.free 0
  have cMM_17_1 : _ = some (Value.slice a1 p1 c1) := MM_17.cell 1
  have fMM_17_1 := MM_17.free 1
  have cMM_17_2 : _ = some (Value.slice b1 q1 d1) := MM_17.cell 2
  have fMM_17_2 := MM_17.free 2
  have cMM_17_3 : _ = some (Value.bool false) := MM_17.cell 3
  have fMM_17_3 := MM_17.free 3
  have cMM_17_4 : _ = some (Value.slice a2 p2 c2) := MM_17.cell 4
  have fMM_17_4 := MM_17.free 4
  have cMM_17_5 : _ = some (Value.slice b2 q2 d2) := MM_17.cell 5
  have fMM_17_5 := MM_17.free 5
  have cMM_17_6 : _ = some (Value.bool false) := MM_17.cell 6
  have fMM_17_6 := MM_17.free 6
  have cMM_17_7 : _ = some (Value.slice a3 p3 c3) := MM_17.cell 7
  have fMM_17_7 := MM_17.free 7
  have cMM_17_8 : _ = some (Value.slice b3 q3 d3) := MM_17.cell 8
  have fMM_17_8 := MM_17.free 8
  go_wp2_with fail
  clear X_16 Y_16 Z_16 SS_16 MM_16 cX_16_0 fX_16_0 cX_16_1 fX_16_1 cX_16_2 fX_16_2 cX_16_3 fX_16_3 cX_16_4 fX_16_4 cX_16_5 fX_16_5 cX_16_6 fX_16_6 cX_16_7 fX_16_7 cX_16_8 fX_16_8 cY_16_0 cY_16_1 cY_16_2 cZ_16_0 cZ_16_1 cZ_16_2 cSS_16_0 fSS_16_0 cSS_16_1 fSS_16_1 cSS_16_2 fSS_16_2 cSS_16_3 fSS_16_3 cSS_16_4 fSS_16_4 cSS_16_5 fSS_16_5 cSS_16_6 fSS_16_6 cSS_16_7 fSS_16_7 cSS_16_8 fSS_16_8 cSS_16_9 fSS_16_9 cSS_16_10 fSS_16_10 cSS_16_11 fSS_16_11 cSS_16_12 fSS_16_12 cSS_16_13 fSS_16_13 cSS_16_14 fSS_16_14 cSS_16_15 fSS_16_15 cSS_16_16 fSS_16_16 cSS_16_17 fSS_16_17 cMM_16_0 fMM_16_0 cMM_16_1 fMM_16_1 cMM_16_2 fMM_16_2 cMM_16_3 fMM_16_3 cMM_16_4 fMM_16_4 cMM_16_5 fMM_16_5 cMM_16_6 fMM_16_6 cMM_16_7 fMM_16_7 cMM_16_8 fMM_16_8 A1_16 A2_16 A3_16 B1_16 B2_16 B3_16 hbel_16
  generalize ((((((v16.setCell ⟨w1.heap.size, 12, none⟩ (Value.bool s3)).setCell ⟨w1.heap.size, 13, none⟩ (Value.slice a3 p3 c3)).setCell ⟨w1.heap.size, 14, none⟩ (Value.slice b3 q3 d3)).setCell ⟨w1.heap.size, 15, none⟩ (Value.bool s1)).setCell ⟨w1.heap.size, 16, none⟩ (Value.slice a1 p1 c1)).setCell ⟨w1.heap.size, 17, none⟩ (Value.slice b1 q1 d1)) = v17 at *
  rw [rounds_succ]
  go_wp2_with fail
  have hB_18 : Below v17.heap.size v17 v17.drew.drew.drew := (show Below v17.heap.size v17 (v17.drew.drew.drew) from ⟨rfl, rfl, rfl, Nat.le_refl _, fun _ _ => rfl⟩)
  have X_18 := X_17.next hB_18
  have cX_18_0 : _ = some (Value.bool s1) := X_18.cell 0
  have fX_18_0 := X_18.free 0
  have cX_18_1 : _ = some (Value.slice a1 p1 c1) := X_18.cell 1
  have fX_18_1 := X_18.free 1
  have cX_18_2 : _ = some (Value.slice b1 q1 d1) := X_18.cell 2
  have fX_18_2 := X_18.free 2
  have cX_18_3 : _ = some (Value.bool s2) := X_18.cell 3
  have fX_18_3 := X_18.free 3
  have cX_18_4 : _ = some (Value.slice a2 p2 c2) := X_18.cell 4
  have fX_18_4 := X_18.free 4
  have cX_18_5 : _ = some (Value.slice b2 q2 d2) := X_18.cell 5
  have fX_18_5 := X_18.free 5
  have cX_18_6 : _ = some (Value.bool s3) := X_18.cell 6
  have fX_18_6 := X_18.free 6
  have cX_18_7 : _ = some (Value.slice a3 p3 c3) := X_18.cell 7
  have fX_18_7 := X_18.free 7
  have cX_18_8 : _ = some (Value.slice b3 q3 d3) := X_18.cell 8
  have fX_18_8 := X_18.free 8
  have Y_18 := Y_17.next hB_18
  have cY_18_0 : _ = some (Value.int .i64 u) := Y_18.cell 0
  have cY_18_1 : _ = some (Value.int .i64 v) := Y_18.cell 1
  have cY_18_2 : _ = some (Value.int .i64 z) := Y_18.cell 2
  have Z_18 := Z_17.next hB_18
  have cZ_18_0 : _ = some (Value.bool p) := Z_18.cell 0
  have cZ_18_1 : _ = some (Value.bool q) := Z_18.cell 1
  have cZ_18_2 : _ = some (Value.bool r) := Z_18.cell 2
  have SS_18 := SS_17.next hB_18
  have cSS_18_0 : _ = some (Value.bool s1) := SS_18.cell 0
  have fSS_18_0 := SS_18.free 0
  have cSS_18_1 : _ = some (Value.slice a1 p1 c1) := SS_18.cell 1
  have fSS_18_1 := SS_18.free 1
  have cSS_18_2 : _ = some (Value.slice b1 q1 d1) := SS_18.cell 2
  have fSS_18_2 := SS_18.free 2
  have cSS_18_3 : _ = some (Value.bool s2) := SS_18.cell 3
  have fSS_18_3 := SS_18.free 3
  have cSS_18_4 : _ = some (Value.slice a2 p2 c2) := SS_18.cell 4
  have fSS_18_4 := SS_18.free 4
  have cSS_18_5 : _ = some (Value.slice b2 q2 d2) := SS_18.cell 5
  have fSS_18_5 := SS_18.free 5
  have cSS_18_6 : _ = some (Value.bool s2) := SS_18.cell 6
  have fSS_18_6 := SS_18.free 6
  have cSS_18_7 : _ = some (Value.slice a2 p2 c2) := SS_18.cell 7
  have fSS_18_7 := SS_18.free 7
  have cSS_18_8 : _ = some (Value.slice b2 q2 d2) := SS_18.cell 8
  have fSS_18_8 := SS_18.free 8
  have cSS_18_9 : _ = some (Value.bool s3) := SS_18.cell 9
  have fSS_18_9 := SS_18.free 9
  have cSS_18_10 : _ = some (Value.slice a3 p3 c3) := SS_18.cell 10
  have fSS_18_10 := SS_18.free 10
  have cSS_18_11 : _ = some (Value.slice b3 q3 d3) := SS_18.cell 11
  have fSS_18_11 := SS_18.free 11
  have cSS_18_12 : _ = some (Value.bool s3) := SS_18.cell 12
  have fSS_18_12 := SS_18.free 12
  have cSS_18_13 : _ = some (Value.slice a3 p3 c3) := SS_18.cell 13
  have fSS_18_13 := SS_18.free 13
  have cSS_18_14 : _ = some (Value.slice b3 q3 d3) := SS_18.cell 14
  have fSS_18_14 := SS_18.free 14
  have cSS_18_15 : _ = some (Value.bool s1) := SS_18.cell 15
  have fSS_18_15 := SS_18.free 15
  have cSS_18_16 : _ = some (Value.slice a1 p1 c1) := SS_18.cell 16
  have fSS_18_16 := SS_18.free 16
  have cSS_18_17 : _ = some (Value.slice b1 q1 d1) := SS_18.cell 17
  have fSS_18_17 := SS_18.free 17
  have MM_18 := MM_17.next hB_18
  have cMM_18_0 : _ = some (Value.bool false) := MM_18.cell 0
  have fMM_18_0 := MM_18.free 0
  have cMM_18_1 : _ = some (Value.slice a1 p1 c1) := MM_18.cell 1
  have fMM_18_1 := MM_18.free 1
  have cMM_18_2 : _ = some (Value.slice b1 q1 d1) := MM_18.cell 2
  have fMM_18_2 := MM_18.free 2
  have cMM_18_3 : _ = some (Value.bool false) := MM_18.cell 3
  have fMM_18_3 := MM_18.free 3
  have cMM_18_4 : _ = some (Value.slice a2 p2 c2) := MM_18.cell 4
  have fMM_18_4 := MM_18.free 4
  have cMM_18_5 : _ = some (Value.slice b2 q2 d2) := MM_18.cell 5
  have fMM_18_5 := MM_18.free 5
  have cMM_18_6 : _ = some (Value.bool false) := MM_18.cell 6
  have fMM_18_6 := MM_18.free 6
  have cMM_18_7 : _ = some (Value.slice a3 p3 c3) := MM_18.cell 7
  have fMM_18_7 := MM_18.free 7
  have cMM_18_8 : _ = some (Value.slice b3 q3 d3) := MM_18.cell 8
  have fMM_18_8 := MM_18.free 8
  have A1_18 := A1_17.below hB_18
  have A2_18 := A2_17.below hB_18
  have A3_18 := A3_17.below hB_18
  have B1_18 := B1_17.below hB_18
  have B2_18 := B2_17.below hB_18
  have B3_18 := B3_17.below hB_18
  have hbel_18 := hbel_17.next hB_18
  have hsz_18 := hB_18.size
  clear X_17 cX_17_0 fX_17_0 cX_17_1 fX_17_1 cX_17_2 fX_17_2 cX_17_3 fX_17_3 cX_17_4 fX_17_4 cX_17_5 fX_17_5 cX_17_6 fX_17_6 cX_17_7 fX_17_7 cX_17_8 fX_17_8 Y_17 cY_17_0 cY_17_1 cY_17_2 Z_17 cZ_17_0 cZ_17_1 cZ_17_2 SS_17 cSS_17_0 fSS_17_0 cSS_17_1 fSS_17_1 cSS_17_2 fSS_17_2 cSS_17_3 fSS_17_3 cSS_17_4 fSS_17_4 cSS_17_5 fSS_17_5 cSS_17_6 fSS_17_6 cSS_17_7 fSS_17_7 cSS_17_8 fSS_17_8 cSS_17_9 fSS_17_9 cSS_17_10 fSS_17_10 cSS_17_11 fSS_17_11 cSS_17_12 fSS_17_12 cSS_17_13 fSS_17_13 cSS_17_14 fSS_17_14 cSS_17_15 fSS_17_15 cSS_17_16 fSS_17_16 cSS_17_17 fSS_17_17 MM_17 cMM_17_0 fMM_17_0 cMM_17_1 fMM_17_1 cMM_17_2 fMM_17_2 cMM_17_3 fMM_17_3 cMM_17_4 fMM_17_4 cMM_17_5 fMM_17_5 cMM_17_6 fMM_17_6 cMM_17_7 fMM_17_7 cMM_17_8 fMM_17_8 A1_17 A2_17 A3_17 B1_17 B2_17 B3_17 hbel_17 hB_18
  generalize v17.drew.drew.drew = vd at *
  have Q1_18 := rdq_of (K := 6) s1 A1_18 hp1 B1_18 hq1
  have N1_18 := rdq_of (K := 6) false A1_18 hp1 B1_18 hq1
  have nn1 := hid (qv_false_nn (val l1) (val k1))
  have Q2_18 := rdq_of (K := 6) s2 A2_18 hp2 B2_18 hq2
  have N2_18 := rdq_of (K := 6) false A2_18 hp2 B2_18 hq2
  have nn2 := hid (qv_false_nn (val l2) (val k2))
  have Q3_18 := rdq_of (K := 6) s3 A3_18 hp3 B3_18 hq3
  have N3_18 := rdq_of (K := 6) false A3_18 hp3 B3_18 hq3
  have nn3 := hid (qv_false_nn (val l3) (val k3))
  clear HA1 HB1 HA2 HB2 HA3 HB3
  clear A1_18
  clear B1_18
  clear A2_18
  clear B2_18
  clear A3_18
  clear B3_18
  refine (klrats Q1_18 Q2_18 Q3_18).mono ?_
  rintro e w19 ⟨rfl, hB⟩
  have hB_19 : Below vd.heap.size vd w19 := (bl.next hB)
  have X_19 := X_18.next hB_19
  have cX_19_0 : _ = some (Value.bool s1) := X_19.cell 0
  have fX_19_0 := X_19.free 0
  have cX_19_1 : _ = some (Value.slice a1 p1 c1) := X_19.cell 1
  have fX_19_1 := X_19.free 1
  have cX_19_2 : _ = some (Value.slice b1 q1 d1) := X_19.cell 2
  have fX_19_2 := X_19.free 2
  have cX_19_3 : _ = some (Value.bool s2) := X_19.cell 3
  have fX_19_3 := X_19.free 3
  have cX_19_4 : _ = some (Value.slice a2 p2 c2) := X_19.cell 4
  have fX_19_4 := X_19.free 4
  have cX_19_5 : _ = some (Value.slice b2 q2 d2) := X_19.cell 5
  have fX_19_5 := X_19.free 5
  have cX_19_6 : _ = some (Value.bool s3) := X_19.cell 6
  have fX_19_6 := X_19.free 6
  have cX_19_7 : _ = some (Value.slice a3 p3 c3) := X_19.cell 7
  have fX_19_7 := X_19.free 7
  have cX_19_8 : _ = some (Value.slice b3 q3 d3) := X_19.cell 8
  have fX_19_8 := X_19.free 8
  have Y_19 := Y_18.next hB_19
  have cY_19_0 : _ = some (Value.int .i64 u) := Y_19.cell 0
  have cY_19_1 : _ = some (Value.int .i64 v) := Y_19.cell 1
  have cY_19_2 : _ = some (Value.int .i64 z) := Y_19.cell 2
  have Z_19 := Z_18.next hB_19
  have cZ_19_0 : _ = some (Value.bool p) := Z_19.cell 0
  have cZ_19_1 : _ = some (Value.bool q) := Z_19.cell 1
  have cZ_19_2 : _ = some (Value.bool r) := Z_19.cell 2
  have SS_19 := SS_18.next hB_19
  have cSS_19_0 : _ = some (Value.bool s1) := SS_19.cell 0
  have fSS_19_0 := SS_19.free 0
  have cSS_19_1 : _ = some (Value.slice a1 p1 c1) := SS_19.cell 1
  have fSS_19_1 := SS_19.free 1
  have cSS_19_2 : _ = some (Value.slice b1 q1 d1) := SS_19.cell 2
  have fSS_19_2 := SS_19.free 2
  have cSS_19_3 : _ = some (Value.bool s2) := SS_19.cell 3
  have fSS_19_3 := SS_19.free 3
  have cSS_19_4 : _ = some (Value.slice a2 p2 c2) := SS_19.cell 4
  have fSS_19_4 := SS_19.free 4
  have cSS_19_5 : _ = some (Value.slice b2 q2 d2) := SS_19.cell 5
  have fSS_19_5 := SS_19.free 5
  have cSS_19_6 : _ = some (Value.bool s2) := SS_19.cell 6
  have fSS_19_6 := SS_19.free 6
  have cSS_19_7 : _ = some (Value.slice a2 p2 c2) := SS_19.cell 7
  have fSS_19_7 := SS_19.free 7
  have cSS_19_8 : _ = some (Value.slice b2 q2 d2) := SS_19.cell 8
  have fSS_19_8 := SS_19.free 8
  have cSS_19_9 : _ = some (Value.bool s3) := SS_19.cell 9
  have fSS_19_9 := SS_19.free 9
  have cSS_19_10 : _ = some (Value.slice a3 p3 c3) := SS_19.cell 10
  have fSS_19_10 := SS_19.free 10
  have cSS_19_11 : _ = some (Value.slice b3 q3 d3) := SS_19.cell 11
  have fSS_19_11 := SS_19.free 11
  have cSS_19_12 : _ = some (Value.bool s3) := SS_19.cell 12
  have fSS_19_12 := SS_19.free 12
  have cSS_19_13 : _ = some (Value.slice a3 p3 c3) := SS_19.cell 13
  have fSS_19_13 := SS_19.free 13
  have cSS_19_14 : _ = some (Value.slice b3 q3 d3) := SS_19.cell 14
  have fSS_19_14 := SS_19.free 14
  have cSS_19_15 : _ = some (Value.bool s1) := SS_19.cell 15
  have fSS_19_15 := SS_19.free 15
  have cSS_19_16 : _ = some (Value.slice a1 p1 c1) := SS_19.cell 16
  have fSS_19_16 := SS_19.free 16
  have cSS_19_17 : _ = some (Value.slice b1 q1 d1) := SS_19.cell 17
  have fSS_19_17 := SS_19.free 17
  have MM_19 := MM_18.next hB_19
  have cMM_19_0 : _ = some (Value.bool false) := MM_19.cell 0
  have fMM_19_0 := MM_19.free 0
  have cMM_19_1 : _ = some (Value.slice a1 p1 c1) := MM_19.cell 1
  have fMM_19_1 := MM_19.free 1
  have cMM_19_2 : _ = some (Value.slice b1 q1 d1) := MM_19.cell 2
  have fMM_19_2 := MM_19.free 2
  have cMM_19_3 : _ = some (Value.bool false) := MM_19.cell 3
  have fMM_19_3 := MM_19.free 3
  have cMM_19_4 : _ = some (Value.slice a2 p2 c2) := MM_19.cell 4
  have fMM_19_4 := MM_19.free 4
  have cMM_19_5 : _ = some (Value.slice b2 q2 d2) := MM_19.cell 5
  have fMM_19_5 := MM_19.free 5
  have cMM_19_6 : _ = some (Value.bool false) := MM_19.cell 6
  have fMM_19_6 := MM_19.free 6
  have cMM_19_7 : _ = some (Value.slice a3 p3 c3) := MM_19.cell 7
  have fMM_19_7 := MM_19.free 7
  have cMM_19_8 : _ = some (Value.slice b3 q3 d3) := MM_19.cell 8
  have fMM_19_8 := MM_19.free 8
  have Q1_19 := Q1_18.below hB_19
  have N1_19 := N1_18.below hB_19
  have Q2_19 := Q2_18.below hB_19
  have N2_19 := N2_18.below hB_19
  have Q3_19 := Q3_18.below hB_19
  have N3_19 := N3_18.below hB_19
  have hbel_19 := hbel_18.next hB_19
  have hsz_19 := hB_19.size
  clear X_18 cX_18_0 fX_18_0 cX_18_1 fX_18_1 cX_18_2 fX_18_2 cX_18_3 fX_18_3 cX_18_4 fX_18_4 cX_18_5 fX_18_5 cX_18_6 fX_18_6 cX_18_7 fX_18_7 cX_18_8 fX_18_8 Y_18 cY_18_0 cY_18_1 cY_18_2 Z_18 cZ_18_0 cZ_18_1 cZ_18_2 SS_18 cSS_18_0 fSS_18_0 cSS_18_1 fSS_18_1 cSS_18_2 fSS_18_2 cSS_18_3 fSS_18_3 cSS_18_4 fSS_18_4 cSS_18_5 fSS_18_5 cSS_18_6 fSS_18_6 cSS_18_7 fSS_18_7 cSS_18_8 fSS_18_8 cSS_18_9 fSS_18_9 cSS_18_10 fSS_18_10 cSS_18_11 fSS_18_11 cSS_18_12 fSS_18_12 cSS_18_13 fSS_18_13 cSS_18_14 fSS_18_14 cSS_18_15 fSS_18_15 cSS_18_16 fSS_18_16 cSS_18_17 fSS_18_17 MM_18 cMM_18_0 fMM_18_0 cMM_18_1 fMM_18_1 cMM_18_2 fMM_18_2 cMM_18_3 fMM_18_3 cMM_18_4 fMM_18_4 cMM_18_5 fMM_18_5 cMM_18_6 fMM_18_6 cMM_18_7 fMM_18_7 cMM_18_8 fMM_18_8 Q1_18 N1_18 Q2_18 N2_18 Q3_18 N3_18 hbel_18 hB_19
  try clear hB
  go_wp2_with fail
  refine (klmost N1_19 N2_19 N3_19 nn1.out nn2.out nn3.out).mono ?_
  rintro e w20 ⟨rfl, hB⟩
  have hB_20 : Below w19.heap.size w19 w20 := (bl.next hB)
  have X_20 := X_19.next hB_20
  have cX_20_0 : _ = some (Value.bool s1) := X_20.cell 0
  have fX_20_0 := X_20.free 0
  have cX_20_1 : _ = some (Value.slice a1 p1 c1) := X_20.cell 1
  have fX_20_1 := X_20.free 1
  have cX_20_2 : _ = some (Value.slice b1 q1 d1) := X_20.cell 2
  have fX_20_2 := X_20.free 2
  have cX_20_3 : _ = some (Value.bool s2) := X_20.cell 3
  have fX_20_3 := X_20.free 3
  have cX_20_4 : _ = some (Value.slice a2 p2 c2) := X_20.cell 4
  have fX_20_4 := X_20.free 4
  have cX_20_5 : _ = some (Value.slice b2 q2 d2) := X_20.cell 5
  have fX_20_5 := X_20.free 5
  have cX_20_6 : _ = some (Value.bool s3) := X_20.cell 6
  have fX_20_6 := X_20.free 6
  have cX_20_7 : _ = some (Value.slice a3 p3 c3) := X_20.cell 7
  have fX_20_7 := X_20.free 7
  have cX_20_8 : _ = some (Value.slice b3 q3 d3) := X_20.cell 8
  have fX_20_8 := X_20.free 8
  have Y_20 := Y_19.next hB_20
  have cY_20_0 : _ = some (Value.int .i64 u) := Y_20.cell 0
  have cY_20_1 : _ = some (Value.int .i64 v) := Y_20.cell 1
  have cY_20_2 : _ = some (Value.int .i64 z) := Y_20.cell 2
  have Z_20 := Z_19.next hB_20
  have cZ_20_0 : _ = some (Value.bool p) := Z_20.cell 0
  have cZ_20_1 : _ = some (Value.bool q) := Z_20.cell 1
  have cZ_20_2 : _ = some (Value.bool r) := Z_20.cell 2
  have SS_20 := SS_19.next hB_20
  have cSS_20_0 : _ = some (Value.bool s1) := SS_20.cell 0
  have fSS_20_0 := SS_20.free 0
  have cSS_20_1 : _ = some (Value.slice a1 p1 c1) := SS_20.cell 1
  have fSS_20_1 := SS_20.free 1
  have cSS_20_2 : _ = some (Value.slice b1 q1 d1) := SS_20.cell 2
  have fSS_20_2 := SS_20.free 2
  have cSS_20_3 : _ = some (Value.bool s2) := SS_20.cell 3
  have fSS_20_3 := SS_20.free 3
  have cSS_20_4 : _ = some (Value.slice a2 p2 c2) := SS_20.cell 4
  have fSS_20_4 := SS_20.free 4
  have cSS_20_5 : _ = some (Value.slice b2 q2 d2) := SS_20.cell 5
  have fSS_20_5 := SS_20.free 5
  have cSS_20_6 : _ = some (Value.bool s2) := SS_20.cell 6
  have fSS_20_6 := SS_20.free 6
  have cSS_20_7 : _ = some (Value.slice a2 p2 c2) := SS_20.cell 7
  have fSS_20_7 := SS_20.free 7
  have cSS_20_8 : _ = some (Value.slice b2 q2 d2) := SS_20.cell 8
  have fSS_20_8 := SS_20.free 8
  have cSS_20_9 : _ = some (Value.bool s3) := SS_20.cell 9
  have fSS_20_9 := SS_20.free 9
  have cSS_20_10 : _ = some (Value.slice a3 p3 c3) := SS_20.cell 10
  have fSS_20_10 := SS_20.free 10
  have cSS_20_11 : _ = some (Value.slice b3 q3 d3) := SS_20.cell 11
  have fSS_20_11 := SS_20.free 11
  have cSS_20_12 : _ = some (Value.bool s3) := SS_20.cell 12
  have fSS_20_12 := SS_20.free 12
  have cSS_20_13 : _ = some (Value.slice a3 p3 c3) := SS_20.cell 13
  have fSS_20_13 := SS_20.free 13
  have cSS_20_14 : _ = some (Value.slice b3 q3 d3) := SS_20.cell 14
  have fSS_20_14 := SS_20.free 14
  have cSS_20_15 : _ = some (Value.bool s1) := SS_20.cell 15
  have fSS_20_15 := SS_20.free 15
  have cSS_20_16 : _ = some (Value.slice a1 p1 c1) := SS_20.cell 16
  have fSS_20_16 := SS_20.free 16
  have cSS_20_17 : _ = some (Value.slice b1 q1 d1) := SS_20.cell 17
  have fSS_20_17 := SS_20.free 17
  have MM_20 := MM_19.next hB_20
  have cMM_20_0 : _ = some (Value.bool false) := MM_20.cell 0
  have fMM_20_0 := MM_20.free 0
  have cMM_20_1 : _ = some (Value.slice a1 p1 c1) := MM_20.cell 1
  have fMM_20_1 := MM_20.free 1
  have cMM_20_2 : _ = some (Value.slice b1 q1 d1) := MM_20.cell 2
  have fMM_20_2 := MM_20.free 2
  have cMM_20_3 : _ = some (Value.bool false) := MM_20.cell 3
  have fMM_20_3 := MM_20.free 3
  have cMM_20_4 : _ = some (Value.slice a2 p2 c2) := MM_20.cell 4
  have fMM_20_4 := MM_20.free 4
  have cMM_20_5 : _ = some (Value.slice b2 q2 d2) := MM_20.cell 5
  have fMM_20_5 := MM_20.free 5
  have cMM_20_6 : _ = some (Value.bool false) := MM_20.cell 6
  have fMM_20_6 := MM_20.free 6
  have cMM_20_7 : _ = some (Value.slice a3 p3 c3) := MM_20.cell 7
  have fMM_20_7 := MM_20.free 7
  have cMM_20_8 : _ = some (Value.slice b3 q3 d3) := MM_20.cell 8
  have fMM_20_8 := MM_20.free 8
  have Q1_20 := Q1_19.below hB_20
  have N1_20 := N1_19.below hB_20
  have Q2_20 := Q2_19.below hB_20
  have N2_20 := N2_19.below hB_20
  have Q3_20 := Q3_19.below hB_20
  have N3_20 := N3_19.below hB_20
  have hbel_20 := hbel_19.next hB_20
  have hsz_20 := hB_20.size
  clear X_19 cX_19_0 fX_19_0 cX_19_1 fX_19_1 cX_19_2 fX_19_2 cX_19_3 fX_19_3 cX_19_4 fX_19_4 cX_19_5 fX_19_5 cX_19_6 fX_19_6 cX_19_7 fX_19_7 cX_19_8 fX_19_8 Y_19 cY_19_0 cY_19_1 cY_19_2 Z_19 cZ_19_0 cZ_19_1 cZ_19_2 SS_19 cSS_19_0 fSS_19_0 cSS_19_1 fSS_19_1 cSS_19_2 fSS_19_2 cSS_19_3 fSS_19_3 cSS_19_4 fSS_19_4 cSS_19_5 fSS_19_5 cSS_19_6 fSS_19_6 cSS_19_7 fSS_19_7 cSS_19_8 fSS_19_8 cSS_19_9 fSS_19_9 cSS_19_10 fSS_19_10 cSS_19_11 fSS_19_11 cSS_19_12 fSS_19_12 cSS_19_13 fSS_19_13 cSS_19_14 fSS_19_14 cSS_19_15 fSS_19_15 cSS_19_16 fSS_19_16 cSS_19_17 fSS_19_17 MM_19 cMM_19_0 fMM_19_0 cMM_19_1 fMM_19_1 cMM_19_2 fMM_19_2 cMM_19_3 fMM_19_3 cMM_19_4 fMM_19_4 cMM_19_5 fMM_19_5 cMM_19_6 fMM_19_6 cMM_19_7 fMM_19_7 cMM_19_8 fMM_19_8 Q1_19 N1_19 Q2_19 N2_19 Q3_19 N3_19 hbel_19 hB_20
  try clear hB
  clear cSS_20_0 fSS_20_0 cSS_20_1 fSS_20_1 cSS_20_2 fSS_20_2 cSS_20_3 fSS_20_3 cSS_20_4 fSS_20_4 cSS_20_5 fSS_20_5 cSS_20_6 fSS_20_6 cSS_20_7 fSS_20_7 cSS_20_8 fSS_20_8 cSS_20_9 fSS_20_9 cSS_20_10 fSS_20_10 cSS_20_11 fSS_20_11 cSS_20_12 fSS_20_12 cSS_20_13 fSS_20_13 cSS_20_14 fSS_20_14 cSS_20_15 fSS_20_15 cSS_20_16 fSS_20_16 cSS_20_17 fSS_20_17
  have SSL : World.rangeAt w20 (w1.heap.size) 0 [Value.bool s1, Value.slice a1 p1 c1, Value.slice b1 q1 d1, Value.bool s2, Value.slice a2 p2 c2, Value.slice b2 q2 d2, Value.bool s2, Value.slice a2 p2 c2, Value.slice b2 q2 d2, Value.bool s3, Value.slice a3 p3 c3, Value.slice b3 q3 d3, Value.bool s3, Value.slice a3 p3 c3, Value.slice b3 q3 d3, Value.bool s1, Value.slice a1 p1 c1, Value.slice b1 q1 d1] := blk_range SS_20
  go_wp2_with (refine BigFrame.wpList_want (by rfl) (fun K hK => wp_load_mid 34 _ rfl _ 0 rfl _ _ SSL Tryz.underlying34 rfl (by kernel_rfl) (hK _ _ ?_)))
  refine (klslopes Q1_20 Q2_20 Q2_20 Q3_20 Q3_20 Q1_20).mono ?_
  clear SSL
  rintro e w21 ⟨rfl, hB⟩
  have hB_21 : Below w20.heap.size w20 w21 := (bl.next hB)
  have X_21 := X_20.next hB_21
  have Y_21 := Y_20.next hB_21
  have Z_21 := Z_20.next hB_21
  have SS_21 := SS_20.next hB_21
  have MM_21 := MM_20.next hB_21
  have Q1_21 := Q1_20.below hB_21
  have N1_21 := N1_20.below hB_21
  have Q2_21 := Q2_20.below hB_21
  have N2_21 := N2_20.below hB_21
  have Q3_21 := Q3_20.below hB_21
  have N3_21 := N3_20.below hB_21
  have hbel_21 := hbel_20.next hB_21
  have hsz_21 := hB_21.size
  clear X_20 cX_20_0 fX_20_0 cX_20_1 fX_20_1 cX_20_2 fX_20_2 cX_20_3 fX_20_3 cX_20_4 fX_20_4 cX_20_5 fX_20_5 cX_20_6 fX_20_6 cX_20_7 fX_20_7 cX_20_8 fX_20_8 Y_20 cY_20_0 cY_20_1 cY_20_2 Z_20 cZ_20_0 cZ_20_1 cZ_20_2 SS_20 MM_20 cMM_20_0 fMM_20_0 cMM_20_1 fMM_20_1 cMM_20_2 fMM_20_2 cMM_20_3 fMM_20_3 cMM_20_4 fMM_20_4 cMM_20_5 fMM_20_5 cMM_20_6 fMM_20_6 cMM_20_7 fMM_20_7 cMM_20_8 fMM_20_8 Q1_20 N1_20 Q2_20 N2_20 Q3_20 N3_20 hbel_20 hB_21
  try clear hB
  clear Q1_21
  clear N1_21
  clear Q2_21
  clear N2_21
  clear Q3_21
  clear N3_21
  clear X_21
  clear SS_21
  clear MM_21
  have cY_21_0 : _ = some (Value.int .i64 u) := Y_21.cell 0
  have cY_21_1 : _ = some (Value.int .i64 v) := Y_21.cell 1
  have cY_21_2 : _ = some (Value.int .i64 z) := Y_21.cell 2
  have cZ_21_0 : _ = some (Value.bool p) := Z_21.cell 0
  have cZ_21_1 : _ = some (Value.bool q) := Z_21.cell 1
  have cZ_21_2 : _ = some (Value.bool r) := Z_21.cell 2
  go_wp2_with fail
  go_quiet (fail)
  have hB_22 : Below w21.heap.size w21 (w21.drewN nq) := (show Below w21.heap.size w21 (w21.drewN nq) from ⟨rfl, rfl, rfl, Nat.le_refl _, fun _ _ => rfl⟩)
  have Y_22 := Y_21.next hB_22
  have cY_22_0 : _ = some (Value.int .i64 u) := Y_22.cell 0
  have cY_22_1 : _ = some (Value.int .i64 v) := Y_22.cell 1
  have cY_22_2 : _ = some (Value.int .i64 z) := Y_22.cell 2
  have Z_22 := Z_21.next hB_22
  have cZ_22_0 : _ = some (Value.bool p) := Z_22.cell 0
  have cZ_22_1 : _ = some (Value.bool q) := Z_22.cell 1
  have cZ_22_2 : _ = some (Value.bool r) := Z_22.cell 2
  have hbel_22 := hbel_21.next hB_22
  have hsz_22 := hB_22.size
  clear Y_21 cY_21_0 cY_21_1 cY_21_2 Z_21 cZ_21_0 cZ_21_1 cZ_21_2 hbel_21 hB_22
  generalize (w21.drewN nq) = vqa at *
  have hbx := blk_new vqa #[] 39
  have hbB := (Below.refl vqa.heap.size vqa).alloc (Nat.le_refl _) (.cells #[] 39)
  have hltO := hbx.lt
  have hB_23 : Below vqa.heap.size vqa (vqa.alloc (.cells #[] 39)) := hbB
  have Y_23 := Y_22.next hB_23
  have cY_23_0 : _ = some (Value.int .i64 u) := Y_23.cell 0
  have cY_23_1 : _ = some (Value.int .i64 v) := Y_23.cell 1
  have cY_23_2 : _ = some (Value.int .i64 z) := Y_23.cell 2
  have Z_23 := Z_22.next hB_23
  have cZ_23_0 : _ = some (Value.bool p) := Z_23.cell 0
  have cZ_23_1 : _ = some (Value.bool q) := Z_23.cell 1
  have cZ_23_2 : _ = some (Value.bool r) := Z_23.cell 2
  have hbel_23 := hbel_22.next hB_23
  have hsz_23 := hB_23.size
  clear hB_23
  have O_23 := hbx
  clear hbx hbB
  go_wp2_with fail
  clear Y_22 cY_22_0 cY_22_1 cY_22_2 Z_22 cZ_22_0 cZ_22_1 cZ_22_2 hbel_22
  generalize (vqa.alloc (.cells #[] 39)) = v23 at *
  simp only [List.append]
  go_cut [17] (fun sv wx => sv = .bool true ∧ Below v23.heap.size v23 wx)
  case first =>
    as_aux_lemma =>
      have hbC_23 : Below v23.heap.size v23 v23 := Below.refl _ _
      go_wp2_with fail
      go_region_held3 (fun _ => True)
        (first | with_reducible exact trivial | go_keep)
        (first
          | (go_at_call 10; ((with_reducible refine (kboolsadd q r).mono ?_); (rw [hqr.out]; rintro e w24 ⟨rfl, hB⟩; have hB_24 : Below v23.heap.size v23 w24 := (bl.next hB); have Y_24 := Y_23.next hB_24; have cY_24_0 : _ = some (Value.int .i64 u) := Y_24.cell 0; have cY_24_1 : _ = some (Value.int .i64 v) := Y_24.cell 1; have cY_24_2 : _ = some (Value.int .i64 z) := Y_24.cell 2; have Z_24 := Z_23.next hB_24; have cZ_24_0 : _ = some (Value.bool p) := Z_24.cell 0; have cZ_24_1 : _ = some (Value.bool q) := Z_24.cell 1; have cZ_24_2 : _ = some (Value.bool r) := Z_24.cell 2; have O_24 := O_23.next hB_24; have hbC_24 := hbC_23.next hB_24; have hbel_24 := hbel_23.next hB_24; have hsz_24 := hB_24.size; clear Y_23 cY_23_0 cY_23_1 cY_23_2 Z_23 cZ_23_0 cZ_23_1 cZ_23_2 O_23 hbC_23 hbel_23 hB_24; try clear hB)))
          | (go_at_call 9; ((with_reducible refine (kboolsmul p qr).mono ?_); (rw [hbd.out]; rintro e w25 ⟨rfl, hB⟩; have hB_25 : Below w24.heap.size w24 w25 := (bl.next hB); have Y_25 := Y_24.next hB_25; have cY_25_0 : _ = some (Value.int .i64 u) := Y_25.cell 0; have cY_25_1 : _ = some (Value.int .i64 v) := Y_25.cell 1; have cY_25_2 : _ = some (Value.int .i64 z) := Y_25.cell 2; have Z_25 := Z_24.next hB_25; have cZ_25_0 : _ = some (Value.bool p) := Z_25.cell 0; have cZ_25_1 : _ = some (Value.bool q) := Z_25.cell 1; have cZ_25_2 : _ = some (Value.bool r) := Z_25.cell 2; have O_25 := O_24.next hB_25; have hbC_25 := hbC_24.next hB_25; have hbel_25 := hbel_24.next hB_25; have hsz_25 := hB_25.size; clear Y_24 cY_24_0 cY_24_1 cY_24_2 Z_24 cZ_24_0 cZ_24_1 cZ_24_2 O_24 hbC_24 hbel_24 hB_25; try clear hB)))
          | (go_at_call 9; ((with_reducible refine (kboolsmul p q).mono ?_); (rw [hpq.out]; rintro e w26 ⟨rfl, hB⟩; have hB_26 : Below w25.heap.size w25 w26 := (bl.next hB); have Y_26 := Y_25.next hB_26; have cY_26_0 : _ = some (Value.int .i64 u) := Y_26.cell 0; have cY_26_1 : _ = some (Value.int .i64 v) := Y_26.cell 1; have cY_26_2 : _ = some (Value.int .i64 z) := Y_26.cell 2; have Z_26 := Z_25.next hB_26; have cZ_26_0 : _ = some (Value.bool p) := Z_26.cell 0; have cZ_26_1 : _ = some (Value.bool q) := Z_26.cell 1; have cZ_26_2 : _ = some (Value.bool r) := Z_26.cell 2; have O_26 := O_25.next hB_26; have hbC_26 := hbC_25.next hB_26; have hbel_26 := hbel_25.next hB_26; have hsz_26 := hB_26.size; clear Y_25 cY_25_0 cY_25_1 cY_25_2 Z_25 cZ_25_0 cZ_25_1 cZ_25_2 O_25 hbC_25 hbel_25 hB_26; try clear hB)))
          | (go_at_call 9; ((with_reducible refine (kboolsmul p r).mono ?_); (rw [hpr.out]; rintro e w27 ⟨rfl, hB⟩; have hB_27 : Below w26.heap.size w26 w27 := (bl.next hB); have Y_27 := Y_26.next hB_27; have cY_27_0 : _ = some (Value.int .i64 u) := Y_27.cell 0; have cY_27_1 : _ = some (Value.int .i64 v) := Y_27.cell 1; have cY_27_2 : _ = some (Value.int .i64 z) := Y_27.cell 2; have Z_27 := Z_26.next hB_27; have cZ_27_0 : _ = some (Value.bool p) := Z_27.cell 0; have cZ_27_1 : _ = some (Value.bool q) := Z_27.cell 1; have cZ_27_2 : _ = some (Value.bool r) := Z_27.cell 2; have O_27 := O_26.next hB_27; have hbC_27 := hbC_26.next hB_27; have hbel_27 := hbel_26.next hB_27; have hsz_27 := hB_27.size; clear Y_26 cY_26_0 cY_26_1 cY_26_2 Z_26 cZ_26_0 cZ_26_1 cZ_26_2 O_26 hbC_26 hbel_26 hB_27; try clear hB)))
          | (go_at_call 10; ((with_reducible refine (kboolsadd pq pr).mono ?_); (rw [hbd2.out]; rintro e w28 ⟨rfl, hB⟩; have hB_28 : Below w27.heap.size w27 w28 := (bl.next hB); have Y_28 := Y_27.next hB_28; have cY_28_0 : _ = some (Value.int .i64 u) := Y_28.cell 0; have cY_28_1 : _ = some (Value.int .i64 v) := Y_28.cell 1; have cY_28_2 : _ = some (Value.int .i64 z) := Y_28.cell 2; have Z_28 := Z_27.next hB_28; have cZ_28_0 : _ = some (Value.bool p) := Z_28.cell 0; have cZ_28_1 : _ = some (Value.bool q) := Z_28.cell 1; have cZ_28_2 : _ = some (Value.bool r) := Z_28.cell 2; have O_28 := O_27.next hB_28; have hbC_28 := hbC_27.next hB_28; have hbel_28 := hbel_27.next hB_28; have hsz_28 := hB_28.size; clear Y_27 cY_27_0 cY_27_1 cY_27_2 Z_27 cZ_27_0 cZ_27_1 cZ_27_2 O_27 hbC_27 hbel_27 hB_28; try clear hB)))
          | (go_at_call 11; ((with_reducible refine (kboolszero).mono ?_); (rintro e w29 ⟨rfl, hB⟩; have hB_29 : Below w28.heap.size w28 w29 := (bl.next hB); have Y_29 := Y_28.next hB_29; have cY_29_0 : _ = some (Value.int .i64 u) := Y_29.cell 0; have cY_29_1 : _ = some (Value.int .i64 v) := Y_29.cell 1; have cY_29_2 : _ = some (Value.int .i64 z) := Y_29.cell 2; have Z_29 := Z_28.next hB_29; have cZ_29_0 : _ = some (Value.bool p) := Z_29.cell 0; have cZ_29_1 : _ = some (Value.bool q) := Z_29.cell 1; have cZ_29_2 : _ = some (Value.bool r) := Z_29.cell 2; have O_29 := O_28.next hB_29; have hbC_29 := hbC_28.next hB_29; have hbel_29 := hbel_28.next hB_29; have hsz_29 := hB_29.size; clear Y_28 cY_28_0 cY_28_1 cY_28_2 Z_28 cZ_28_0 cZ_28_1 cZ_28_2 O_28 hbC_28 hbel_28 hB_29; try clear hB)))
          | (go_at_call 10; ((with_reducible refine (kboolsadd p false).mono ?_); (rw [hpf.out]; rintro e w30 ⟨rfl, hB⟩; have hB_30 : Below w29.heap.size w29 w30 := (bl.next hB); have Y_30 := Y_29.next hB_30; have cY_30_0 : _ = some (Value.int .i64 u) := Y_30.cell 0; have cY_30_1 : _ = some (Value.int .i64 v) := Y_30.cell 1; have cY_30_2 : _ = some (Value.int .i64 z) := Y_30.cell 2; have Z_30 := Z_29.next hB_30; have cZ_30_0 : _ = some (Value.bool p) := Z_30.cell 0; have cZ_30_1 : _ = some (Value.bool q) := Z_30.cell 1; have cZ_30_2 : _ = some (Value.bool r) := Z_30.cell 2; have O_30 := O_29.next hB_30; have hbC_30 := hbC_29.next hB_30; have hbel_30 := hbel_29.next hB_30; have hsz_30 := hB_30.size; clear Y_29 cY_29_0 cY_29_1 cY_29_2 Z_29 cZ_29_0 cZ_29_1 cZ_29_2 O_29 hbC_29 hbel_29 hB_30; try clear hB)))
          | (go_at_call 12; ((with_reducible refine (kboolsone).mono ?_); (rintro e w31 ⟨rfl, hB⟩; have hB_31 : Below w30.heap.size w30 w31 := (bl.next hB); have Y_31 := Y_30.next hB_31; have cY_31_0 : _ = some (Value.int .i64 u) := Y_31.cell 0; have cY_31_1 : _ = some (Value.int .i64 v) := Y_31.cell 1; have cY_31_2 : _ = some (Value.int .i64 z) := Y_31.cell 2; have Z_31 := Z_30.next hB_31; have cZ_31_0 : _ = some (Value.bool p) := Z_31.cell 0; have cZ_31_1 : _ = some (Value.bool q) := Z_31.cell 1; have cZ_31_2 : _ = some (Value.bool r) := Z_31.cell 2; have O_31 := O_30.next hB_31; have hbC_31 := hbC_30.next hB_31; have hbel_31 := hbel_30.next hB_31; have hsz_31 := hB_31.size; clear Y_30 cY_30_0 cY_30_1 cY_30_2 Z_30 cZ_30_0 cZ_30_1 cZ_30_2 O_30 hbC_30 hbel_30 hB_31; try clear hB)))
          | (go_at_call 9; ((with_reducible refine (kboolsmul p true).mono ?_); (rw [hpt.out]; rintro e w32 ⟨rfl, hB⟩; have hB_32 : Below w31.heap.size w31 w32 := (bl.next hB); have Y_32 := Y_31.next hB_32; have cY_32_0 : _ = some (Value.int .i64 u) := Y_32.cell 0; have cY_32_1 : _ = some (Value.int .i64 v) := Y_32.cell 1; have cY_32_2 : _ = some (Value.int .i64 z) := Y_32.cell 2; have Z_32 := Z_31.next hB_32; have cZ_32_0 : _ = some (Value.bool p) := Z_32.cell 0; have cZ_32_1 : _ = some (Value.bool q) := Z_32.cell 1; have cZ_32_2 : _ = some (Value.bool r) := Z_32.cell 2; have O_32 := O_31.next hB_32; have hbC_32 := hbC_31.next hB_32; have hbel_32 := hbel_31.next hB_32; have hsz_32 := hB_32.size; clear Y_31 cY_31_0 cY_31_1 cY_31_2 Z_31 cZ_31_0 cZ_31_1 cZ_31_2 O_31 hbC_31 hbel_31 hB_32; try clear hB)))
          | (go_at_call 11; ((with_reducible refine (kboolszero).mono ?_); (rintro e w33 ⟨rfl, hB⟩; have hB_33 : Below w32.heap.size w32 w33 := (bl.next hB); have Y_33 := Y_32.next hB_33; have cY_33_0 : _ = some (Value.int .i64 u) := Y_33.cell 0; have cY_33_1 : _ = some (Value.int .i64 v) := Y_33.cell 1; have cY_33_2 : _ = some (Value.int .i64 z) := Y_33.cell 2; have Z_33 := Z_32.next hB_33; have cZ_33_0 : _ = some (Value.bool p) := Z_33.cell 0; have cZ_33_1 : _ = some (Value.bool q) := Z_33.cell 1; have cZ_33_2 : _ = some (Value.bool r) := Z_33.cell 2; have O_33 := O_32.next hB_33; have hbC_33 := hbC_32.next hB_33; have hbel_33 := hbel_32.next hB_33; have hsz_33 := hB_33.size; clear Y_32 cY_32_0 cY_32_1 cY_32_2 Z_32 cZ_32_0 cZ_32_1 cZ_32_2 O_32 hbC_32 hbel_32 hB_33; try clear hB)))
          | (go_at_call 9; ((with_reducible refine (kboolsmul p false).mono ?_); (rw [hpm.out]; rintro e w34 ⟨rfl, hB⟩; have hB_34 : Below w33.heap.size w33 w34 := (bl.next hB); have Y_34 := Y_33.next hB_34; have cY_34_0 : _ = some (Value.int .i64 u) := Y_34.cell 0; have cY_34_1 : _ = some (Value.int .i64 v) := Y_34.cell 1; have cY_34_2 : _ = some (Value.int .i64 z) := Y_34.cell 2; have Z_34 := Z_33.next hB_34; have cZ_34_0 : _ = some (Value.bool p) := Z_34.cell 0; have cZ_34_1 : _ = some (Value.bool q) := Z_34.cell 1; have cZ_34_2 : _ = some (Value.bool r) := Z_34.cell 2; have O_34 := O_33.next hB_34; have hbC_34 := hbC_33.next hB_34; have hbel_34 := hbel_33.next hB_34; have hsz_34 := hB_34.size; clear Y_33 cY_33_0 cY_33_1 cY_33_2 Z_33 cZ_33_0 cZ_33_1 cZ_33_2 O_33 hbC_33 hbel_33 hB_34; try clear hB)))
          | (go_at_call 10; ((with_reducible refine (kboolsadd p q).mono ?_); (rw [hoq.out]; rintro e w35 ⟨rfl, hB⟩; have hB_35 : Below w34.heap.size w34 w35 := (bl.next hB); have Y_35 := Y_34.next hB_35; have cY_35_0 : _ = some (Value.int .i64 u) := Y_35.cell 0; have cY_35_1 : _ = some (Value.int .i64 v) := Y_35.cell 1; have cY_35_2 : _ = some (Value.int .i64 z) := Y_35.cell 2; have Z_35 := Z_34.next hB_35; have cZ_35_0 : _ = some (Value.bool p) := Z_35.cell 0; have cZ_35_1 : _ = some (Value.bool q) := Z_35.cell 1; have cZ_35_2 : _ = some (Value.bool r) := Z_35.cell 2; have O_35 := O_34.next hB_35; have hbC_35 := hbC_34.next hB_35; have hbel_35 := hbel_34.next hB_35; have hsz_35 := hB_35.size; clear Y_34 cY_34_0 cY_34_1 cY_34_2 Z_34 cZ_34_0 cZ_34_1 cZ_34_2 O_34 hbC_34 hbel_34 hB_35; try clear hB)))
          | (go_at_call 10; ((with_reducible refine (kboolsadd q p).mono ?_); (rw [hqp.out]; rintro e w36 ⟨rfl, hB⟩; have hB_36 : Below w35.heap.size w35 w36 := (bl.next hB); have Y_36 := Y_35.next hB_36; have cY_36_0 : _ = some (Value.int .i64 u) := Y_36.cell 0; have cY_36_1 : _ = some (Value.int .i64 v) := Y_36.cell 1; have cY_36_2 : _ = some (Value.int .i64 z) := Y_36.cell 2; have Z_36 := Z_35.next hB_36; have cZ_36_0 : _ = some (Value.bool p) := Z_36.cell 0; have cZ_36_1 : _ = some (Value.bool q) := Z_36.cell 1; have cZ_36_2 : _ = some (Value.bool r) := Z_36.cell 2; have O_36 := O_35.next hB_36; have hbC_36 := hbC_35.next hB_36; have hbel_36 := hbel_35.next hB_36; have hsz_36 := hB_36.size; clear Y_35 cY_35_0 cY_35_1 cY_35_2 Z_35 cZ_35_0 cZ_35_1 cZ_35_2 O_35 hbC_35 hbel_35 hB_36; try clear hB)))
          | (go_at_call 9; ((with_reducible refine (kboolsmul p q).mono ?_); (rw [hpq.out]; rintro e w37 ⟨rfl, hB⟩; have hB_37 : Below w36.heap.size w36 w37 := (bl.next hB); have Y_37 := Y_36.next hB_37; have cY_37_0 : _ = some (Value.int .i64 u) := Y_37.cell 0; have cY_37_1 : _ = some (Value.int .i64 v) := Y_37.cell 1; have cY_37_2 : _ = some (Value.int .i64 z) := Y_37.cell 2; have Z_37 := Z_36.next hB_37; have cZ_37_0 : _ = some (Value.bool p) := Z_37.cell 0; have cZ_37_1 : _ = some (Value.bool q) := Z_37.cell 1; have cZ_37_2 : _ = some (Value.bool r) := Z_37.cell 2; have O_37 := O_36.next hB_37; have hbC_37 := hbC_36.next hB_37; have hbel_37 := hbel_36.next hB_37; have hsz_37 := hB_37.size; clear Y_36 cY_36_0 cY_36_1 cY_36_2 Z_36 cZ_36_0 cZ_36_1 cZ_36_2 O_36 hbC_36 hbel_36 hB_37; try clear hB)))
          | (go_at_call 9; ((with_reducible refine (kboolsmul pq r).mono ?_); (rw [hba.out]; rintro e w38 ⟨rfl, hB⟩; have hB_38 : Below w37.heap.size w37 w38 := (bl.next hB); have Y_38 := Y_37.next hB_38; have cY_38_0 : _ = some (Value.int .i64 u) := Y_38.cell 0; have cY_38_1 : _ = some (Value.int .i64 v) := Y_38.cell 1; have cY_38_2 : _ = some (Value.int .i64 z) := Y_38.cell 2; have Z_38 := Z_37.next hB_38; have cZ_38_0 : _ = some (Value.bool p) := Z_38.cell 0; have cZ_38_1 : _ = some (Value.bool q) := Z_38.cell 1; have cZ_38_2 : _ = some (Value.bool r) := Z_38.cell 2; have O_38 := O_37.next hB_38; have hbC_38 := hbC_37.next hB_38; have hbel_38 := hbel_37.next hB_38; have hsz_38 := hB_38.size; clear Y_37 cY_37_0 cY_37_1 cY_37_2 Z_37 cZ_37_0 cZ_37_1 cZ_37_2 O_37 hbC_37 hbel_37 hB_38; try clear hB)))
          | (go_at_call 9; ((with_reducible refine (kboolsmul q r).mono ?_); (rw [hxq.out]; rintro e w39 ⟨rfl, hB⟩; have hB_39 : Below w38.heap.size w38 w39 := (bl.next hB); have Y_39 := Y_38.next hB_39; have cY_39_0 : _ = some (Value.int .i64 u) := Y_39.cell 0; have cY_39_1 : _ = some (Value.int .i64 v) := Y_39.cell 1; have cY_39_2 : _ = some (Value.int .i64 z) := Y_39.cell 2; have Z_39 := Z_38.next hB_39; have cZ_39_0 : _ = some (Value.bool p) := Z_39.cell 0; have cZ_39_1 : _ = some (Value.bool q) := Z_39.cell 1; have cZ_39_2 : _ = some (Value.bool r) := Z_39.cell 2; have O_39 := O_38.next hB_39; have hbC_39 := hbC_38.next hB_39; have hbel_39 := hbel_38.next hB_39; have hsz_39 := hB_39.size; clear Y_38 cY_38_0 cY_38_1 cY_38_2 Z_38 cZ_38_0 cZ_38_1 cZ_38_2 O_38 hbC_38 hbel_38 hB_39; try clear hB)))
          | (go_at_call 9; ((with_reducible refine (kboolsmul p xq).mono ?_); (rw [hba2.out]; rintro e w40 ⟨rfl, hB⟩; have hB_40 : Below w39.heap.size w39 w40 := (bl.next hB); have Y_40 := Y_39.next hB_40; have cY_40_0 : _ = some (Value.int .i64 u) := Y_40.cell 0; have cY_40_1 : _ = some (Value.int .i64 v) := Y_40.cell 1; have cY_40_2 : _ = some (Value.int .i64 z) := Y_40.cell 2; have Z_40 := Z_39.next hB_40; have cZ_40_0 : _ = some (Value.bool p) := Z_40.cell 0; have cZ_40_1 : _ = some (Value.bool q) := Z_40.cell 1; have cZ_40_2 : _ = some (Value.bool r) := Z_40.cell 2; have O_40 := O_39.next hB_40; have hbC_40 := hbC_39.next hB_40; have hbel_40 := hbel_39.next hB_40; have hsz_40 := hB_40.size; clear Y_39 cY_39_0 cY_39_1 cY_39_2 Z_39 cZ_39_0 cZ_39_1 cZ_39_2 O_39 hbC_39 hbel_39 hB_40; try clear hB))))
      all_goals (go_wp2_with fail; go_meet; exact ⟨rfl, hbC_40⟩)
  case rest =>
    obtain ⟨rfl, hBc⟩ := hcut
    have hB_24 : Below v23.heap.size v23 wc := hBc
    have Y_24 := Y_23.next hB_24
    have cY_24_0 : _ = some (Value.int .i64 u) := Y_24.cell 0
    have cY_24_1 : _ = some (Value.int .i64 v) := Y_24.cell 1
    have cY_24_2 : _ = some (Value.int .i64 z) := Y_24.cell 2
    have Z_24 := Z_23.next hB_24
    have cZ_24_0 : _ = some (Value.bool p) := Z_24.cell 0
    have cZ_24_1 : _ = some (Value.bool q) := Z_24.cell 1
    have cZ_24_2 : _ = some (Value.bool r) := Z_24.cell 2
    have O_24 := O_23.next hB_24
    have hbel_24 := hbel_23.next hB_24
    have hsz_24 := hB_24.size
    clear Y_23 cY_23_0 cY_23_1 cY_23_2 Z_23 cZ_23_0 cZ_23_1 cZ_23_2 O_23 hbel_23 hB_24
    clear hBc
    obtain ⟨vra, hwc⟩ : ∃ y : World, y = wc := ⟨_, rfl⟩
    subst hwc
    have hbx := blk_new vra #[] 41
    have hbB := (Below.refl vra.heap.size vra).alloc (Nat.le_refl _) (.cells #[] 41)
    have hltT := hbx.lt
    have hB_25 : Below vra.heap.size vra (vra.alloc (.cells #[] 41)) := hbB
    have Y_25 := Y_24.next hB_25
    have cY_25_0 : _ = some (Value.int .i64 u) := Y_25.cell 0
    have cY_25_1 : _ = some (Value.int .i64 v) := Y_25.cell 1
    have cY_25_2 : _ = some (Value.int .i64 z) := Y_25.cell 2
    have Z_25 := Z_24.next hB_25
    have cZ_25_0 : _ = some (Value.bool p) := Z_25.cell 0
    have cZ_25_1 : _ = some (Value.bool q) := Z_25.cell 1
    have cZ_25_2 : _ = some (Value.bool r) := Z_25.cell 2
    have O_25 := O_24.next hB_25
    have hbel_25 := hbel_24.next hB_25
    have hsz_25 := hB_25.size
    clear hB_25
    have T_25 := hbx
    clear hbx hbB
    go_wp2_with fail
    clear Y_24 cY_24_0 cY_24_1 cY_24_2 Z_24 cZ_24_0 cZ_24_1 cZ_24_2 O_24 hbel_24
    generalize (vra.alloc (.cells #[] 41)) = v25 at *
    go_wp2_with fail
    go_quiet (fail)
    have hB_26 : Below v25.heap.size v25 (v25.drewN nq) := (show Below v25.heap.size v25 (v25.drewN nq) from ⟨rfl, rfl, rfl, Nat.le_refl _, fun _ _ => rfl⟩)
    have Y_26 := Y_25.next hB_26
    have cY_26_0 : _ = some (Value.int .i64 u) := Y_26.cell 0
    have cY_26_1 : _ = some (Value.int .i64 v) := Y_26.cell 1
    have cY_26_2 : _ = some (Value.int .i64 z) := Y_26.cell 2
    have Z_26 := Z_25.next hB_26
    have cZ_26_0 : _ = some (Value.bool p) := Z_26.cell 0
    have cZ_26_1 : _ = some (Value.bool q) := Z_26.cell 1
    have cZ_26_2 : _ = some (Value.bool r) := Z_26.cell 2
    have O_26 := O_25.next hB_26
    have T_26 := T_25.next hB_26
    have hbel_26 := hbel_25.next hB_26
    have hsz_26 := hB_26.size
    clear Y_25 cY_25_0 cY_25_1 cY_25_2 Z_25 cZ_25_0 cZ_25_1 cZ_25_2 O_25 T_25 hbel_25 hB_26
    generalize (v25.drewN nq) = vqb at *
    go_wp2_with fail
    go_cut [22] (fun sv wx => sv = .bool true ∧ Below vqb.heap.size vqb wx)
    case first =>
      as_aux_lemma =>
        have hbC_26 : Below vqb.heap.size vqb vqb := Below.refl _ _
        go_wp2_with fail
        go_region_held3 (fun _ => True)
          (first | with_reducible exact trivial | go_keep)
          (first
            | (go_at_call 14; ((with_reducible refine (kintsadd v z bv1 bv2 bz1 bz2).mono ?_); (rw [hvz.out]; rintro e w27 ⟨rfl, hB⟩; have hB_27 : Below vqb.heap.size vqb w27 := (bl.next hB); have Y_27 := Y_26.next hB_27; have cY_27_0 : _ = some (Value.int .i64 u) := Y_27.cell 0; have cY_27_1 : _ = some (Value.int .i64 v) := Y_27.cell 1; have cY_27_2 : _ = some (Value.int .i64 z) := Y_27.cell 2; have Z_27 := Z_26.next hB_27; have cZ_27_0 : _ = some (Value.bool p) := Z_27.cell 0; have cZ_27_1 : _ = some (Value.bool q) := Z_27.cell 1; have cZ_27_2 : _ = some (Value.bool r) := Z_27.cell 2; have O_27 := O_26.next hB_27; have T_27 := T_26.next hB_27; have hbC_27 := hbC_26.next hB_27; have hbel_27 := hbel_26.next hB_27; have hsz_27 := hB_27.size; clear Y_26 cY_26_0 cY_26_1 cY_26_2 Z_26 cZ_26_0 cZ_26_1 cZ_26_2 O_26 T_26 hbC_26 hbel_26 hB_27; try clear hB)))
            | (go_at_call 13; ((with_reducible refine (kintsmul u vz bu1 bu2 vz1 vz2).mono ?_); (rw [hud.out]; rintro e w28 ⟨rfl, hB⟩; have hB_28 : Below w27.heap.size w27 w28 := (bl.next hB); have Y_28 := Y_27.next hB_28; have cY_28_0 : _ = some (Value.int .i64 u) := Y_28.cell 0; have cY_28_1 : _ = some (Value.int .i64 v) := Y_28.cell 1; have cY_28_2 : _ = some (Value.int .i64 z) := Y_28.cell 2; have Z_28 := Z_27.next hB_28; have cZ_28_0 : _ = some (Value.bool p) := Z_28.cell 0; have cZ_28_1 : _ = some (Value.bool q) := Z_28.cell 1; have cZ_28_2 : _ = some (Value.bool r) := Z_28.cell 2; have O_28 := O_27.next hB_28; have T_28 := T_27.next hB_28; have hbC_28 := hbC_27.next hB_28; have hbel_28 := hbel_27.next hB_28; have hsz_28 := hB_28.size; clear Y_27 cY_27_0 cY_27_1 cY_27_2 Z_27 cZ_27_0 cZ_27_1 cZ_27_2 O_27 T_27 hbC_27 hbel_27 hB_28; try clear hB)))
            | (go_at_call 13; ((with_reducible refine (kintsmul u v bu1 bu2 bv1 bv2).mono ?_); (rw [huv.out]; rintro e w29 ⟨rfl, hB⟩; have hB_29 : Below w28.heap.size w28 w29 := (bl.next hB); have Y_29 := Y_28.next hB_29; have cY_29_0 : _ = some (Value.int .i64 u) := Y_29.cell 0; have cY_29_1 : _ = some (Value.int .i64 v) := Y_29.cell 1; have cY_29_2 : _ = some (Value.int .i64 z) := Y_29.cell 2; have Z_29 := Z_28.next hB_29; have cZ_29_0 : _ = some (Value.bool p) := Z_29.cell 0; have cZ_29_1 : _ = some (Value.bool q) := Z_29.cell 1; have cZ_29_2 : _ = some (Value.bool r) := Z_29.cell 2; have O_29 := O_28.next hB_29; have T_29 := T_28.next hB_29; have hbC_29 := hbC_28.next hB_29; have hbel_29 := hbel_28.next hB_29; have hsz_29 := hB_29.size; clear Y_28 cY_28_0 cY_28_1 cY_28_2 Z_28 cZ_28_0 cZ_28_1 cZ_28_2 O_28 T_28 hbC_28 hbel_28 hB_29; try clear hB)))
            | (go_at_call 13; ((with_reducible refine (kintsmul u z bu1 bu2 bz1 bz2).mono ?_); (rw [huz.out]; rintro e w30 ⟨rfl, hB⟩; have hB_30 : Below w29.heap.size w29 w30 := (bl.next hB); have Y_30 := Y_29.next hB_30; have cY_30_0 : _ = some (Value.int .i64 u) := Y_30.cell 0; have cY_30_1 : _ = some (Value.int .i64 v) := Y_30.cell 1; have cY_30_2 : _ = some (Value.int .i64 z) := Y_30.cell 2; have Z_30 := Z_29.next hB_30; have cZ_30_0 : _ = some (Value.bool p) := Z_30.cell 0; have cZ_30_1 : _ = some (Value.bool q) := Z_30.cell 1; have cZ_30_2 : _ = some (Value.bool r) := Z_30.cell 2; have O_30 := O_29.next hB_30; have T_30 := T_29.next hB_30; have hbC_30 := hbC_29.next hB_30; have hbel_30 := hbel_29.next hB_30; have hsz_30 := hB_30.size; clear Y_29 cY_29_0 cY_29_1 cY_29_2 Z_29 cZ_29_0 cZ_29_1 cZ_29_2 O_29 T_29 hbC_29 hbel_29 hB_30; try clear hB)))
            | (go_at_call 14; ((with_reducible refine (kintsadd uv uz uv1 uv2 uz1 uz2).mono ?_); (rw [hud2.out]; rintro e w31 ⟨rfl, hB⟩; have hB_31 : Below w30.heap.size w30 w31 := (bl.next hB); have Y_31 := Y_30.next hB_31; have cY_31_0 : _ = some (Value.int .i64 u) := Y_31.cell 0; have cY_31_1 : _ = some (Value.int .i64 v) := Y_31.cell 1; have cY_31_2 : _ = some (Value.int .i64 z) := Y_31.cell 2; have Z_31 := Z_30.next hB_31; have cZ_31_0 : _ = some (Value.bool p) := Z_31.cell 0; have cZ_31_1 : _ = some (Value.bool q) := Z_31.cell 1; have cZ_31_2 : _ = some (Value.bool r) := Z_31.cell 2; have O_31 := O_30.next hB_31; have T_31 := T_30.next hB_31; have hbC_31 := hbC_30.next hB_31; have hbel_31 := hbel_30.next hB_31; have hsz_31 := hB_31.size; clear Y_30 cY_30_0 cY_30_1 cY_30_2 Z_30 cZ_30_0 cZ_30_1 cZ_30_2 O_30 T_30 hbC_30 hbel_30 hB_31; try clear hB)))
            | (go_at_call 15; ((with_reducible refine (kintszero).mono ?_); (rintro e w32 ⟨rfl, hB⟩; have hB_32 : Below w31.heap.size w31 w32 := (bl.next hB); have Y_32 := Y_31.next hB_32; have cY_32_0 : _ = some (Value.int .i64 u) := Y_32.cell 0; have cY_32_1 : _ = some (Value.int .i64 v) := Y_32.cell 1; have cY_32_2 : _ = some (Value.int .i64 z) := Y_32.cell 2; have Z_32 := Z_31.next hB_32; have cZ_32_0 : _ = some (Value.bool p) := Z_32.cell 0; have cZ_32_1 : _ = some (Value.bool q) := Z_32.cell 1; have cZ_32_2 : _ = some (Value.bool r) := Z_32.cell 2; have O_32 := O_31.next hB_32; have T_32 := T_31.next hB_32; have hbC_32 := hbC_31.next hB_32; have hbel_32 := hbel_31.next hB_32; have hsz_32 := hB_32.size; clear Y_31 cY_31_0 cY_31_1 cY_31_2 Z_31 cZ_31_0 cZ_31_1 cZ_31_2 O_31 T_31 hbC_31 hbel_31 hB_32; try clear hB)))
            | (go_at_call 14; ((with_reducible refine (kintsadd u 0 bu1 bu2 (by omega) (by omega)).mono ?_); (rw [hu0.out]; rintro e w33 ⟨rfl, hB⟩; have hB_33 : Below w32.heap.size w32 w33 := (bl.next hB); have Y_33 := Y_32.next hB_33; have cY_33_0 : _ = some (Value.int .i64 u) := Y_33.cell 0; have cY_33_1 : _ = some (Value.int .i64 v) := Y_33.cell 1; have cY_33_2 : _ = some (Value.int .i64 z) := Y_33.cell 2; have Z_33 := Z_32.next hB_33; have cZ_33_0 : _ = some (Value.bool p) := Z_33.cell 0; have cZ_33_1 : _ = some (Value.bool q) := Z_33.cell 1; have cZ_33_2 : _ = some (Value.bool r) := Z_33.cell 2; have O_33 := O_32.next hB_33; have T_33 := T_32.next hB_33; have hbC_33 := hbC_32.next hB_33; have hbel_33 := hbel_32.next hB_33; have hsz_33 := hB_33.size; clear Y_32 cY_32_0 cY_32_1 cY_32_2 Z_32 cZ_32_0 cZ_32_1 cZ_32_2 O_32 T_32 hbC_32 hbel_32 hB_33; try clear hB)))
            | (go_at_call 16; ((with_reducible refine (kintsone).mono ?_); (rintro e w34 ⟨rfl, hB⟩; have hB_34 : Below w33.heap.size w33 w34 := (bl.next hB); have Y_34 := Y_33.next hB_34; have cY_34_0 : _ = some (Value.int .i64 u) := Y_34.cell 0; have cY_34_1 : _ = some (Value.int .i64 v) := Y_34.cell 1; have cY_34_2 : _ = some (Value.int .i64 z) := Y_34.cell 2; have Z_34 := Z_33.next hB_34; have cZ_34_0 : _ = some (Value.bool p) := Z_34.cell 0; have cZ_34_1 : _ = some (Value.bool q) := Z_34.cell 1; have cZ_34_2 : _ = some (Value.bool r) := Z_34.cell 2; have O_34 := O_33.next hB_34; have T_34 := T_33.next hB_34; have hbC_34 := hbC_33.next hB_34; have hbel_34 := hbel_33.next hB_34; have hsz_34 := hB_34.size; clear Y_33 cY_33_0 cY_33_1 cY_33_2 Z_33 cZ_33_0 cZ_33_1 cZ_33_2 O_33 T_33 hbC_33 hbel_33 hB_34; try clear hB)))
            | (go_at_call 13; ((with_reducible refine (kintsmul u 1 bu1 bu2 (by omega) (by omega)).mono ?_); (rw [hu1.out]; rintro e w35 ⟨rfl, hB⟩; have hB_35 : Below w34.heap.size w34 w35 := (bl.next hB); have Y_35 := Y_34.next hB_35; have cY_35_0 : _ = some (Value.int .i64 u) := Y_35.cell 0; have cY_35_1 : _ = some (Value.int .i64 v) := Y_35.cell 1; have cY_35_2 : _ = some (Value.int .i64 z) := Y_35.cell 2; have Z_35 := Z_34.next hB_35; have cZ_35_0 : _ = some (Value.bool p) := Z_35.cell 0; have cZ_35_1 : _ = some (Value.bool q) := Z_35.cell 1; have cZ_35_2 : _ = some (Value.bool r) := Z_35.cell 2; have O_35 := O_34.next hB_35; have T_35 := T_34.next hB_35; have hbC_35 := hbC_34.next hB_35; have hbel_35 := hbel_34.next hB_35; have hsz_35 := hB_35.size; clear Y_34 cY_34_0 cY_34_1 cY_34_2 Z_34 cZ_34_0 cZ_34_1 cZ_34_2 O_34 T_34 hbC_34 hbel_34 hB_35; try clear hB)))
            | (go_at_call 15; ((with_reducible refine (kintszero).mono ?_); (rintro e w36 ⟨rfl, hB⟩; have hB_36 : Below w35.heap.size w35 w36 := (bl.next hB); have Y_36 := Y_35.next hB_36; have cY_36_0 : _ = some (Value.int .i64 u) := Y_36.cell 0; have cY_36_1 : _ = some (Value.int .i64 v) := Y_36.cell 1; have cY_36_2 : _ = some (Value.int .i64 z) := Y_36.cell 2; have Z_36 := Z_35.next hB_36; have cZ_36_0 : _ = some (Value.bool p) := Z_36.cell 0; have cZ_36_1 : _ = some (Value.bool q) := Z_36.cell 1; have cZ_36_2 : _ = some (Value.bool r) := Z_36.cell 2; have O_36 := O_35.next hB_36; have T_36 := T_35.next hB_36; have hbC_36 := hbC_35.next hB_36; have hbel_36 := hbel_35.next hB_36; have hsz_36 := hB_36.size; clear Y_35 cY_35_0 cY_35_1 cY_35_2 Z_35 cZ_35_0 cZ_35_1 cZ_35_2 O_35 T_35 hbC_35 hbel_35 hB_36; try clear hB)))
            | (go_at_call 13; ((with_reducible refine (kintsmul u 0 bu1 bu2 (by omega) (by omega)).mono ?_); (rw [hum.out]; rintro e w37 ⟨rfl, hB⟩; have hB_37 : Below w36.heap.size w36 w37 := (bl.next hB); have Y_37 := Y_36.next hB_37; have cY_37_0 : _ = some (Value.int .i64 u) := Y_37.cell 0; have cY_37_1 : _ = some (Value.int .i64 v) := Y_37.cell 1; have cY_37_2 : _ = some (Value.int .i64 z) := Y_37.cell 2; have Z_37 := Z_36.next hB_37; have cZ_37_0 : _ = some (Value.bool p) := Z_37.cell 0; have cZ_37_1 : _ = some (Value.bool q) := Z_37.cell 1; have cZ_37_2 : _ = some (Value.bool r) := Z_37.cell 2; have O_37 := O_36.next hB_37; have T_37 := T_36.next hB_37; have hbC_37 := hbC_36.next hB_37; have hbel_37 := hbel_36.next hB_37; have hsz_37 := hB_37.size; clear Y_36 cY_36_0 cY_36_1 cY_36_2 Z_36 cZ_36_0 cZ_36_1 cZ_36_2 O_36 T_36 hbC_36 hbel_36 hB_37; try clear hB)))
            | (go_at_call 13; ((with_reducible refine (kintsmul u v bu1 bu2 bv1 bv2).mono ?_); (rw [huv.out]; rintro e w38 ⟨rfl, hB⟩; have hB_38 : Below w37.heap.size w37 w38 := (bl.next hB); have Y_38 := Y_37.next hB_38; have cY_38_0 : _ = some (Value.int .i64 u) := Y_38.cell 0; have cY_38_1 : _ = some (Value.int .i64 v) := Y_38.cell 1; have cY_38_2 : _ = some (Value.int .i64 z) := Y_38.cell 2; have Z_38 := Z_37.next hB_38; have cZ_38_0 : _ = some (Value.bool p) := Z_38.cell 0; have cZ_38_1 : _ = some (Value.bool q) := Z_38.cell 1; have cZ_38_2 : _ = some (Value.bool r) := Z_38.cell 2; have O_38 := O_37.next hB_38; have T_38 := T_37.next hB_38; have hbC_38 := hbC_37.next hB_38; have hbel_38 := hbel_37.next hB_38; have hsz_38 := hB_38.size; clear Y_37 cY_37_0 cY_37_1 cY_37_2 Z_37 cZ_37_0 cZ_37_1 cZ_37_2 O_37 T_37 hbC_37 hbel_37 hB_38; try clear hB)))
            | (go_at_call 13; ((with_reducible refine (kintsmul uv z uv1 uv2 bz1 bz2).mono ?_); (rw [hua.out]; rintro e w39 ⟨rfl, hB⟩; have hB_39 : Below w38.heap.size w38 w39 := (bl.next hB); have Y_39 := Y_38.next hB_39; have cY_39_0 : _ = some (Value.int .i64 u) := Y_39.cell 0; have cY_39_1 : _ = some (Value.int .i64 v) := Y_39.cell 1; have cY_39_2 : _ = some (Value.int .i64 z) := Y_39.cell 2; have Z_39 := Z_38.next hB_39; have cZ_39_0 : _ = some (Value.bool p) := Z_39.cell 0; have cZ_39_1 : _ = some (Value.bool q) := Z_39.cell 1; have cZ_39_2 : _ = some (Value.bool r) := Z_39.cell 2; have O_39 := O_38.next hB_39; have T_39 := T_38.next hB_39; have hbC_39 := hbC_38.next hB_39; have hbel_39 := hbel_38.next hB_39; have hsz_39 := hB_39.size; clear Y_38 cY_38_0 cY_38_1 cY_38_2 Z_38 cZ_38_0 cZ_38_1 cZ_38_2 O_38 T_38 hbC_38 hbel_38 hB_39; try clear hB)))
            | (go_at_call 13; ((with_reducible refine (kintsmul v z bv1 bv2 bz1 bz2).mono ?_); (rw [hwv.out]; rintro e w40 ⟨rfl, hB⟩; have hB_40 : Below w39.heap.size w39 w40 := (bl.next hB); have Y_40 := Y_39.next hB_40; have cY_40_0 : _ = some (Value.int .i64 u) := Y_40.cell 0; have cY_40_1 : _ = some (Value.int .i64 v) := Y_40.cell 1; have cY_40_2 : _ = some (Value.int .i64 z) := Y_40.cell 2; have Z_40 := Z_39.next hB_40; have cZ_40_0 : _ = some (Value.bool p) := Z_40.cell 0; have cZ_40_1 : _ = some (Value.bool q) := Z_40.cell 1; have cZ_40_2 : _ = some (Value.bool r) := Z_40.cell 2; have O_40 := O_39.next hB_40; have T_40 := T_39.next hB_40; have hbC_40 := hbC_39.next hB_40; have hbel_40 := hbel_39.next hB_40; have hsz_40 := hB_40.size; clear Y_39 cY_39_0 cY_39_1 cY_39_2 Z_39 cZ_39_0 cZ_39_1 cZ_39_2 O_39 T_39 hbC_39 hbel_39 hB_40; try clear hB)))
            | (go_at_call 13; ((with_reducible refine (kintsmul u wv bu1 bu2 wv1 wv2).mono ?_); (rw [hua2.out]; rintro e w41 ⟨rfl, hB⟩; have hB_41 : Below w40.heap.size w40 w41 := (bl.next hB); have Y_41 := Y_40.next hB_41; have cY_41_0 : _ = some (Value.int .i64 u) := Y_41.cell 0; have cY_41_1 : _ = some (Value.int .i64 v) := Y_41.cell 1; have cY_41_2 : _ = some (Value.int .i64 z) := Y_41.cell 2; have Z_41 := Z_40.next hB_41; have cZ_41_0 : _ = some (Value.bool p) := Z_41.cell 0; have cZ_41_1 : _ = some (Value.bool q) := Z_41.cell 1; have cZ_41_2 : _ = some (Value.bool r) := Z_41.cell 2; have O_41 := O_40.next hB_41; have T_41 := T_40.next hB_41; have hbC_41 := hbC_40.next hB_41; have hbel_41 := hbel_40.next hB_41; have hsz_41 := hB_41.size; clear Y_40 cY_40_0 cY_40_1 cY_40_2 Z_40 cZ_40_0 cZ_40_1 cZ_40_2 O_40 T_40 hbC_40 hbel_40 hB_41; try clear hB))))
        all_goals (go_wp2_with fail; go_meet; exact ⟨rfl, hbC_41⟩)
    case rest =>
      obtain ⟨rfl, hBc⟩ := hcut
      have hB_27 : Below vqb.heap.size vqb wc := hBc
      have Y_27 := Y_26.next hB_27
      have cY_27_0 : _ = some (Value.int .i64 u) := Y_27.cell 0
      have cY_27_1 : _ = some (Value.int .i64 v) := Y_27.cell 1
      have cY_27_2 : _ = some (Value.int .i64 z) := Y_27.cell 2
      have Z_27 := Z_26.next hB_27
      have cZ_27_0 : _ = some (Value.bool p) := Z_27.cell 0
      have cZ_27_1 : _ = some (Value.bool q) := Z_27.cell 1
      have cZ_27_2 : _ = some (Value.bool r) := Z_27.cell 2
      have O_27 := O_26.next hB_27
      have T_27 := T_26.next hB_27
      have hbel_27 := hbel_26.next hB_27
      have hsz_27 := hB_27.size
      clear Y_26 cY_26_0 cY_26_1 cY_26_2 Z_26 cZ_26_0 cZ_26_1 cZ_26_2 O_26 T_26 hbel_26 hB_27
      clear hBc
      obtain ⟨vrb, hwc⟩ : ∃ y : World, y = wc := ⟨_, rfl⟩
      subst hwc
      go_wp2
      go_ret
      exact ⟨rfl, hbel_27⟩

end Go.Proofs.YtbfhnlbdpbfalaaGreat
