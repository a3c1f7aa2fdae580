/- THE WALK OF credencelaw04.DecimalPeriod: any fraction, any most. -/
import Derived.Test.YtbodlkfhmapngaaDp
import Derived.Test.YtbodlkfhmapngaaDj
namespace Go.Proofs.Ytbodlkfhmapngaa
set_option linter.unusedVariables false
set_option linter.unusedSimpArgs false
open Go.ChangeShapes Go.WideShapes Go.ChangeAt Go.RowKit Go.NatP

set_option maxRecDepth 100000 in
set_option maxHeartbeats 4000000 in
theorem dperbad1 {w : World} {a1 b1 : Option Addr} {n1 c1 m1 d1 : Nat} {s : Bool} (z : Int) (h1 : -9223372036854775808 ≤ z) (h2 : z ≤ 9223372036854775807) (h : z < 0) :
    Calls Try.prog 27 #[.agg #[.bool s, .slice a1 n1 c1, .slice b1 m1 d1], .int .i64 z] w (RetSSE w ⟨#[]⟩ ⟨#[]⟩ 3) := by
  have hent := ent1 w #[Value.bool s, Value.slice a1 n1 c1, Value.slice b1 m1 d1] 29
  go_enter Try.func27, Try.ntmps27
  go_wp2_with fail
  generalize (w.alloc (.cells #[Value.bool s, Value.slice a1 n1 c1, Value.slice b1 m1 d1] 29)) = W0 at hent ⊢
  obtain ⟨X_0, hbel_0, hsz_0⟩ := hent
  have cX_0_0 : _ = some (Value.bool s) := X_0.cell 0
  have cX_0_1 : _ = some (Value.slice a1 n1 c1) := X_0.cell 1
  have cX_0_2 : _ = some (Value.slice b1 m1 d1) := X_0.cell 2
  go_wp2
  go_ret3
  exact ⟨rfl, hbel_0⟩

set_option maxRecDepth 100000 in
set_option maxHeartbeats 4000000 in
theorem dperbad0 {w : World} {a1 b1 : Option Addr} {n1 c1 m1 d1 : Nat} {s : Bool} (z : Int) (h1 : -9223372036854775808 ≤ z) (h2 : z ≤ 9223372036854775807) (h : 4096 < z) :
    Calls Try.prog 27 #[.agg #[.bool s, .slice a1 n1 c1, .slice b1 m1 d1], .int .i64 z] w (RetSSE w ⟨#[]⟩ ⟨#[]⟩ 3) := by
  have hent := ent1 w #[Value.bool s, Value.slice a1 n1 c1, Value.slice b1 m1 d1] 29
  go_enter Try.func27, Try.ntmps27
  go_wp2_with fail
  generalize (w.alloc (.cells #[Value.bool s, Value.slice a1 n1 c1, Value.slice b1 m1 d1] 29)) = W0 at hent ⊢
  obtain ⟨X_0, hbel_0, hsz_0⟩ := hent
  have cX_0_0 : _ = some (Value.bool s) := X_0.cell 0
  have cX_0_1 : _ = some (Value.slice a1 n1 c1) := X_0.cell 1
  have cX_0_2 : _ = some (Value.slice b1 m1 d1) := X_0.cell 2
  go_wp2
  go_ret3
  exact ⟨rfl, hbel_0⟩

set_option maxRecDepth 100000 in
set_option maxHeartbeats 4000000 in
theorem rperbad1 {w : World} {a1 b1 : Option Addr} {n1 c1 m1 d1 : Nat} {s : Bool} (z : Int) (h1 : -9223372036854775808 ≤ z) (h2 : z ≤ 9223372036854775807) (h : z < 0) :
    Calls Try.prog 26 #[.agg #[.bool s, .slice a1 n1 c1, .slice b1 m1 d1], .int .i64 z] w (RetSSE w ⟨#[]⟩ ⟨#[]⟩ 3) := by
  have hent := ent1 w #[Value.bool s, Value.slice a1 n1 c1, Value.slice b1 m1 d1] 29
  go_enter Try.func26, Try.ntmps26
  go_wp2_with fail
  generalize (w.alloc (.cells #[Value.bool s, Value.slice a1 n1 c1, Value.slice b1 m1 d1] 29)) = W0 at hent ⊢
  obtain ⟨X_0, hbel_0, hsz_0⟩ := hent
  have cX_0_0 : _ = some (Value.bool s) := X_0.cell 0
  have cX_0_1 : _ = some (Value.slice a1 n1 c1) := X_0.cell 1
  have cX_0_2 : _ = some (Value.slice b1 m1 d1) := X_0.cell 2
  go_wp2
  go_ret3
  exact ⟨rfl, hbel_0⟩

set_option maxRecDepth 100000 in
set_option maxHeartbeats 4000000 in
theorem rperbad0 {w : World} {a1 b1 : Option Addr} {n1 c1 m1 d1 : Nat} {s : Bool} (z : Int) (h1 : -9223372036854775808 ≤ z) (h2 : z ≤ 9223372036854775807) (h : 4096 < z) :
    Calls Try.prog 26 #[.agg #[.bool s, .slice a1 n1 c1, .slice b1 m1 d1], .int .i64 z] w (RetSSE w ⟨#[]⟩ ⟨#[]⟩ 3) := by
  have hent := ent1 w #[Value.bool s, Value.slice a1 n1 c1, Value.slice b1 m1 d1] 29
  go_enter Try.func26, Try.ntmps26
  go_wp2_with fail
  generalize (w.alloc (.cells #[Value.bool s, Value.slice a1 n1 c1, Value.slice b1 m1 d1] 29)) = W0 at hent ⊢
  obtain ⟨X_0, hbel_0, hsz_0⟩ := hent
  have cX_0_0 : _ = some (Value.bool s) := X_0.cell 0
  have cX_0_1 : _ = some (Value.slice a1 n1 c1) := X_0.cell 1
  have cX_0_2 : _ = some (Value.slice b1 m1 d1) := X_0.cell 2
  go_wp2
  go_ret3
  exact ⟨rfl, hbel_0⟩

set_option maxRecDepth 100000 in
set_option maxHeartbeats 8000000 in
theorem dperiod_law0 {w : World} {a b : Option Addr} {n c m d : Nat} {l k : List Nat} (s : Bool) (ha : Rd w a n c l) (hb : Rd w b m d k) (z : Int) (h1 : -9223372036854775808 ≤ z) (h2 : z ≤ 9223372036854775807) (hz : 0 ≤ z) (hN : z ≤ 4096) :
    Calls Try.prog 4 #[.agg #[.bool s, .slice a n c, .slice b m d], .int .i64 z] w (fun e w' => e = .returned (.bool true) ∧ Below w.heap.size w w') := by
  obtain ⟨n1, hn1⟩ : ∃ y, y = min n 40 := ⟨_, rfl⟩
  obtain ⟨m1, hm1⟩ : ∃ y, y = min m 40 := ⟨_, rfl⟩
  have hnn : n1 ≤ n := by omega
  have hmm : m1 ≤ m := by omega
  have hn4 : n1 ≤ 40 := by omega
  have hm4 : m1 ≤ 40 := by omega
  have HC := hid (fun (W : World) (h : Below w.heap.size w W) => lcut (s := s) (ha.below h) (hb.below h) hn1 hm1)
  have HK := hid (fun (W : World) (h : Below w.heap.size w W) {a' b' : Option Addr} {c' d' : Nat} (h1 : Lent7 W a' n1 c' (l.take n1)) (h2 : Lent7 W b' m1 d' (k.take m1)) => lkept (s := s) h1 h2 (ha.below h) (hb.below h) hnn hmm)
  generalize l.take n1 = L at *
  generalize k.take m1 = M at *
  clear hn1 hm1 ha hb
  obtain ⟨bt1, bt2⟩ := bdN_bd z (n := 600) (by omega)
  have HBt := hid (fun w => lbound (w := w) z 600 h1 h2 (by omega) (by omega))
  obtain ⟨N, hBT⟩ : ∃ y : Nat, bdN z 600 = (y : Int) := ⟨(bdN z 600).toNat, by omega⟩
  rw [hBT] at HBt bt1 bt2
  clear hBT
  obtain ⟨R, hR⟩ := per_exists (qv s (val L) (val M)).num.natAbs (qv s (val L) (val M)).den N
  have HP := hid (fun (W : World) {a' b' : Option Addr} {c' d' : Nat} (h : RdQ 40 W s a' n1 c' b' m1 d' (qv s (val L) (val M))) => dper h (by omega) N (by omega) hR)
  have HR := hid (fun (W : World) {a' b' : Option Addr} {c' d' : Nat} (h : RdQ 40 W s a' n1 c' b' m1 d' (qv s (val L) (val M))) => rper h (by omega) N (by omega) hR)
  generalize peA (qv s (val L) (val M)).num.natAbs (qv s (val L) (val M)).den R = T at *
  generalize peB (qv s (val L) (val M)).num.natAbs (qv s (val L) (val M)).den R = U at *
  obtain ⟨er, her⟩ : ∃ y, peE R = y := ⟨_, rfl⟩
  rw [her] at HP HR
  clear her hR
  have hent := ent1 w #[Value.bool s, Value.slice a n c, Value.slice b m d] 29
  go_enter Try.func4, Try.ntmps4
  go_wp2_with fail
  generalize (w.alloc (.cells #[Value.bool s, Value.slice a n c, Value.slice b m d] 29)) = W0 at hent ⊢
  obtain ⟨X_0, hbel_0, hsz_0⟩ := hent
  have cX_0_0 : _ = some (Value.bool s) := X_0.cell 0
  have cX_0_1 : _ = some (Value.slice a n c) := X_0.cell 1
  have cX_0_2 : _ = some (Value.slice b m d) := X_0.cell 2
  go_wp2_with fail
  refine (HC.out _ hbel_0).mono ?_
  rintro e w1 ⟨pa, pc, pb, pd, rfl, hL1, hL2, hB⟩
  have hB_1 : Below W0.heap.size W0 w1 := (bl.next hB)
  have X_1 := X_0.next hB_1
  have cX_1_0 : _ = some (Value.bool s) := X_1.cell 0
  have cX_1_1 : _ = some (Value.slice a n c) := X_1.cell 1
  have cX_1_2 : _ = some (Value.slice b m d) := X_1.cell 2
  have hbel_1 := hbel_0.next hB_1
  have hsz_1 := hB_1.size
  clear X_0 cX_0_0 cX_0_1 cX_0_2 hbel_0 hB_1
  have A_1 := hL1
  have B_1 := hL2
  clear hL1 hL2
  try clear hB
  have hbx := blk_new w1 #[Value.bool s, Value.slice pa n1 pc, Value.slice pb m1 pd] 29
  have hbB := (Below.refl w1.heap.size w1).alloc (Nat.le_refl _) (.cells #[Value.bool s, Value.slice pa n1 pc, Value.slice pb m1 pd] 29)
  have hltM := hbx.lt
  have hB_2 : Below w1.heap.size w1 (w1.alloc (.cells #[Value.bool s, Value.slice pa n1 pc, Value.slice pb m1 pd] 29)) := hbB
  have X_2 := X_1.next hB_2
  have cX_2_0 : _ = some (Value.bool s) := X_2.cell 0
  have cX_2_1 : _ = some (Value.slice a n c) := X_2.cell 1
  have cX_2_2 : _ = some (Value.slice b m d) := X_2.cell 2
  have A_2 := A_1.below hB_2
  have B_2 := B_1.below hB_2
  have hbel_2 := hbel_1.next hB_2
  have hsz_2 := hB_2.size
  clear hB_2
  have M_2 := hbx
  clear hbx hbB
  have cM_2_0 : _ = some (Value.bool s) := M_2.cell 0
  have cM_2_1 : _ = some (Value.slice pa n1 pc) := M_2.cell 1
  have cM_2_2 : _ = some (Value.slice pb m1 pd) := M_2.cell 2
  go_wp2_with fail
  clear X_1 cX_1_0 cX_1_1 cX_1_2 A_1 B_1 hbel_1
  generalize (w1.alloc (.cells #[Value.bool s, Value.slice pa n1 pc, Value.slice pb m1 pd] 29)) = v2 at *
  go_wp2_with fail
  refine (HBt.out _).mono ?_
  rintro e w3 ⟨rfl, hB⟩
  have hB_3 : Below v2.heap.size v2 w3 := (bl.next hB)
  have X_3 := X_2.next hB_3
  have cX_3_0 : _ = some (Value.bool s) := X_3.cell 0
  have cX_3_1 : _ = some (Value.slice a n c) := X_3.cell 1
  have cX_3_2 : _ = some (Value.slice b m d) := X_3.cell 2
  have M_3 := M_2.next hB_3
  have cM_3_0 : _ = some (Value.bool s) := M_3.cell 0
  have cM_3_1 : _ = some (Value.slice pa n1 pc) := M_3.cell 1
  have cM_3_2 : _ = some (Value.slice pb m1 pd) := M_3.cell 2
  have A_3 := A_2.below hB_3
  have B_3 := B_2.below hB_3
  have hbel_3 := hbel_2.next hB_3
  have hsz_3 := hB_3.size
  clear X_2 cX_2_0 cX_2_1 cX_2_2 M_2 cM_2_0 cM_2_1 cM_2_2 A_2 B_2 hbel_2 hB_3
  try clear hB
  go_wp2_with fail
  refine (HC.out _ hbel_3).mono ?_
  rintro e w4 ⟨ra, rc, rb, rd, rfl, hL1, hL2, hB⟩
  have hB_4 : Below w3.heap.size w3 w4 := (bl.next hB)
  have X_4 := X_3.next hB_4
  have cX_4_0 : _ = some (Value.bool s) := X_4.cell 0
  have cX_4_1 : _ = some (Value.slice a n c) := X_4.cell 1
  have cX_4_2 : _ = some (Value.slice b m d) := X_4.cell 2
  have M_4 := M_3.next hB_4
  have cM_4_0 : _ = some (Value.bool s) := M_4.cell 0
  have cM_4_1 : _ = some (Value.slice pa n1 pc) := M_4.cell 1
  have cM_4_2 : _ = some (Value.slice pb m1 pd) := M_4.cell 2
  have A_4 := A_3.below hB_4
  have B_4 := B_3.below hB_4
  have hbel_4 := hbel_3.next hB_4
  have hsz_4 := hB_4.size
  clear X_3 cX_3_0 cX_3_1 cX_3_2 M_3 cM_3_0 cM_3_1 cM_3_2 A_3 B_3 hbel_3 hB_4
  have Q_4 := rdq_of (K := 40) s hL1.2 hn4 hL2.2 hm4
  clear hL1 hL2
  try clear hB
  go_wp2_with fail
  refine (HR.out _ Q_4).mono ?_
  rintro e w5 ⟨rfl, hB⟩
  have hB_5 : Below w4.heap.size w4 w5 := (bl.next hB)
  have X_5 := X_4.next hB_5
  have cX_5_0 : _ = some (Value.bool s) := X_5.cell 0
  have cX_5_1 : _ = some (Value.slice a n c) := X_5.cell 1
  have cX_5_2 : _ = some (Value.slice b m d) := X_5.cell 2
  have M_5 := M_4.next hB_5
  have cM_5_0 : _ = some (Value.bool s) := M_5.cell 0
  have cM_5_1 : _ = some (Value.slice pa n1 pc) := M_5.cell 1
  have cM_5_2 : _ = some (Value.slice pb m1 pd) := M_5.cell 2
  have A_5 := A_4.below hB_5
  have B_5 := B_4.below hB_5
  have Q_5 := Q_4.below hB_5
  have hbel_5 := hbel_4.next hB_5
  have hsz_5 := hB_5.size
  clear X_4 cX_4_0 cX_4_1 cX_4_2 M_4 cM_4_0 cM_4_1 cM_4_2 A_4 B_4 Q_4 hbel_4 hB_5
  try clear hB
  clear Q_5
  have P_5 := rdq_of (K := 40) s A_5.2 hn4 B_5.2 hm4
  go_wp2_with fail
  refine (HP.out _ P_5).mono ?_
  rintro e w6 ⟨rfl, hB⟩
  have hB_6 : Below w5.heap.size w5 w6 := (bl.next hB)
  have X_6 := X_5.next hB_6
  have cX_6_0 : _ = some (Value.bool s) := X_6.cell 0
  have cX_6_1 : _ = some (Value.slice a n c) := X_6.cell 1
  have cX_6_2 : _ = some (Value.slice b m d) := X_6.cell 2
  have M_6 := M_5.next hB_6
  have cM_6_0 : _ = some (Value.bool s) := M_6.cell 0
  have cM_6_1 : _ = some (Value.slice pa n1 pc) := M_6.cell 1
  have cM_6_2 : _ = some (Value.slice pb m1 pd) := M_6.cell 2
  have A_6 := A_5.below hB_6
  have B_6 := B_5.below hB_6
  have P_6 := P_5.below hB_6
  have hbel_6 := hbel_5.next hB_6
  have hsz_6 := hB_6.size
  clear X_5 cX_5_0 cX_5_1 cX_5_2 M_5 cM_5_0 cM_5_1 cM_5_2 A_5 B_5 P_5 hbel_5 hB_6
  try clear hB
  clear P_6
  go_wp2_with fail
  refine (HK.out _ hbel_6 A_6 B_6).mono ?_
  rintro e w7 ⟨rfl, hB⟩
  have hB_7 : Below w6.heap.size w6 w7 := (bl.next hB)
  have X_7 := X_6.next hB_7
  have cX_7_0 : _ = some (Value.bool s) := X_7.cell 0
  have cX_7_1 : _ = some (Value.slice a n c) := X_7.cell 1
  have cX_7_2 : _ = some (Value.slice b m d) := X_7.cell 2
  have M_7 := M_6.next hB_7
  have cM_7_0 : _ = some (Value.bool s) := M_7.cell 0
  have cM_7_1 : _ = some (Value.slice pa n1 pc) := M_7.cell 1
  have cM_7_2 : _ = some (Value.slice pb m1 pd) := M_7.cell 2
  have A_7 := A_6.below hB_7
  have B_7 := B_6.below hB_7
  have hbel_7 := hbel_6.next hB_7
  have hsz_7 := hB_7.size
  clear X_6 cX_6_0 cX_6_1 cX_6_2 M_6 cM_6_0 cM_6_1 cM_6_2 A_6 B_6 hbel_6 hB_7
  try clear hB
  go_wp2
  go_ret
  exact ⟨rfl, hbel_7⟩

set_option maxRecDepth 100000 in
set_option maxHeartbeats 8000000 in
theorem dperiod_law1 {w : World} {a b : Option Addr} {n c m d : Nat} {l k : List Nat} (s : Bool) (ha : Rd w a n c l) (hb : Rd w b m d k) (z : Int) (h1 : -9223372036854775808 ≤ z) (h2 : z ≤ 9223372036854775807) (hz : z < 0) :
    Calls Try.prog 4 #[.agg #[.bool s, .slice a n c, .slice b m d], .int .i64 z] w (fun e w' => e = .returned (.bool true) ∧ Below w.heap.size w w') := by
  obtain ⟨n1, hn1⟩ : ∃ y, y = min n 40 := ⟨_, rfl⟩
  obtain ⟨m1, hm1⟩ : ∃ y, y = min m 40 := ⟨_, rfl⟩
  have hnn : n1 ≤ n := by omega
  have hmm : m1 ≤ m := by omega
  have hn4 : n1 ≤ 40 := by omega
  have hm4 : m1 ≤ 40 := by omega
  have HC := hid (fun (W : World) (h : Below w.heap.size w W) => lcut (s := s) (ha.below h) (hb.below h) hn1 hm1)
  have HK := hid (fun (W : World) (h : Below w.heap.size w W) {a' b' : Option Addr} {c' d' : Nat} (h1 : Lent7 W a' n1 c' (l.take n1)) (h2 : Lent7 W b' m1 d' (k.take m1)) => lkept (s := s) h1 h2 (ha.below h) (hb.below h) hnn hmm)
  generalize l.take n1 = L at *
  generalize k.take m1 = M at *
  clear hn1 hm1 ha hb
  have HP := hid (fun (W : World) {a' b' : Option Addr} {c' d' : Nat} (h : RdQ 40 W s a' n1 c' b' m1 d' (qv s (val L) (val M))) => dperbad1 (w := W) (s := s) (a1 := a') (n1 := n1) (c1 := c') (b1 := b') (m1 := m1) (d1 := d') z h1 h2 hz)
  have HR := hid (fun (W : World) {a' b' : Option Addr} {c' d' : Nat} (h : RdQ 40 W s a' n1 c' b' m1 d' (qv s (val L) (val M))) => rperbad1 (w := W) (s := s) (a1 := a') (n1 := n1) (c1 := c') (b1 := b') (m1 := m1) (d1 := d') z h1 h2 hz)
  obtain ⟨T, hT⟩ : ∃ T : ByteArray, (⟨#[]⟩ : ByteArray) = T := ⟨_, rfl⟩
  rw [hT] at HP HR
  clear hT
  have hent := ent1 w #[Value.bool s, Value.slice a n c, Value.slice b m d] 29
  go_enter Try.func4, Try.ntmps4
  go_wp2_with fail
  generalize (w.alloc (.cells #[Value.bool s, Value.slice a n c, Value.slice b m d] 29)) = W0 at hent ⊢
  obtain ⟨X_0, hbel_0, hsz_0⟩ := hent
  have cX_0_0 : _ = some (Value.bool s) := X_0.cell 0
  have cX_0_1 : _ = some (Value.slice a n c) := X_0.cell 1
  have cX_0_2 : _ = some (Value.slice b m d) := X_0.cell 2
  go_wp2_with fail
  refine (HC.out _ hbel_0).mono ?_
  rintro e w1 ⟨pa, pc, pb, pd, rfl, hL1, hL2, hB⟩
  have hB_1 : Below W0.heap.size W0 w1 := (bl.next hB)
  have X_1 := X_0.next hB_1
  have cX_1_0 : _ = some (Value.bool s) := X_1.cell 0
  have cX_1_1 : _ = some (Value.slice a n c) := X_1.cell 1
  have cX_1_2 : _ = some (Value.slice b m d) := X_1.cell 2
  have hbel_1 := hbel_0.next hB_1
  have hsz_1 := hB_1.size
  clear X_0 cX_0_0 cX_0_1 cX_0_2 hbel_0 hB_1
  have A_1 := hL1
  have B_1 := hL2
  clear hL1 hL2
  try clear hB
  have hbx := blk_new w1 #[Value.bool s, Value.slice pa n1 pc, Value.slice pb m1 pd] 29
  have hbB := (Below.refl w1.heap.size w1).alloc (Nat.le_refl _) (.cells #[Value.bool s, Value.slice pa n1 pc, Value.slice pb m1 pd] 29)
  have hltM := hbx.lt
  have hB_2 : Below w1.heap.size w1 (w1.alloc (.cells #[Value.bool s, Value.slice pa n1 pc, Value.slice pb m1 pd] 29)) := hbB
  have X_2 := X_1.next hB_2
  have cX_2_0 : _ = some (Value.bool s) := X_2.cell 0
  have cX_2_1 : _ = some (Value.slice a n c) := X_2.cell 1
  have cX_2_2 : _ = some (Value.slice b m d) := X_2.cell 2
  have A_2 := A_1.below hB_2
  have B_2 := B_1.below hB_2
  have hbel_2 := hbel_1.next hB_2
  have hsz_2 := hB_2.size
  clear hB_2
  have M_2 := hbx
  clear hbx hbB
  have cM_2_0 : _ = some (Value.bool s) := M_2.cell 0
  have cM_2_1 : _ = some (Value.slice pa n1 pc) := M_2.cell 1
  have cM_2_2 : _ = some (Value.slice pb m1 pd) := M_2.cell 2
  go_wp2_with fail
  clear X_1 cX_1_0 cX_1_1 cX_1_2 A_1 B_1 hbel_1
  generalize (w1.alloc (.cells #[Value.bool s, Value.slice pa n1 pc, Value.slice pb m1 pd] 29)) = v2 at *
  go_wp2_with fail
  refine (HC.out _ hbel_2).mono ?_
  rintro e w3 ⟨ra, rc, rb, rd, rfl, hL1, hL2, hB⟩
  have hB_3 : Below v2.heap.size v2 w3 := (bl.next hB)
  have X_3 := X_2.next hB_3
  have cX_3_0 : _ = some (Value.bool s) := X_3.cell 0
  have cX_3_1 : _ = some (Value.slice a n c) := X_3.cell 1
  have cX_3_2 : _ = some (Value.slice b m d) := X_3.cell 2
  have M_3 := M_2.next hB_3
  have cM_3_0 : _ = some (Value.bool s) := M_3.cell 0
  have cM_3_1 : _ = some (Value.slice pa n1 pc) := M_3.cell 1
  have cM_3_2 : _ = some (Value.slice pb m1 pd) := M_3.cell 2
  have A_3 := A_2.below hB_3
  have B_3 := B_2.below hB_3
  have hbel_3 := hbel_2.next hB_3
  have hsz_3 := hB_3.size
  clear X_2 cX_2_0 cX_2_1 cX_2_2 M_2 cM_2_0 cM_2_1 cM_2_2 A_2 B_2 hbel_2 hB_3
  have Q_3 := rdq_of (K := 40) s hL1.2 hn4 hL2.2 hm4
  clear hL1 hL2
  try clear hB
  go_wp2_with fail
  refine (HR.out _ Q_3).mono ?_
  rintro e w4 ⟨rfl, hB⟩
  have hB_4 : Below w3.heap.size w3 w4 := (bl.next hB)
  have X_4 := X_3.next hB_4
  have cX_4_0 : _ = some (Value.bool s) := X_4.cell 0
  have cX_4_1 : _ = some (Value.slice a n c) := X_4.cell 1
  have cX_4_2 : _ = some (Value.slice b m d) := X_4.cell 2
  have M_4 := M_3.next hB_4
  have cM_4_0 : _ = some (Value.bool s) := M_4.cell 0
  have cM_4_1 : _ = some (Value.slice pa n1 pc) := M_4.cell 1
  have cM_4_2 : _ = some (Value.slice pb m1 pd) := M_4.cell 2
  have A_4 := A_3.below hB_4
  have B_4 := B_3.below hB_4
  have Q_4 := Q_3.below hB_4
  have hbel_4 := hbel_3.next hB_4
  have hsz_4 := hB_4.size
  clear X_3 cX_3_0 cX_3_1 cX_3_2 M_3 cM_3_0 cM_3_1 cM_3_2 A_3 B_3 Q_3 hbel_3 hB_4
  try clear hB
  clear Q_4
  have P_4 := rdq_of (K := 40) s A_4.2 hn4 B_4.2 hm4
  go_wp2_with fail
  refine (HP.out _ P_4).mono ?_
  rintro e w5 ⟨rfl, hB⟩
  have hB_5 : Below w4.heap.size w4 w5 := (bl.next hB)
  have X_5 := X_4.next hB_5
  have cX_5_0 : _ = some (Value.bool s) := X_5.cell 0
  have cX_5_1 : _ = some (Value.slice a n c) := X_5.cell 1
  have cX_5_2 : _ = some (Value.slice b m d) := X_5.cell 2
  have M_5 := M_4.next hB_5
  have cM_5_0 : _ = some (Value.bool s) := M_5.cell 0
  have cM_5_1 : _ = some (Value.slice pa n1 pc) := M_5.cell 1
  have cM_5_2 : _ = some (Value.slice pb m1 pd) := M_5.cell 2
  have A_5 := A_4.below hB_5
  have B_5 := B_4.below hB_5
  have P_5 := P_4.below hB_5
  have hbel_5 := hbel_4.next hB_5
  have hsz_5 := hB_5.size
  clear X_4 cX_4_0 cX_4_1 cX_4_2 M_4 cM_4_0 cM_4_1 cM_4_2 A_4 B_4 P_4 hbel_4 hB_5
  try clear hB
  clear P_5
  go_wp2_with fail
  refine (HK.out _ hbel_5 A_5 B_5).mono ?_
  rintro e w6 ⟨rfl, hB⟩
  have hB_6 : Below w5.heap.size w5 w6 := (bl.next hB)
  have X_6 := X_5.next hB_6
  have cX_6_0 : _ = some (Value.bool s) := X_6.cell 0
  have cX_6_1 : _ = some (Value.slice a n c) := X_6.cell 1
  have cX_6_2 : _ = some (Value.slice b m d) := X_6.cell 2
  have M_6 := M_5.next hB_6
  have cM_6_0 : _ = some (Value.bool s) := M_6.cell 0
  have cM_6_1 : _ = some (Value.slice pa n1 pc) := M_6.cell 1
  have cM_6_2 : _ = some (Value.slice pb m1 pd) := M_6.cell 2
  have A_6 := A_5.below hB_6
  have B_6 := B_5.below hB_6
  have hbel_6 := hbel_5.next hB_6
  have hsz_6 := hB_6.size
  clear X_5 cX_5_0 cX_5_1 cX_5_2 M_5 cM_5_0 cM_5_1 cM_5_2 A_5 B_5 hbel_5 hB_6
  try clear hB
  go_wp2
  go_ret
  exact ⟨rfl, hbel_6⟩

set_option maxRecDepth 100000 in
set_option maxHeartbeats 8000000 in
theorem dperiod_law2 {w : World} {a b : Option Addr} {n c m d : Nat} {l k : List Nat} (s : Bool) (ha : Rd w a n c l) (hb : Rd w b m d k) (z : Int) (h1 : -9223372036854775808 ≤ z) (h2 : z ≤ 9223372036854775807) (hz : 4096 < z) :
    Calls Try.prog 4 #[.agg #[.bool s, .slice a n c, .slice b m d], .int .i64 z] w (fun e w' => e = .returned (.bool true) ∧ Below w.heap.size w w') := by
  obtain ⟨n1, hn1⟩ : ∃ y, y = min n 40 := ⟨_, rfl⟩
  obtain ⟨m1, hm1⟩ : ∃ y, y = min m 40 := ⟨_, rfl⟩
  have hnn : n1 ≤ n := by omega
  have hmm : m1 ≤ m := by omega
  have hn4 : n1 ≤ 40 := by omega
  have hm4 : m1 ≤ 40 := by omega
  have HC := hid (fun (W : World) (h : Below w.heap.size w W) => lcut (s := s) (ha.below h) (hb.below h) hn1 hm1)
  have HK := hid (fun (W : World) (h : Below w.heap.size w W) {a' b' : Option Addr} {c' d' : Nat} (h1 : Lent7 W a' n1 c' (l.take n1)) (h2 : Lent7 W b' m1 d' (k.take m1)) => lkept (s := s) h1 h2 (ha.below h) (hb.below h) hnn hmm)
  generalize l.take n1 = L at *
  generalize k.take m1 = M at *
  clear hn1 hm1 ha hb
  have HP := hid (fun (W : World) {a' b' : Option Addr} {c' d' : Nat} (h : RdQ 40 W s a' n1 c' b' m1 d' (qv s (val L) (val M))) => dperbad0 (w := W) (s := s) (a1 := a') (n1 := n1) (c1 := c') (b1 := b') (m1 := m1) (d1 := d') z h1 h2 hz)
  have HR := hid (fun (W : World) {a' b' : Option Addr} {c' d' : Nat} (h : RdQ 40 W s a' n1 c' b' m1 d' (qv s (val L) (val M))) => rperbad0 (w := W) (s := s) (a1 := a') (n1 := n1) (c1 := c') (b1 := b') (m1 := m1) (d1 := d') z h1 h2 hz)
  obtain ⟨T, hT⟩ : ∃ T : ByteArray, (⟨#[]⟩ : ByteArray) = T := ⟨_, rfl⟩
  rw [hT] at HP HR
  clear hT
  have hent := ent1 w #[Value.bool s, Value.slice a n c, Value.slice b m d] 29
  go_enter Try.func4, Try.ntmps4
  go_wp2_with fail
  generalize (w.alloc (.cells #[Value.bool s, Value.slice a n c, Value.slice b m d] 29)) = W0 at hent ⊢
  obtain ⟨X_0, hbel_0, hsz_0⟩ := hent
  have cX_0_0 : _ = some (Value.bool s) := X_0.cell 0
  have cX_0_1 : _ = some (Value.slice a n c) := X_0.cell 1
  have cX_0_2 : _ = some (Value.slice b m d) := X_0.cell 2
  go_wp2_with fail
  refine (HC.out _ hbel_0).mono ?_
  rintro e w1 ⟨pa, pc, pb, pd, rfl, hL1, hL2, hB⟩
  have hB_1 : Below W0.heap.size W0 w1 := (bl.next hB)
  have X_1 := X_0.next hB_1
  have cX_1_0 : _ = some (Value.bool s) := X_1.cell 0
  have cX_1_1 : _ = some (Value.slice a n c) := X_1.cell 1
  have cX_1_2 : _ = some (Value.slice b m d) := X_1.cell 2
  have hbel_1 := hbel_0.next hB_1
  have hsz_1 := hB_1.size
  clear X_0 cX_0_0 cX_0_1 cX_0_2 hbel_0 hB_1
  have A_1 := hL1
  have B_1 := hL2
  clear hL1 hL2
  try clear hB
  have hbx := blk_new w1 #[Value.bool s, Value.slice pa n1 pc, Value.slice pb m1 pd] 29
  have hbB := (Below.refl w1.heap.size w1).alloc (Nat.le_refl _) (.cells #[Value.bool s, Value.slice pa n1 pc, Value.slice pb m1 pd] 29)
  have hltM := hbx.lt
  have hB_2 : Below w1.heap.size w1 (w1.alloc (.cells #[Value.bool s, Value.slice pa n1 pc, Value.slice pb m1 pd] 29)) := hbB
  have X_2 := X_1.next hB_2
  have cX_2_0 : _ = some (Value.bool s) := X_2.cell 0
  have cX_2_1 : _ = some (Value.slice a n c) := X_2.cell 1
  have cX_2_2 : _ = some (Value.slice b m d) := X_2.cell 2
  have A_2 := A_1.below hB_2
  have B_2 := B_1.below hB_2
  have hbel_2 := hbel_1.next hB_2
  have hsz_2 := hB_2.size
  clear hB_2
  have M_2 := hbx
  clear hbx hbB
  have cM_2_0 : _ = some (Value.bool s) := M_2.cell 0
  have cM_2_1 : _ = some (Value.slice pa n1 pc) := M_2.cell 1
  have cM_2_2 : _ = some (Value.slice pb m1 pd) := M_2.cell 2
  go_wp2_with fail
  clear X_1 cX_1_0 cX_1_1 cX_1_2 A_1 B_1 hbel_1
  generalize (w1.alloc (.cells #[Value.bool s, Value.slice pa n1 pc, Value.slice pb m1 pd] 29)) = v2 at *
  go_wp2_with fail
  refine (HC.out _ hbel_2).mono ?_
  rintro e w3 ⟨ra, rc, rb, rd, rfl, hL1, hL2, hB⟩
  have hB_3 : Below v2.heap.size v2 w3 := (bl.next hB)
  have X_3 := X_2.next hB_3
  have cX_3_0 : _ = some (Value.bool s) := X_3.cell 0
  have cX_3_1 : _ = some (Value.slice a n c) := X_3.cell 1
  have cX_3_2 : _ = some (Value.slice b m d) := X_3.cell 2
  have M_3 := M_2.next hB_3
  have cM_3_0 : _ = some (Value.bool s) := M_3.cell 0
  have cM_3_1 : _ = some (Value.slice pa n1 pc) := M_3.cell 1
  have cM_3_2 : _ = some (Value.slice pb m1 pd) := M_3.cell 2
  have A_3 := A_2.below hB_3
  have B_3 := B_2.below hB_3
  have hbel_3 := hbel_2.next hB_3
  have hsz_3 := hB_3.size
  clear X_2 cX_2_0 cX_2_1 cX_2_2 M_2 cM_2_0 cM_2_1 cM_2_2 A_2 B_2 hbel_2 hB_3
  have Q_3 := rdq_of (K := 40) s hL1.2 hn4 hL2.2 hm4
  clear hL1 hL2
  try clear hB
  go_wp2_with fail
  refine (HR.out _ Q_3).mono ?_
  rintro e w4 ⟨rfl, hB⟩
  have hB_4 : Below w3.heap.size w3 w4 := (bl.next hB)
  have X_4 := X_3.next hB_4
  have cX_4_0 : _ = some (Value.bool s) := X_4.cell 0
  have cX_4_1 : _ = some (Value.slice a n c) := X_4.cell 1
  have cX_4_2 : _ = some (Value.slice b m d) := X_4.cell 2
  have M_4 := M_3.next hB_4
  have cM_4_0 : _ = some (Value.bool s) := M_4.cell 0
  have cM_4_1 : _ = some (Value.slice pa n1 pc) := M_4.cell 1
  have cM_4_2 : _ = some (Value.slice pb m1 pd) := M_4.cell 2
  have A_4 := A_3.below hB_4
  have B_4 := B_3.below hB_4
  have Q_4 := Q_3.below hB_4
  have hbel_4 := hbel_3.next hB_4
  have hsz_4 := hB_4.size
  clear X_3 cX_3_0 cX_3_1 cX_3_2 M_3 cM_3_0 cM_3_1 cM_3_2 A_3 B_3 Q_3 hbel_3 hB_4
  try clear hB
  clear Q_4
  have P_4 := rdq_of (K := 40) s A_4.2 hn4 B_4.2 hm4
  go_wp2_with fail
  refine (HP.out _ P_4).mono ?_
  rintro e w5 ⟨rfl, hB⟩
  have hB_5 : Below w4.heap.size w4 w5 := (bl.next hB)
  have X_5 := X_4.next hB_5
  have cX_5_0 : _ = some (Value.bool s) := X_5.cell 0
  have cX_5_1 : _ = some (Value.slice a n c) := X_5.cell 1
  have cX_5_2 : _ = some (Value.slice b m d) := X_5.cell 2
  have M_5 := M_4.next hB_5
  have cM_5_0 : _ = some (Value.bool s) := M_5.cell 0
  have cM_5_1 : _ = some (Value.slice pa n1 pc) := M_5.cell 1
  have cM_5_2 : _ = some (Value.slice pb m1 pd) := M_5.cell 2
  have A_5 := A_4.below hB_5
  have B_5 := B_4.below hB_5
  have P_5 := P_4.below hB_5
  have hbel_5 := hbel_4.next hB_5
  have hsz_5 := hB_5.size
  clear X_4 cX_4_0 cX_4_1 cX_4_2 M_4 cM_4_0 cM_4_1 cM_4_2 A_4 B_4 P_4 hbel_4 hB_5
  try clear hB
  clear P_5
  go_wp2_with fail
  refine (HK.out _ hbel_5 A_5 B_5).mono ?_
  rintro e w6 ⟨rfl, hB⟩
  have hB_6 : Below w5.heap.size w5 w6 := (bl.next hB)
  have X_6 := X_5.next hB_6
  have cX_6_0 : _ = some (Value.bool s) := X_6.cell 0
  have cX_6_1 : _ = some (Value.slice a n c) := X_6.cell 1
  have cX_6_2 : _ = some (Value.slice b m d) := X_6.cell 2
  have M_6 := M_5.next hB_6
  have cM_6_0 : _ = some (Value.bool s) := M_6.cell 0
  have cM_6_1 : _ = some (Value.slice pa n1 pc) := M_6.cell 1
  have cM_6_2 : _ = some (Value.slice pb m1 pd) := M_6.cell 2
  have A_6 := A_5.below hB_6
  have B_6 := B_5.below hB_6
  have hbel_6 := hbel_5.next hB_6
  have hsz_6 := hB_6.size
  clear X_5 cX_5_0 cX_5_1 cX_5_2 M_5 cM_5_0 cM_5_1 cM_5_2 A_5 B_5 hbel_5 hB_6
  try clear hB
  go_wp2
  go_ret
  exact ⟨rfl, hbel_6⟩

theorem decimalPeriod_walk {w : World} {a b : Option Addr} {n c m d : Nat} {l k : List Nat} (s : Bool) (ha : Rd w a n c l) (hb : Rd w b m d k) (z : Int) (h1 : -9223372036854775808 ≤ z) (h2 : z ≤ 9223372036854775807) : Calls Try.prog 4 #[.agg #[.bool s, .slice a n c, .slice b m d], .int .i64 z] w (fun e w' => e = .returned (.bool true) ∧ Below w.heap.size w w') := by
  by_cases hneg : z < 0
  · exact dperiod_law1 s ha hb z h1 h2 hneg
  · by_cases hbig : 4096 < z
    · exact dperiod_law2 s ha hb z h1 h2 hbig
    · exact dperiod_law0 s ha hb z h1 h2 (by omega) (by omega)
end Go.Proofs.Ytbodlkfhmapngaa
