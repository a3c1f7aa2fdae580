/- THE WALK OF credencelaw03.FracLeast: the simplest of all from a to b lies there; none there has a denominator that is less, and of its denominator none is nearer to 0. -/
import Derived.Test.YtenmjgnhneofjaaQn
import Derived.Test.YtenmjgnhneofjaaRb3
import Derived.Deep.CutBlock
import Derived.IntWalk
namespace Go.Proofs.Ytenmjgnhneofjaa
set_option linter.unusedVariables false
set_option linter.unusedSimpArgs false
open Go.ChangeShapes Go.WideShapes Go.ChangeAt Go.RowKit Go.NatP

/-- two blocks hold fractions that can be read, the one not above the other -/
def LeastAB (g h : Nat) (W : World) : Prop := ∃ (sl : Bool) (al : Option Addr) (nl cl : Nat) (bl : Option Addr) (ml dl : Nat) (sh : Bool) (ah : Option Addr) (nh ch : Nat) (bh : Option Addr) (mh dh : Nat) (lo hi : Rat),
  Blk W g #[.bool sl, .slice al nl cl, .slice bl ml dl] ∧ Blk W h #[.bool sh, .slice ah nh ch, .slice bh mh dh] ∧ RdQ 3 W sl al nl cl bl ml dl lo ∧ RdQ 3 W sh ah nh ch bh mh dh hi ∧ lo ≤ hi
theorem divInt_one (n : Int) : Rat.divInt n 1 = (n : Rat) := by rw [show (1 : Int) = ((1 : Nat) : Int) from rfl, Rat.divInt_ofNat, Rat.mkRat_one]

set_option maxRecDepth 100000 in
set_option maxHeartbeats 32000000 in
theorem fracLeast_walk {w : World} {a b a' b' : Option Addr} {n c m d n' c' m' d' : Nat} {la lb la' lb' : List Nat} (s : Bool) (ha : Rd w a n c la) (hb : Rd w b m d lb) (t : Bool) (ha' : Rd w a' n' c' la') (hb' : Rd w b' m' d' lb') :
    Calls Try.prog 10 #[.agg #[.bool s, .slice a n c, .slice b m d], .agg #[.bool t, .slice a' n' c', .slice b' m' d']] w (fun e w' => e = .returned (.bool true) ∧ Below w.heap.size w w') := by
  have HA := hid ha
  have HB := hid hb
  have HC := hid ha'
  have HD := hid hb'
  have hent := ent2 w #[Value.bool s, Value.slice a n c, Value.slice b m d] #[Value.bool t, Value.slice a' n' c', Value.slice b' m' d'] 32 32
  go_enter Try.func10, Try.ntmps10
  go_wp2_with fail
  generalize ((w.alloc (.cells #[Value.bool s, Value.slice a n c, Value.slice b m d] 32)).alloc (.cells #[Value.bool t, Value.slice a' n' c', Value.slice b' m' d'] 32)) = W0 at hent ⊢
  obtain ⟨X_0, Y_0, hbel_0, hsz_0⟩ := hent
  have cX_0_0 : _ = some (Value.bool s) := X_0.cell 0
  have cX_0_1 : _ = some (Value.slice a n c) := X_0.cell 1
  have cX_0_2 : _ = some (Value.slice b m d) := X_0.cell 2
  have cY_0_0 : _ = some (Value.bool t) := Y_0.cell 0
  have cY_0_1 : _ = some (Value.slice a' n' c') := Y_0.cell 1
  have cY_0_2 : _ = some (Value.slice b' m' d') := Y_0.cell 2
  have ha_0 := ha.below hbel_0
  clear ha
  have hb_0 := hb.below hbel_0
  clear hb
  have ha'_0 := ha'.below hbel_0
  clear ha'
  have hb'_0 := hb'.below hbel_0
  clear hb'
  go_wp2_with fail
  refine (fawake).mono ?_
  rintro e w1 ⟨rfl, hB⟩
  have hB_1 : Below W0.heap.size W0 w1 := (by first | exact hB | exact below_drew hB | exact bel_alloc hB | exact below_drew (bel_alloc hB) | exact bel_alloc (below_drew hB) | exact bel_alloc (bel_alloc hB) | exact bel_alloc (bel_alloc (below_drew hB)))
  have X_1 := X_0.next hB_1
  have cX_1_0 : _ = some (Value.bool s) := X_1.cell 0
  have cX_1_1 : _ = some (Value.slice a n c) := X_1.cell 1
  have cX_1_2 : _ = some (Value.slice b m d) := X_1.cell 2
  have Y_1 := Y_0.next hB_1
  have cY_1_0 : _ = some (Value.bool t) := Y_1.cell 0
  have cY_1_1 : _ = some (Value.slice a' n' c') := Y_1.cell 1
  have cY_1_2 : _ = some (Value.slice b' m' d') := Y_1.cell 2
  have ha_1 := ha_0.below hB_1
  have hb_1 := hb_0.below hB_1
  have ha'_1 := ha'_0.below hB_1
  have hb'_1 := hb'_0.below hB_1
  have hbel_1 := hbel_0.next hB_1
  have hsz_1 := hB_1.size
  clear X_0 cX_0_0 cX_0_1 cX_0_2 Y_0 cY_0_0 cY_0_1 cY_0_2 ha_0 hb_0 ha'_0 hb'_0 hbel_0 hB_1
  try clear hB
  go_wp2_with fail
  refine (fcut 3 (by omega) ha_1 hb_1).mono ?_
  rintro e w2 ⟨n1, l1, m1, k1, rfl, hn1, hm1, hln1, hlm1, hR, hR', hB⟩
  have hB_2 : Below w1.heap.size w1 w2 := (by first | exact hB | exact below_drew hB | exact bel_alloc hB | exact below_drew (bel_alloc hB) | exact bel_alloc (below_drew hB) | exact bel_alloc (bel_alloc hB) | exact bel_alloc (bel_alloc (below_drew hB)))
  have X_2 := X_1.next hB_2
  have cX_2_0 : _ = some (Value.bool s) := X_2.cell 0
  have cX_2_1 : _ = some (Value.slice a n c) := X_2.cell 1
  have cX_2_2 : _ = some (Value.slice b m d) := X_2.cell 2
  have Y_2 := Y_1.next hB_2
  have cY_2_0 : _ = some (Value.bool t) := Y_2.cell 0
  have cY_2_1 : _ = some (Value.slice a' n' c') := Y_2.cell 1
  have cY_2_2 : _ = some (Value.slice b' m' d') := Y_2.cell 2
  have ha_2 := ha_1.below hB_2
  have hb_2 := hb_1.below hB_2
  have ha'_2 := ha'_1.below hB_2
  have hb'_2 := hb'_1.below hB_2
  have hbel_2 := hbel_1.next hB_2
  have hsz_2 := hB_2.size
  clear X_1 cX_1_0 cX_1_1 cX_1_2 Y_1 cY_1_0 cY_1_1 cY_1_2 ha_1 hb_1 ha'_1 hb'_1 hbel_1 hB_2
  have A_2 := hR
  have B_2 := hR'
  clear hR hR'
  try clear hB
  have hbx := blk_new w2 #[Value.bool s, Value.slice a n1 c, Value.slice b m1 d] 32
  have hbB := (Below.refl w2.heap.size w2).alloc (Nat.le_refl _) (.cells #[Value.bool s, Value.slice a n1 c, Value.slice b m1 d] 32)
  have hltP := hbx.lt
  have hB_3 : Below w2.heap.size w2 (w2.alloc (.cells #[Value.bool s, Value.slice a n1 c, Value.slice b m1 d] 32)) := hbB
  have X_3 := X_2.next hB_3
  have cX_3_0 : _ = some (Value.bool s) := X_3.cell 0
  have cX_3_1 : _ = some (Value.slice a n c) := X_3.cell 1
  have cX_3_2 : _ = some (Value.slice b m d) := X_3.cell 2
  have Y_3 := Y_2.next hB_3
  have cY_3_0 : _ = some (Value.bool t) := Y_3.cell 0
  have cY_3_1 : _ = some (Value.slice a' n' c') := Y_3.cell 1
  have cY_3_2 : _ = some (Value.slice b' m' d') := Y_3.cell 2
  have ha_3 := ha_2.below hB_3
  have hb_3 := hb_2.below hB_3
  have ha'_3 := ha'_2.below hB_3
  have hb'_3 := hb'_2.below hB_3
  have A_3 := A_2.below hB_3
  have B_3 := B_2.below hB_3
  have hbel_3 := hbel_2.next hB_3
  have hsz_3 := hB_3.size
  clear hB_3
  have P_3 := hbx
  clear hbx hbB
  have cP_3_0 : _ = some (Value.bool s) := P_3.cell 0
  have fP_3_0 := P_3.free 0
  have cP_3_1 : _ = some (Value.slice a n1 c) := P_3.cell 1
  have fP_3_1 := P_3.free 1
  have cP_3_2 : _ = some (Value.slice b m1 d) := P_3.cell 2
  have fP_3_2 := P_3.free 2
  go_wp2_with fail
  clear X_2 cX_2_0 cX_2_1 cX_2_2 Y_2 cY_2_0 cY_2_1 cY_2_2 ha_2 hb_2 ha'_2 hb'_2 A_2 B_2 hbel_2
  generalize (w2.alloc (.cells #[Value.bool s, Value.slice a n1 c, Value.slice b m1 d] 32)) = v3 at *
  clear ha_3
  clear hb_3
  go_wp2_with fail
  refine (fcut 3 (by omega) ha'_3 hb'_3).mono ?_
  rintro e w4 ⟨n2, l2, m2, k2, rfl, hn2, hm2, hln2, hlm2, hR, hR', hB⟩
  have hB_4 : Below v3.heap.size v3 w4 := (by first | exact hB | exact below_drew hB | exact bel_alloc hB | exact below_drew (bel_alloc hB) | exact bel_alloc (below_drew hB) | exact bel_alloc (bel_alloc hB) | exact bel_alloc (bel_alloc (below_drew hB)))
  have X_4 := X_3.next hB_4
  have cX_4_0 : _ = some (Value.bool s) := X_4.cell 0
  have cX_4_1 : _ = some (Value.slice a n c) := X_4.cell 1
  have cX_4_2 : _ = some (Value.slice b m d) := X_4.cell 2
  have Y_4 := Y_3.next hB_4
  have cY_4_0 : _ = some (Value.bool t) := Y_4.cell 0
  have cY_4_1 : _ = some (Value.slice a' n' c') := Y_4.cell 1
  have cY_4_2 : _ = some (Value.slice b' m' d') := Y_4.cell 2
  have P_4 := P_3.next hB_4
  have cP_4_0 : _ = some (Value.bool s) := P_4.cell 0
  have fP_4_0 := P_4.free 0
  have cP_4_1 : _ = some (Value.slice a n1 c) := P_4.cell 1
  have fP_4_1 := P_4.free 1
  have cP_4_2 : _ = some (Value.slice b m1 d) := P_4.cell 2
  have fP_4_2 := P_4.free 2
  have ha'_4 := ha'_3.below hB_4
  have hb'_4 := hb'_3.below hB_4
  have A_4 := A_3.below hB_4
  have B_4 := B_3.below hB_4
  have hbel_4 := hbel_3.next hB_4
  have hsz_4 := hB_4.size
  clear X_3 cX_3_0 cX_3_1 cX_3_2 Y_3 cY_3_0 cY_3_1 cY_3_2 P_3 cP_3_0 fP_3_0 cP_3_1 fP_3_1 cP_3_2 fP_3_2 ha'_3 hb'_3 A_3 B_3 hbel_3 hB_4
  have C_4 := hR
  have D_4 := hR'
  clear hR hR'
  try clear hB
  have hbx := blk_new w4 #[Value.bool t, Value.slice a' n2 c', Value.slice b' m2 d'] 32
  have hbB := (Below.refl w4.heap.size w4).alloc (Nat.le_refl _) (.cells #[Value.bool t, Value.slice a' n2 c', Value.slice b' m2 d'] 32)
  have hltQ := hbx.lt
  have hB_5 : Below w4.heap.size w4 (w4.alloc (.cells #[Value.bool t, Value.slice a' n2 c', Value.slice b' m2 d'] 32)) := hbB
  have X_5 := X_4.next hB_5
  have cX_5_0 : _ = some (Value.bool s) := X_5.cell 0
  have cX_5_1 : _ = some (Value.slice a n c) := X_5.cell 1
  have cX_5_2 : _ = some (Value.slice b m d) := X_5.cell 2
  have Y_5 := Y_4.next hB_5
  have cY_5_0 : _ = some (Value.bool t) := Y_5.cell 0
  have cY_5_1 : _ = some (Value.slice a' n' c') := Y_5.cell 1
  have cY_5_2 : _ = some (Value.slice b' m' d') := Y_5.cell 2
  have P_5 := P_4.next hB_5
  have cP_5_0 : _ = some (Value.bool s) := P_5.cell 0
  have fP_5_0 := P_5.free 0
  have cP_5_1 : _ = some (Value.slice a n1 c) := P_5.cell 1
  have fP_5_1 := P_5.free 1
  have cP_5_2 : _ = some (Value.slice b m1 d) := P_5.cell 2
  have fP_5_2 := P_5.free 2
  have ha'_5 := ha'_4.below hB_5
  have hb'_5 := hb'_4.below hB_5
  have A_5 := A_4.below hB_5
  have B_5 := B_4.below hB_5
  have C_5 := C_4.below hB_5
  have D_5 := D_4.below hB_5
  have hbel_5 := hbel_4.next hB_5
  have hsz_5 := hB_5.size
  clear hB_5
  have Q_5 := hbx
  clear hbx hbB
  have cQ_5_0 : _ = some (Value.bool t) := Q_5.cell 0
  have fQ_5_0 := Q_5.free 0
  have cQ_5_1 : _ = some (Value.slice a' n2 c') := Q_5.cell 1
  have fQ_5_1 := Q_5.free 1
  have cQ_5_2 : _ = some (Value.slice b' m2 d') := Q_5.cell 2
  have fQ_5_2 := Q_5.free 2
  go_wp2_with fail
  clear X_4 cX_4_0 cX_4_1 cX_4_2 Y_4 cY_4_0 cY_4_1 cY_4_2 P_4 cP_4_0 fP_4_0 cP_4_1 fP_4_1 cP_4_2 fP_4_2 ha'_4 hb'_4 A_4 B_4 C_4 D_4 hbel_4
  generalize (w4.alloc (.cells #[Value.bool t, Value.slice a' n2 c', Value.slice b' m2 d'] 32)) = v5 at *
  clear ha'_5
  clear hb'_5
  have QA_5 := rdq_of s A_5 hn1 B_5 hm1
  have QB_5 := rdq_of t C_5 hn2 D_5 hm2
  obtain ⟨u, hu⟩ : ∃ q, qv s (val l1) (val k1) = q := ⟨_, rfl⟩
  obtain ⟨v, hv⟩ : ∃ q, qv t (val l2) (val k2) = q := ⟨_, rfl⟩
  rw [hu] at QA_5
  rw [hv] at QB_5
  have huh := hid hu
  have hvh := hid hv
  clear hu hv
  have qu := hid (QA_5.qs (by omega))
  have qv' := hid (QB_5.qs (by omega))
  obtain ⟨c0, hc0⟩ : ∃ c, cmpQ u v = c := ⟨_, rfl⟩
  have hc := hid hc0
  clear hc0
  go_wp2_with fail
  refine (qcmp QA_5 (by omega) QB_5 (by omega)).mono ?_
  rw [hc.out]
  rintro e w6 ⟨rfl, hB⟩
  have hB_6 : Below v5.heap.size v5 w6 := (by first | exact hB | exact below_drew hB | exact bel_alloc hB | exact below_drew (bel_alloc hB) | exact bel_alloc (below_drew hB) | exact bel_alloc (bel_alloc hB) | exact bel_alloc (bel_alloc (below_drew hB)))
  have X_6 := X_5.next hB_6
  have cX_6_0 : _ = some (Value.bool s) := X_6.cell 0
  have cX_6_1 : _ = some (Value.slice a n c) := X_6.cell 1
  have cX_6_2 : _ = some (Value.slice b m d) := X_6.cell 2
  have Y_6 := Y_5.next hB_6
  have cY_6_0 : _ = some (Value.bool t) := Y_6.cell 0
  have cY_6_1 : _ = some (Value.slice a' n' c') := Y_6.cell 1
  have cY_6_2 : _ = some (Value.slice b' m' d') := Y_6.cell 2
  have P_6 := P_5.next hB_6
  have cP_6_0 : _ = some (Value.bool s) := P_6.cell 0
  have fP_6_0 := P_6.free 0
  have cP_6_1 : _ = some (Value.slice a n1 c) := P_6.cell 1
  have fP_6_1 := P_6.free 1
  have cP_6_2 : _ = some (Value.slice b m1 d) := P_6.cell 2
  have fP_6_2 := P_6.free 2
  have Q_6 := Q_5.next hB_6
  have cQ_6_0 : _ = some (Value.bool t) := Q_6.cell 0
  have fQ_6_0 := Q_6.free 0
  have cQ_6_1 : _ = some (Value.slice a' n2 c') := Q_6.cell 1
  have fQ_6_1 := Q_6.free 1
  have cQ_6_2 : _ = some (Value.slice b' m2 d') := Q_6.cell 2
  have fQ_6_2 := Q_6.free 2
  have A_6 := A_5.below hB_6
  have B_6 := B_5.below hB_6
  have C_6 := C_5.below hB_6
  have D_6 := D_5.below hB_6
  have QA_6 := QA_5.below hB_6
  have QB_6 := QB_5.below hB_6
  have hbel_6 := hbel_5.next hB_6
  have hsz_6 := hB_6.size
  clear X_5 cX_5_0 cX_5_1 cX_5_2 Y_5 cY_5_0 cY_5_1 cY_5_2 P_5 cP_5_0 fP_5_0 cP_5_1 fP_5_1 cP_5_2 fP_5_2 Q_5 cQ_5_0 fQ_5_0 cQ_5_1 fQ_5_1 cQ_5_2 fQ_5_2 A_5 B_5 C_5 D_5 QA_5 QB_5 hbel_5 hB_6
  try clear hB
  go_upto_if 27 with fail
  go_cut [] (fun wx => LeastAB (w2.heap.size) (w4.heap.size) wx ∧ Below w.heap.size w wx ∧ w6.heap.size ≤ wx.heap.size)
  case first =>
    by_cases hsw : v < u
    · skip
      have hc1 : 0 < c0 := by rw [← hc.out, cmpQ_swap, cmpQ_lt hsw]; omega
      have hle := hid (Rat.le_of_lt hsw)
      clear hsw
      have hbx := blk_new w6 #[Value.bool s, Value.slice a n1 c, Value.slice b m1 d] 32
      have hbB := (Below.refl w6.heap.size w6).alloc (Nat.le_refl _) (.cells #[Value.bool s, Value.slice a n1 c, Value.slice b m1 d] 32)
      have hltT := hbx.lt
      have hB_7 : Below w6.heap.size w6 (w6.alloc (.cells #[Value.bool s, Value.slice a n1 c, Value.slice b m1 d] 32)) := hbB
      have X_7 := X_6.next hB_7
      have cX_7_0 : _ = some (Value.bool s) := X_7.cell 0
      have cX_7_1 : _ = some (Value.slice a n c) := X_7.cell 1
      have cX_7_2 : _ = some (Value.slice b m d) := X_7.cell 2
      have Y_7 := Y_6.next hB_7
      have cY_7_0 : _ = some (Value.bool t) := Y_7.cell 0
      have cY_7_1 : _ = some (Value.slice a' n' c') := Y_7.cell 1
      have cY_7_2 : _ = some (Value.slice b' m' d') := Y_7.cell 2
      have P_7 := P_6.next hB_7
      have cP_7_0 : _ = some (Value.bool s) := P_7.cell 0
      have fP_7_0 := P_7.free 0
      have cP_7_1 : _ = some (Value.slice a n1 c) := P_7.cell 1
      have fP_7_1 := P_7.free 1
      have cP_7_2 : _ = some (Value.slice b m1 d) := P_7.cell 2
      have fP_7_2 := P_7.free 2
      have Q_7 := Q_6.next hB_7
      have cQ_7_0 : _ = some (Value.bool t) := Q_7.cell 0
      have fQ_7_0 := Q_7.free 0
      have cQ_7_1 : _ = some (Value.slice a' n2 c') := Q_7.cell 1
      have fQ_7_1 := Q_7.free 1
      have cQ_7_2 : _ = some (Value.slice b' m2 d') := Q_7.cell 2
      have fQ_7_2 := Q_7.free 2
      have A_7 := A_6.below hB_7
      have B_7 := B_6.below hB_7
      have C_7 := C_6.below hB_7
      have D_7 := D_6.below hB_7
      have QA_7 := QA_6.below hB_7
      have QB_7 := QB_6.below hB_7
      have hbel_7 := hbel_6.next hB_7
      have hsz_7 := hB_7.size
      clear hB_7
      have T_7 := hbx
      clear hbx hbB
      have cT_7_0 : _ = some (Value.bool s) := T_7.cell 0
      have cT_7_1 : _ = some (Value.slice a n1 c) := T_7.cell 1
      have cT_7_2 : _ = some (Value.slice b m1 d) := T_7.cell 2
      go_wp2_with fail
      clear X_6 cX_6_0 cX_6_1 cX_6_2 Y_6 cY_6_0 cY_6_1 cY_6_2 P_6 cP_6_0 fP_6_0 cP_6_1 fP_6_1 cP_6_2 fP_6_2 Q_6 cQ_6_0 fQ_6_0 cQ_6_1 fQ_6_1 cQ_6_2 fQ_6_2 A_6 B_6 C_6 D_6 QA_6 QB_6 hbel_6
      generalize (w6.alloc (.cells #[Value.bool s, Value.slice a n1 c, Value.slice b m1 d] 32)) = v7 at *
      have hkp := kp_set3 v7 (w2.heap.size) (Value.bool t) (Value.slice a' n2 c') (Value.slice b' m2 d')
      have P_8 := (show Blk _ _ #[Value.bool t, Value.slice a' n2 c', Value.slice b' m2 d'] from (((P_7).setCell (i := 0) (v := Value.bool t) (by simp)).setCell (i := 1) (v := Value.slice a' n2 c') (by simp)).setCell (i := 2) (v := Value.slice b' m2 d') (by simp))
      have X_8 := X_7.set3 (show w.heap.size ≠ w2.heap.size by omega) (Value.bool t) (Value.slice a' n2 c') (Value.slice b' m2 d')
      have Y_8 := Y_7.set3 (show w.heap.size + 1 ≠ w2.heap.size by omega) (Value.bool t) (Value.slice a' n2 c') (Value.slice b' m2 d')
      have Q_8 := Q_7.set3 (show w4.heap.size ≠ w2.heap.size by omega) (Value.bool t) (Value.slice a' n2 c') (Value.slice b' m2 d')
      have T_8 := T_7.set3 (show w6.heap.size ≠ w2.heap.size by omega) (Value.bool t) (Value.slice a' n2 c') (Value.slice b' m2 d')
      have A_8 := HA.out.kp_old hln1 A_7 hkp (fun b hb => by show ¬ (b = _); omega)
      have B_8 := HB.out.kp_old hlm1 B_7 hkp (fun b hb => by show ¬ (b = _); omega)
      have C_8 := HC.out.kp_old hln2 C_7 hkp (fun b hb => by show ¬ (b = _); omega)
      have D_8 := HD.out.kp_old hlm2 D_7 hkp (fun b hb => by show ¬ (b = _); omega)
      have hbel_8 := Below.set3 hbel_7 (show w.heap.size ≤ w2.heap.size by omega) (Value.bool t) (Value.slice a' n2 c') (Value.slice b' m2 d')
      have hsz_8 := hkp.size
      have cX_8_0 : _ = some (Value.bool s) := X_8.cell 0
      have cX_8_1 : _ = some (Value.slice a n c) := X_8.cell 1
      have cX_8_2 : _ = some (Value.slice b m d) := X_8.cell 2
      have cY_8_0 : _ = some (Value.bool t) := Y_8.cell 0
      have cY_8_1 : _ = some (Value.slice a' n' c') := Y_8.cell 1
      have cY_8_2 : _ = some (Value.slice b' m' d') := Y_8.cell 2
      have cP_8_0 : _ = some (Value.bool t) := P_8.cell 0
      have fP_8_0 := P_8.free 0
      have cP_8_1 : _ = some (Value.slice a' n2 c') := P_8.cell 1
      have fP_8_1 := P_8.free 1
      have cP_8_2 : _ = some (Value.slice b' m2 d') := P_8.cell 2
      have fP_8_2 := P_8.free 2
      have cQ_8_0 : _ = some (Value.bool t) := Q_8.cell 0
      have fQ_8_0 := Q_8.free 0
      have cQ_8_1 : _ = some (Value.slice a' n2 c') := Q_8.cell 1
      have fQ_8_1 := Q_8.free 1
      have cQ_8_2 : _ = some (Value.slice b' m2 d') := Q_8.cell 2
      have fQ_8_2 := Q_8.free 2
      have cT_8_0 : _ = some (Value.bool s) := T_8.cell 0
      have cT_8_1 : _ = some (Value.slice a n1 c) := T_8.cell 1
      have cT_8_2 : _ = some (Value.slice b m1 d) := T_8.cell 2
      go_wp2_with fail
      clear X_7 Y_7 P_7 Q_7 T_7 cX_7_0 cX_7_1 cX_7_2 cY_7_0 cY_7_1 cY_7_2 cP_7_0 fP_7_0 cP_7_1 fP_7_1 cP_7_2 fP_7_2 cQ_7_0 fQ_7_0 cQ_7_1 fQ_7_1 cQ_7_2 fQ_7_2 cT_7_0 cT_7_1 cT_7_2 A_7 B_7 C_7 D_7 QA_7 QB_7 hbel_7 hkp
      generalize (((v7.setCell ⟨w2.heap.size, 0, none⟩ (Value.bool t)).setCell ⟨w2.heap.size, 1, none⟩ (Value.slice a' n2 c')).setCell ⟨w2.heap.size, 2, none⟩ (Value.slice b' m2 d')) = v8 at *
      have hkp := kp_set3 v8 (w4.heap.size) (Value.bool s) (Value.slice a n1 c) (Value.slice b m1 d)
      have Q_9 := (show Blk _ _ #[Value.bool s, Value.slice a n1 c, Value.slice b m1 d] from (((Q_8).setCell (i := 0) (v := Value.bool s) (by simp)).setCell (i := 1) (v := Value.slice a n1 c) (by simp)).setCell (i := 2) (v := Value.slice b m1 d) (by simp))
      have X_9 := X_8.set3 (show w.heap.size ≠ w4.heap.size by omega) (Value.bool s) (Value.slice a n1 c) (Value.slice b m1 d)
      have Y_9 := Y_8.set3 (show w.heap.size + 1 ≠ w4.heap.size by omega) (Value.bool s) (Value.slice a n1 c) (Value.slice b m1 d)
      have P_9 := P_8.set3 (show w2.heap.size ≠ w4.heap.size by omega) (Value.bool s) (Value.slice a n1 c) (Value.slice b m1 d)
      have T_9 := T_8.set3 (show w6.heap.size ≠ w4.heap.size by omega) (Value.bool s) (Value.slice a n1 c) (Value.slice b m1 d)
      have A_9 := HA.out.kp_old hln1 A_8 hkp (fun b hb => by show ¬ (b = _); omega)
      have B_9 := HB.out.kp_old hlm1 B_8 hkp (fun b hb => by show ¬ (b = _); omega)
      have C_9 := HC.out.kp_old hln2 C_8 hkp (fun b hb => by show ¬ (b = _); omega)
      have D_9 := HD.out.kp_old hlm2 D_8 hkp (fun b hb => by show ¬ (b = _); omega)
      have hbel_9 := Below.set3 hbel_8 (show w.heap.size ≤ w4.heap.size by omega) (Value.bool s) (Value.slice a n1 c) (Value.slice b m1 d)
      have hsz_9 := hkp.size
      have cX_9_0 : _ = some (Value.bool s) := X_9.cell 0
      have cX_9_1 : _ = some (Value.slice a n c) := X_9.cell 1
      have cX_9_2 : _ = some (Value.slice b m d) := X_9.cell 2
      have cY_9_0 : _ = some (Value.bool t) := Y_9.cell 0
      have cY_9_1 : _ = some (Value.slice a' n' c') := Y_9.cell 1
      have cY_9_2 : _ = some (Value.slice b' m' d') := Y_9.cell 2
      have cP_9_0 : _ = some (Value.bool t) := P_9.cell 0
      have fP_9_0 := P_9.free 0
      have cP_9_1 : _ = some (Value.slice a' n2 c') := P_9.cell 1
      have fP_9_1 := P_9.free 1
      have cP_9_2 : _ = some (Value.slice b' m2 d') := P_9.cell 2
      have fP_9_2 := P_9.free 2
      have cQ_9_0 : _ = some (Value.bool s) := Q_9.cell 0
      have fQ_9_0 := Q_9.free 0
      have cQ_9_1 : _ = some (Value.slice a n1 c) := Q_9.cell 1
      have fQ_9_1 := Q_9.free 1
      have cQ_9_2 : _ = some (Value.slice b m1 d) := Q_9.cell 2
      have fQ_9_2 := Q_9.free 2
      have cT_9_0 : _ = some (Value.bool s) := T_9.cell 0
      have cT_9_1 : _ = some (Value.slice a n1 c) := T_9.cell 1
      have cT_9_2 : _ = some (Value.slice b m1 d) := T_9.cell 2
      go_wp2_with fail
      clear X_8 Y_8 P_8 Q_8 T_8 cX_8_0 cX_8_1 cX_8_2 cY_8_0 cY_8_1 cY_8_2 cP_8_0 fP_8_0 cP_8_1 fP_8_1 cP_8_2 fP_8_2 cQ_8_0 fQ_8_0 cQ_8_1 fQ_8_1 cQ_8_2 fQ_8_2 cT_8_0 cT_8_1 cT_8_2 A_8 B_8 C_8 D_8 hbel_8 hkp
      generalize (((v8.setCell ⟨w4.heap.size, 0, none⟩ (Value.bool s)).setCell ⟨w4.heap.size, 1, none⟩ (Value.slice a n1 c)).setCell ⟨w4.heap.size, 2, none⟩ (Value.slice b m1 d)) = v9 at *
      have QB_9 := rdq_of s A_9 hn1 B_9 hm1
      have QA_9 := rdq_of t C_9 hn2 D_9 hm2
      rw [hvh.out] at QA_9
      rw [huh.out] at QB_9
      go_meet
      exact ⟨⟨_, _, _, _, _, _, _, _, _, _, _, _, _, _, _, _, P_9, Q_9, QA_9, QB_9, hle.out⟩, hbel_9, by omega⟩
    · skip
      have hc1 : c0 ≤ 0 := by rw [← hc.out]; rcases cmpQ_cases u v with ⟨_, e⟩ | ⟨_, e⟩ | ⟨h, e⟩ <;> first | omega | exact absurd h hsw
      have hle := hid (Rat.not_lt.1 hsw)
      clear hsw
      go_wp2_with fail
      go_meet
      exact ⟨⟨_, _, _, _, _, _, _, _, _, _, _, _, _, _, _, _, P_6, Q_6, QA_6, QB_6, hle.out⟩, hbel_6, Nat.le_refl _⟩
  case rest =>
    clear X_6 Y_6 P_6 Q_6 cX_6_0 cX_6_1 cX_6_2 cY_6_0 cY_6_1 cY_6_2 cP_6_0 fP_6_0 cP_6_1 fP_6_1 cP_6_2 fP_6_2 cQ_6_0 fQ_6_0 cQ_6_1 fQ_6_1 cQ_6_2 fQ_6_2 A_6 B_6 C_6 D_6 QA_6 QB_6 hbel_6 HA HB HC HD hc huh hvh qu qv'
    obtain ⟨⟨sl, al, nl, cl, bl, ml, dl, sh, ah, nh, ch, bh, mh, dh, lo, hi, P_7, Q_7, qa0, qb0, hle0⟩, hbel_7, hsz_7⟩ := hcut
    have hle := hid hle0
    clear hle0
    obtain ⟨wc7, hwc⟩ : ∃ y : World, y = wc := ⟨_, rfl⟩
    subst hwc
    have cP_7_0 : _ = some (Value.bool sl) := P_7.cell 0
    have cP_7_1 : _ = some (Value.slice al nl cl) := P_7.cell 1
    have cP_7_2 : _ = some (Value.slice bl ml dl) := P_7.cell 2
    have cQ_7_0 : _ = some (Value.bool sh) := Q_7.cell 0
    have cQ_7_1 : _ = some (Value.slice ah nh ch) := Q_7.cell 1
    have cQ_7_2 : _ = some (Value.slice bh mh dh) := Q_7.cell 2
    have QA_7 := qa0
    have QB_7 := qb0
    clear qa0 qb0
    have ql := hid (QA_7.qs (by omega))
    have qh := hid (QB_7.qs (by omega))
    have hin := spl_in hle.out
    have qs : QS (spl lo hi) 3 := spl_qs (by omega) hle.out ql.out qh.out
    have hden := hid (fun (d : Nat) (h0 : 0 < d) (hd : d < (spl lo hi).den) => least_den hle.out h0 hd)
    have hnear := hid (fun (h : (spl lo hi).num ≠ 0) => least_near hle.out h)
    have hE := hid (show spE lo hi = 0 from if_neg (Rat.not_lt.2 hle.out))
    generalize hz0 : spl lo hi = z at *
    have hz := hid hz0
    clear hz0
    have hqs := hid qs
    clear qs
    obtain ⟨c1, hc10⟩ : ∃ c, cmpQ z lo = c := ⟨_, rfl⟩
    have hk1 : 0 ≤ c1 := by rw [← hc10]; rcases cmpQ_cases z lo with ⟨h, e⟩ | ⟨_, e⟩ | ⟨_, e⟩ <;> first | omega | exact absurd hin.1 (Rat.not_le.2 h)
    have hc1 := hid hc10
    obtain ⟨c2, hc20⟩ : ∃ c, cmpQ z hi = c := ⟨_, rfl⟩
    have hk2 : c2 ≤ 0 := by rw [← hc20]; rcases cmpQ_cases z hi with ⟨_, e⟩ | ⟨_, e⟩ | ⟨h, e⟩ <;> first | omega | exact absurd hin.2 (Rat.not_le.2 h)
    have hc2 := hid hc20
    clear hc10 hc20 hin
    go_wp2_with fail
    refine (qsimp (by omega) (by omega) QA_7 QB_7).mono ?_
    rw [hz.out, retqe_k _ hE.out]
    rintro e w8 ⟨za, zn, zc, zb, zm, zd, rfl, hO, hO', hDz, hB⟩
    have hB_8 : Below wc7.heap.size wc7 w8 := (by first | exact hB | exact below_drew hB | exact bel_alloc hB | exact below_drew (bel_alloc hB) | exact bel_alloc (below_drew hB) | exact bel_alloc (bel_alloc hB) | exact bel_alloc (bel_alloc (below_drew hB)))
    have P_8 := P_7.next hB_8
    have cP_8_0 : _ = some (Value.bool sl) := P_8.cell 0
    have cP_8_1 : _ = some (Value.slice al nl cl) := P_8.cell 1
    have cP_8_2 : _ = some (Value.slice bl ml dl) := P_8.cell 2
    have Q_8 := Q_7.next hB_8
    have cQ_8_0 : _ = some (Value.bool sh) := Q_8.cell 0
    have cQ_8_1 : _ = some (Value.slice ah nh ch) := Q_8.cell 1
    have cQ_8_2 : _ = some (Value.slice bh mh dh) := Q_8.cell 2
    have QA_8 := QA_7.below hB_8
    have QB_8 := QB_7.below hB_8
    have hbel_8 := hbel_7.next hB_8
    have hsz_8 := hB_8.size
    clear P_7 cP_7_0 cP_7_1 cP_7_2 Q_7 cQ_7_0 cQ_7_1 cQ_7_2 QA_7 QB_7 hbel_7 hB_8
    have Oz_8 := hO
    have ltOz := hO.ltB
    have Pz_8 := hO'
    have ltPz := hO'.ltB
    clear hO hO'
    try clear hB
    have hbx := blk_new w8 #[Value.bool (decide (z.num < 0)), Value.slice za zn zc, Value.slice zb zm zd] 32
    have hbB := (Below.refl w8.heap.size w8).alloc (Nat.le_refl _) (.cells #[Value.bool (decide (z.num < 0)), Value.slice za zn zc, Value.slice zb zm zd] 32)
    have hltS := hbx.lt
    have hB_9 : Below w8.heap.size w8 (w8.alloc (.cells #[Value.bool (decide (z.num < 0)), Value.slice za zn zc, Value.slice zb zm zd] 32)) := hbB
    have P_9 := P_8.next hB_9
    have cP_9_0 : _ = some (Value.bool sl) := P_9.cell 0
    have cP_9_1 : _ = some (Value.slice al nl cl) := P_9.cell 1
    have cP_9_2 : _ = some (Value.slice bl ml dl) := P_9.cell 2
    have Q_9 := Q_8.next hB_9
    have cQ_9_0 : _ = some (Value.bool sh) := Q_9.cell 0
    have cQ_9_1 : _ = some (Value.slice ah nh ch) := Q_9.cell 1
    have cQ_9_2 : _ = some (Value.slice bh mh dh) := Q_9.cell 2
    have QA_9 := QA_8.below hB_9
    have QB_9 := QB_8.below hB_9
    have Oz_9 := Oz_8.below hB_9
    have Pz_9 := Pz_8.below hB_9
    have hbel_9 := hbel_8.next hB_9
    have hsz_9 := hB_9.size
    clear hB_9
    have S_9 := hbx
    clear hbx hbB
    have cS_9_0 : _ = some (Value.bool (decide (z.num < 0))) := S_9.cell 0
    have cS_9_1 : _ = some (Value.slice za zn zc) := S_9.cell 1
    have cS_9_2 : _ = some (Value.slice zb zm zd) := S_9.cell 2
    go_wp2_with fail
    clear P_8 cP_8_0 cP_8_1 cP_8_2 Q_8 cQ_8_0 cQ_8_1 cQ_8_2 QA_8 QB_8 Oz_8 Pz_8 hbel_8
    generalize (w8.alloc (.cells #[Value.bool (decide (z.num < 0)), Value.slice za zn zc, Value.slice zb zm zd] 32)) = v9 at *
    have QS_9 := Oz_9.rdQ Pz_9 hqs.out
    go_wp2_with fail
    refine (flowest Oz_9 Pz_9 hqs.out (by omega)).mono ?_
    rintro e w10 ⟨rfl, hB⟩
    have hB_10 : Below v9.heap.size v9 w10 := (by first | exact hB | exact below_drew hB | exact bel_alloc hB | exact below_drew (bel_alloc hB) | exact bel_alloc (below_drew hB) | exact bel_alloc (bel_alloc hB) | exact bel_alloc (bel_alloc (below_drew hB)))
    have P_10 := P_9.next hB_10
    have cP_10_0 : _ = some (Value.bool sl) := P_10.cell 0
    have cP_10_1 : _ = some (Value.slice al nl cl) := P_10.cell 1
    have cP_10_2 : _ = some (Value.slice bl ml dl) := P_10.cell 2
    have Q_10 := Q_9.next hB_10
    have cQ_10_0 : _ = some (Value.bool sh) := Q_10.cell 0
    have cQ_10_1 : _ = some (Value.slice ah nh ch) := Q_10.cell 1
    have cQ_10_2 : _ = some (Value.slice bh mh dh) := Q_10.cell 2
    have S_10 := S_9.next hB_10
    have cS_10_0 : _ = some (Value.bool (decide (z.num < 0))) := S_10.cell 0
    have cS_10_1 : _ = some (Value.slice za zn zc) := S_10.cell 1
    have cS_10_2 : _ = some (Value.slice zb zm zd) := S_10.cell 2
    have QA_10 := QA_9.below hB_10
    have QB_10 := QB_9.below hB_10
    have Oz_10 := Oz_9.below hB_10
    have Pz_10 := Pz_9.below hB_10
    have QS_10 := QS_9.below hB_10
    have hbel_10 := hbel_9.next hB_10
    have hsz_10 := hB_10.size
    clear P_9 cP_9_0 cP_9_1 cP_9_2 Q_9 cQ_9_0 cQ_9_1 cQ_9_2 S_9 cS_9_0 cS_9_1 cS_9_2 QA_9 QB_9 Oz_9 Pz_9 QS_9 hbel_9 hB_10
    try clear hB
    go_wp2_with fail
    refine (qcmp QS_10 (by omega) QA_10 (by omega)).mono ?_
    rw [hc1.out]
    rintro e w11 ⟨rfl, hB⟩
    have hB_11 : Below w10.heap.size w10 w11 := (by first | exact hB | exact below_drew hB | exact bel_alloc hB | exact below_drew (bel_alloc hB) | exact bel_alloc (below_drew hB) | exact bel_alloc (bel_alloc hB) | exact bel_alloc (bel_alloc (below_drew hB)))
    have P_11 := P_10.next hB_11
    have cP_11_0 : _ = some (Value.bool sl) := P_11.cell 0
    have cP_11_1 : _ = some (Value.slice al nl cl) := P_11.cell 1
    have cP_11_2 : _ = some (Value.slice bl ml dl) := P_11.cell 2
    have Q_11 := Q_10.next hB_11
    have cQ_11_0 : _ = some (Value.bool sh) := Q_11.cell 0
    have cQ_11_1 : _ = some (Value.slice ah nh ch) := Q_11.cell 1
    have cQ_11_2 : _ = some (Value.slice bh mh dh) := Q_11.cell 2
    have S_11 := S_10.next hB_11
    have cS_11_0 : _ = some (Value.bool (decide (z.num < 0))) := S_11.cell 0
    have cS_11_1 : _ = some (Value.slice za zn zc) := S_11.cell 1
    have cS_11_2 : _ = some (Value.slice zb zm zd) := S_11.cell 2
    have QA_11 := QA_10.below hB_11
    have QB_11 := QB_10.below hB_11
    have Oz_11 := Oz_10.below hB_11
    have Pz_11 := Pz_10.below hB_11
    have QS_11 := QS_10.below hB_11
    have hbel_11 := hbel_10.next hB_11
    have hsz_11 := hB_11.size
    clear P_10 cP_10_0 cP_10_1 cP_10_2 Q_10 cQ_10_0 cQ_10_1 cQ_10_2 S_10 cS_10_0 cS_10_1 cS_10_2 QA_10 QB_10 Oz_10 Pz_10 QS_10 hbel_10 hB_11
    try clear hB
    go_wp2_with fail
    refine (qcmp QS_11 (by omega) QB_11 (by omega)).mono ?_
    rw [hc2.out]
    rintro e w12 ⟨rfl, hB⟩
    have hB_12 : Below w11.heap.size w11 w12 := (by first | exact hB | exact below_drew hB | exact bel_alloc hB | exact below_drew (bel_alloc hB) | exact bel_alloc (below_drew hB) | exact bel_alloc (bel_alloc hB) | exact bel_alloc (bel_alloc (below_drew hB)))
    have P_12 := P_11.next hB_12
    have cP_12_0 : _ = some (Value.bool sl) := P_12.cell 0
    have cP_12_1 : _ = some (Value.slice al nl cl) := P_12.cell 1
    have cP_12_2 : _ = some (Value.slice bl ml dl) := P_12.cell 2
    have Q_12 := Q_11.next hB_12
    have cQ_12_0 : _ = some (Value.bool sh) := Q_12.cell 0
    have cQ_12_1 : _ = some (Value.slice ah nh ch) := Q_12.cell 1
    have cQ_12_2 : _ = some (Value.slice bh mh dh) := Q_12.cell 2
    have S_12 := S_11.next hB_12
    have cS_12_0 : _ = some (Value.bool (decide (z.num < 0))) := S_12.cell 0
    have cS_12_1 : _ = some (Value.slice za zn zc) := S_12.cell 1
    have cS_12_2 : _ = some (Value.slice zb zm zd) := S_12.cell 2
    have QA_12 := QA_11.below hB_12
    have QB_12 := QB_11.below hB_12
    have Oz_12 := Oz_11.below hB_12
    have Pz_12 := Pz_11.below hB_12
    have QS_12 := QS_11.below hB_12
    have hbel_12 := hbel_11.next hB_12
    have hsz_12 := hB_12.size
    clear P_11 cP_11_0 cP_11_1 cP_11_2 Q_11 cQ_11_0 cQ_11_1 cQ_11_2 S_11 cS_11_0 cS_11_1 cS_11_2 QA_11 QB_11 Oz_11 Pz_11 QS_11 hbel_11 hB_12
    try clear hB
    have mP := hid P_12
    have mQ := hid Q_12
    have mS := hid S_12
    have mQA := hid QA_12
    have mQB := hid QB_12
    have mOz := hid Oz_12
    have mPz := hid Pz_12
    have mQS := hid QS_12
    have mhbel := hid hbel_12
    have hbM_12 : Below w12.heap.size w12 w12 := Below.refl _ _
    have hbl := hid hbel_12
    go_upto_block 0 with fail
    go_cut [] (fun wx => Below w12.heap.size w12 wx)
    case first =>
      go_wp2_with fail
      go_loopw [11] (fun i wr => ∃ d : Nat, 1 ≤ d ∧ d ≤ 201 ∧ i = .int .i64 d ∧ Below w12.heap.size w12 wr) (fun i _ => 201 - (intOf i).toNat)
      case atStart => exact ⟨1, by omega, by omega, rfl, Below.refl _ _⟩
      case round =>
        obtain ⟨dd, hd1, hd2, rfl, hM⟩ := hrel
        have hbM_13 := hM
        have P_13 := mP.out.next hbM_13
        have Q_13 := mQ.out.next hbM_13
        have S_13 := mS.out.next hbM_13
        have QA_13 := mQA.out.below hbM_13
        have QB_13 := mQB.out.below hbM_13
        have Oz_13 := mOz.out.below hbM_13
        have Pz_13 := mPz.out.below hbM_13
        have QS_13 := mQS.out.below hbM_13
        have hbel_13 := mhbel.out.next hbM_13
        have hsz_13 := hbM_13.size
        clear P_12 Q_12 S_12 cP_12_0 cP_12_1 cP_12_2 cQ_12_0 cQ_12_1 cQ_12_2 cS_12_0 cS_12_1 cS_12_2 QA_12 QB_12 Oz_12 Pz_12 QS_12 hbM_12 hbel_12
        have cP_13_0 : _ = some (Value.bool sl) := P_13.cell 0
        have cP_13_1 : _ = some (Value.slice al nl cl) := P_13.cell 1
        have cP_13_2 : _ = some (Value.slice bl ml dl) := P_13.cell 2
        have cQ_13_0 : _ = some (Value.bool sh) := Q_13.cell 0
        have cQ_13_1 : _ = some (Value.slice ah nh ch) := Q_13.cell 1
        have cQ_13_2 : _ = some (Value.slice bh mh dh) := Q_13.cell 2
        have cS_13_0 : _ = some (Value.bool (decide (z.num < 0))) := S_13.cell 0
        have cS_13_1 : _ = some (Value.slice za zn zc) := S_13.cell 1
        have cS_13_2 : _ = some (Value.slice zb zm zd) := S_13.cell 2
        clear hM
        by_cases hd3 : dd ≤ 200
        · skip
          have HDD := hid (fun w => (qof (w := w) (dd : Int) 1 (by omega) (by omega) (by omega) (by omega)).mono fun e w' h => retqe_ok h (zE_pos (by omega)))
          rw [divInt_one] at HDD
          have hdl := hid (show 1 ≤ dd ∧ dd ≤ 200 from ⟨hd1, hd3⟩)
          have qd := hid (show QS (((dd : Int)) : Rat) 1 from ⟨by rw [Rat.num_intCast]; show _ < 4294967296 ^ 1; omega, sz_one (by omega)⟩)
          have sd := hid (show Sz dd 1 by show _ < 4294967296 ^ 1; omega)
          have hdl2 := hid (fun (h : dd < z.den) => hden.out dd (by omega) h)
          generalize hD0 : (((dd : Int)) : Rat) = D at *
          clear hD0
          go_wp2_with fail
          refine (HDD.out _).mono ?_
          rintro e w14 ⟨ea, en, ec, eb, em, ed, rfl, hO, hO', hDe, hB⟩
          have hB_14 : Below wr.heap.size wr w14 := (by first | exact hB | exact below_drew hB | exact bel_alloc hB | exact below_drew (bel_alloc hB) | exact bel_alloc (below_drew hB) | exact bel_alloc (bel_alloc hB) | exact bel_alloc (bel_alloc (below_drew hB)))
          have P_14 := P_13.next hB_14
          have cP_14_0 : _ = some (Value.bool sl) := P_14.cell 0
          have cP_14_1 : _ = some (Value.slice al nl cl) := P_14.cell 1
          have cP_14_2 : _ = some (Value.slice bl ml dl) := P_14.cell 2
          have Q_14 := Q_13.next hB_14
          have cQ_14_0 : _ = some (Value.bool sh) := Q_14.cell 0
          have cQ_14_1 : _ = some (Value.slice ah nh ch) := Q_14.cell 1
          have cQ_14_2 : _ = some (Value.slice bh mh dh) := Q_14.cell 2
          have S_14 := S_13.next hB_14
          have cS_14_0 : _ = some (Value.bool (decide (z.num < 0))) := S_14.cell 0
          have cS_14_1 : _ = some (Value.slice za zn zc) := S_14.cell 1
          have cS_14_2 : _ = some (Value.slice zb zm zd) := S_14.cell 2
          have QA_14 := QA_13.below hB_14
          have QB_14 := QB_13.below hB_14
          have Oz_14 := Oz_13.below hB_14
          have Pz_14 := Pz_13.below hB_14
          have QS_14 := QS_13.below hB_14
          have hbM_14 := hbM_13.next hB_14
          have hbel_14 := hbel_13.next hB_14
          have hsz_14 := hB_14.size
          clear P_13 cP_13_0 cP_13_1 cP_13_2 Q_13 cQ_13_0 cQ_13_1 cQ_13_2 S_13 cS_13_0 cS_13_1 cS_13_2 QA_13 QB_13 Oz_13 Pz_13 QS_13 hbM_13 hbel_13 hB_14
          have Oe_14 := hO
          have ltOe := hO.ltB
          have Pe_14 := hO'
          have ltPe := hO'.ltB
          clear hO hO'
          try clear hB
          have hbx := blk_new w14 #[Value.bool (decide (D.num < 0)), Value.slice ea en ec, Value.slice eb em ed] 32
          have hbB := (Below.refl w14.heap.size w14).alloc (Nat.le_refl _) (.cells #[Value.bool (decide (D.num < 0)), Value.slice ea en ec, Value.slice eb em ed] 32)
          have hltE := hbx.lt
          have hB_15 : Below w14.heap.size w14 (w14.alloc (.cells #[Value.bool (decide (D.num < 0)), Value.slice ea en ec, Value.slice eb em ed] 32)) := hbB
          have P_15 := P_14.next hB_15
          have cP_15_0 : _ = some (Value.bool sl) := P_15.cell 0
          have cP_15_1 : _ = some (Value.slice al nl cl) := P_15.cell 1
          have cP_15_2 : _ = some (Value.slice bl ml dl) := P_15.cell 2
          have Q_15 := Q_14.next hB_15
          have cQ_15_0 : _ = some (Value.bool sh) := Q_15.cell 0
          have cQ_15_1 : _ = some (Value.slice ah nh ch) := Q_15.cell 1
          have cQ_15_2 : _ = some (Value.slice bh mh dh) := Q_15.cell 2
          have S_15 := S_14.next hB_15
          have cS_15_0 : _ = some (Value.bool (decide (z.num < 0))) := S_15.cell 0
          have cS_15_1 : _ = some (Value.slice za zn zc) := S_15.cell 1
          have cS_15_2 : _ = some (Value.slice zb zm zd) := S_15.cell 2
          have QA_15 := QA_14.below hB_15
          have QB_15 := QB_14.below hB_15
          have Oz_15 := Oz_14.below hB_15
          have Pz_15 := Pz_14.below hB_15
          have QS_15 := QS_14.below hB_15
          have hbM_15 := hbM_14.next hB_15
          have Oe_15 := Oe_14.below hB_15
          have Pe_15 := Pe_14.below hB_15
          have hbel_15 := hbel_14.next hB_15
          have hsz_15 := hB_15.size
          clear hB_15
          have E_15 := hbx
          clear hbx hbB
          have cE_15_0 : _ = some (Value.bool (decide (D.num < 0))) := E_15.cell 0
          have cE_15_1 : _ = some (Value.slice ea en ec) := E_15.cell 1
          have cE_15_2 : _ = some (Value.slice eb em ed) := E_15.cell 2
          go_wp2_with fail
          clear P_14 cP_14_0 cP_14_1 cP_14_2 Q_14 cQ_14_0 cQ_14_1 cQ_14_2 S_14 cS_14_0 cS_14_1 cS_14_2 QA_14 QB_14 Oz_14 Pz_14 QS_14 hbM_14 Oe_14 Pe_14 hbel_14
          generalize (w14.alloc (.cells #[Value.bool (decide (D.num < 0)), Value.slice ea en ec, Value.slice eb em ed] 32)) = v15 at *
          have QD_15 := Oe_15.rdQ Pe_15 qd.out
          have ND_15 := Pz_15.rdN hqs.out.2
          obtain ⟨c3, hc30⟩ : ∃ c, cmpI dd z.den = c := ⟨_, rfl⟩
          have hc3 := hid hc30
          by_cases hds : dd < z.den
          · skip
            have hk3 : c3 < 0 := by rw [← hc30]; rcases cmpI_cases dd z.den with ⟨_, e⟩ | ⟨_, e⟩ | ⟨_, e⟩ <;> omega
            clear hc30
            have hT := hid (hdl2.out hds)
            clear hds hdl2
            go_wp2_with fail
            have huw : IntKind.u64.wrap (dd : Int) = dd := IntWalk.u64_in _ (by omega)
            go_wp2_with fail
            go_region_held3 (fun w' => w'.cell? ⟨w2.heap.size, 0, none⟩ = some (Value.bool sl) ∧ w'.cell? ⟨w2.heap.size, 1, none⟩ = some (Value.slice al nl cl) ∧ w'.cell? ⟨w2.heap.size, 2, none⟩ = some (Value.slice bl ml dl) ∧ w'.cell? ⟨w4.heap.size, 0, none⟩ = some (Value.bool sh) ∧ w'.cell? ⟨w4.heap.size, 1, none⟩ = some (Value.slice ah nh ch) ∧ w'.cell? ⟨w4.heap.size, 2, none⟩ = some (Value.slice bh mh dh) ∧ w'.cell? ⟨w8.heap.size, 0, none⟩ = some (Value.bool (decide (z.num < 0))) ∧ w'.cell? ⟨w8.heap.size, 1, none⟩ = some (Value.slice za zn zc) ∧ w'.cell? ⟨w8.heap.size, 2, none⟩ = some (Value.slice zb zm zd) ∧ w'.cell? ⟨w14.heap.size, 0, none⟩ = some (Value.bool (decide (D.num < 0))) ∧ w'.cell? ⟨w14.heap.size, 1, none⟩ = some (Value.slice ea en ec) ∧ w'.cell? ⟨w14.heap.size, 2, none⟩ = some (Value.slice eb em ed))
              (first | exact ⟨cP_15_0, cP_15_1, cP_15_2, cQ_15_0, cQ_15_1, cQ_15_2, cS_15_0, cS_15_1, cS_15_2, cE_15_0, cE_15_1, cE_15_2⟩ | exact ⟨cP_16_0, cP_16_1, cP_16_2, cQ_16_0, cQ_16_1, cQ_16_2, cS_16_0, cS_16_1, cS_16_2, cE_16_0, cE_16_1, cE_16_2⟩ | exact ⟨cP_17_0, cP_17_1, cP_17_2, cQ_17_0, cQ_17_1, cQ_17_2, cS_17_0, cS_17_1, cS_17_2, cE_17_0, cE_17_1, cE_17_2⟩ | go_keep)
              (first
                | (go_at_call 53; ((with_reducible refine (of_any (dd : Int) (by omega) (by omega)).mono ?_); (rw [Int.toNat_natCast]; rintro e w16 ⟨ka, kn, kc, rfl, hO, hB⟩; have hB_16 : Below v15.heap.size v15 w16 := (by first | exact hB | exact below_drew hB | exact bel_alloc hB | exact below_drew (bel_alloc hB) | exact bel_alloc (below_drew hB) | exact bel_alloc (bel_alloc hB) | exact bel_alloc (bel_alloc (below_drew hB))); have P_16 := P_15.next hB_16; have cP_16_0 : _ = some (Value.bool sl) := P_16.cell 0; have cP_16_1 : _ = some (Value.slice al nl cl) := P_16.cell 1; have cP_16_2 : _ = some (Value.slice bl ml dl) := P_16.cell 2; have Q_16 := Q_15.next hB_16; have cQ_16_0 : _ = some (Value.bool sh) := Q_16.cell 0; have cQ_16_1 : _ = some (Value.slice ah nh ch) := Q_16.cell 1; have cQ_16_2 : _ = some (Value.slice bh mh dh) := Q_16.cell 2; have S_16 := S_15.next hB_16; have cS_16_0 : _ = some (Value.bool (decide (z.num < 0))) := S_16.cell 0; have cS_16_1 : _ = some (Value.slice za zn zc) := S_16.cell 1; have cS_16_2 : _ = some (Value.slice zb zm zd) := S_16.cell 2; have E_16 := E_15.next hB_16; have cE_16_0 : _ = some (Value.bool (decide (D.num < 0))) := E_16.cell 0; have cE_16_1 : _ = some (Value.slice ea en ec) := E_16.cell 1; have cE_16_2 : _ = some (Value.slice eb em ed) := E_16.cell 2; have QA_16 := QA_15.below hB_16; have QB_16 := QB_15.below hB_16; have Oz_16 := Oz_15.below hB_16; have Pz_16 := Pz_15.below hB_16; have QS_16 := QS_15.below hB_16; have hbM_16 := hbM_15.next hB_16; have Oe_16 := Oe_15.below hB_16; have Pe_16 := Pe_15.below hB_16; have QD_16 := QD_15.below hB_16; have ND_16 := ND_15.below hB_16; have hbel_16 := hbel_15.next hB_16; have hsz_16 := hB_16.size; clear P_15 cP_15_0 cP_15_1 cP_15_2 Q_15 cQ_15_0 cQ_15_1 cQ_15_2 S_15 cS_15_0 cS_15_1 cS_15_2 E_15 cE_15_0 cE_15_1 cE_15_2 QA_15 QB_15 Oz_15 Pz_15 QS_15 hbM_15 Oe_15 Pe_15 QD_15 ND_15 hbel_15 hB_16; have KD_16 := hO.rdN sd.out; clear hO; try clear hB)))
                | (go_at_call 52; ((with_reducible refine (ncmpR (KD_16.below (by first | exact Below.refl _ _ | exact (Below.refl _ _).drew | exact (Below.refl _ _).alloc (Nat.le_refl _) _ | exact ((Below.refl _ _).alloc (Nat.le_refl _) _).drew | exact (Below.refl _ _).drew.alloc (Nat.le_refl _) _ | exact ((Below.refl _ _).alloc (Nat.le_refl _) _).alloc (by simp) _ | exact (((Below.refl _ _).alloc (Nat.le_refl _) _).alloc (by simp) _).drew)) (ND_16.below (by first | exact Below.refl _ _ | exact (Below.refl _ _).drew | exact (Below.refl _ _).alloc (Nat.le_refl _) _ | exact ((Below.refl _ _).alloc (Nat.le_refl _) _).drew | exact (Below.refl _ _).drew.alloc (Nat.le_refl _) _ | exact ((Below.refl _ _).alloc (Nat.le_refl _) _).alloc (by simp) _ | exact (((Below.refl _ _).alloc (Nat.le_refl _) _).alloc (by simp) _).drew))).mono ?_); (rw [hc3.out]; rintro e w17 ⟨rfl, hB⟩; have hB_17 : Below w16.heap.size w16 w17 := (by first | exact hB | exact below_drew hB | exact bel_alloc hB | exact below_drew (bel_alloc hB) | exact bel_alloc (below_drew hB) | exact bel_alloc (bel_alloc hB) | exact bel_alloc (bel_alloc (below_drew hB))); have P_17 := P_16.next hB_17; have cP_17_0 : _ = some (Value.bool sl) := P_17.cell 0; have cP_17_1 : _ = some (Value.slice al nl cl) := P_17.cell 1; have cP_17_2 : _ = some (Value.slice bl ml dl) := P_17.cell 2; have Q_17 := Q_16.next hB_17; have cQ_17_0 : _ = some (Value.bool sh) := Q_17.cell 0; have cQ_17_1 : _ = some (Value.slice ah nh ch) := Q_17.cell 1; have cQ_17_2 : _ = some (Value.slice bh mh dh) := Q_17.cell 2; have S_17 := S_16.next hB_17; have cS_17_0 : _ = some (Value.bool (decide (z.num < 0))) := S_17.cell 0; have cS_17_1 : _ = some (Value.slice za zn zc) := S_17.cell 1; have cS_17_2 : _ = some (Value.slice zb zm zd) := S_17.cell 2; have E_17 := E_16.next hB_17; have cE_17_0 : _ = some (Value.bool (decide (D.num < 0))) := E_17.cell 0; have cE_17_1 : _ = some (Value.slice ea en ec) := E_17.cell 1; have cE_17_2 : _ = some (Value.slice eb em ed) := E_17.cell 2; have QA_17 := QA_16.below hB_17; have QB_17 := QB_16.below hB_17; have Oz_17 := Oz_16.below hB_17; have Pz_17 := Pz_16.below hB_17; have QS_17 := QS_16.below hB_17; have hbM_17 := hbM_16.next hB_17; have Oe_17 := Oe_16.below hB_17; have Pe_17 := Pe_16.below hB_17; have QD_17 := QD_16.below hB_17; have ND_17 := ND_16.below hB_17; have KD_17 := KD_16.below hB_17; have hbel_17 := hbel_16.next hB_17; have hsz_17 := hB_17.size; clear P_16 cP_16_0 cP_16_1 cP_16_2 Q_16 cQ_16_0 cQ_16_1 cQ_16_2 S_16 cS_16_0 cS_16_1 cS_16_2 E_16 cE_16_0 cE_16_1 cE_16_2 QA_16 QB_16 Oz_16 Pz_16 QS_16 hbM_16 Oe_16 Pe_16 QD_16 ND_16 KD_16 hbel_16 hB_17; try clear hB))))
            clear huw
            have sm1 : QS (lo * D) 5 := (ql.out.mul qd.out).mono (by omega)
            have sm2 : QS (hi * D) 5 := (qh.out.mul qd.out).mono (by omega)
            have hT2 := hT.out
            generalize hm10 : lo * D = m1 at *
            have hm1 := hid hm10
            clear hm10
            generalize hg10 : -m1 = g1 at *
            have hg1 := hid hg10
            have sg1 : QS g1 5 := by rw [← hg10]; exact sm1.neg
            clear hg10
            generalize hf10 : g1.floor = f1 at *
            have hf1 := hid hf10
            have sf1 : Sz f1.natAbs 6 := by rw [← hf10, Rat.floor_def]; exact sz_floor sg1.1
            clear hf10
            generalize hh10 : -f1 = h1 at *
            have hh1 := hid hh10
            have sh1 : Sz h1.natAbs 6 := by rw [← hh10, Int.natAbs_neg]; exact sf1
            clear hh10
            generalize hm20 : hi * D = m2 at *
            have hm2 := hid hm20
            clear hm20
            generalize hf20 : m2.floor = f2 at *
            have hf2 := hid hf20
            have sf2 : Sz f2.natAbs 6 := by rw [← hf20, Rat.floor_def]; exact sz_floor sm2.1
            clear hf20
            have Hsm1 := hid sm1
            clear sm1
            have Hsm2 := hid sm2
            clear sm2
            have Hsg1 := hid sg1
            clear sg1
            have Hsf1 := hid sf1
            clear sf1
            have Hsh1 := hid sh1
            clear sh1
            have Hsf2 := hid sf2
            clear sf2
            have HhT2 := hid hT2
            clear hT2
            go_wp2_with fail
            refine (qmul QA_17 (by omega) QD_17 (by omega)).mono ?_
            rw [hm1.out]
            rintro e w18 ⟨i1a, i1n, i1c, i1b, i1m, i1d, rfl, hO, hO', hDi1, hB⟩
            have hB_18 : Below w17.heap.size w17 w18 := (by first | exact hB | exact below_drew hB | exact bel_alloc hB | exact below_drew (bel_alloc hB) | exact bel_alloc (below_drew hB) | exact bel_alloc (bel_alloc hB) | exact bel_alloc (bel_alloc (below_drew hB)))
            have P_18 := P_17.next hB_18
            have cP_18_0 : _ = some (Value.bool sl) := P_18.cell 0
            have cP_18_1 : _ = some (Value.slice al nl cl) := P_18.cell 1
            have cP_18_2 : _ = some (Value.slice bl ml dl) := P_18.cell 2
            have Q_18 := Q_17.next hB_18
            have cQ_18_0 : _ = some (Value.bool sh) := Q_18.cell 0
            have cQ_18_1 : _ = some (Value.slice ah nh ch) := Q_18.cell 1
            have cQ_18_2 : _ = some (Value.slice bh mh dh) := Q_18.cell 2
            have S_18 := S_17.next hB_18
            have cS_18_0 : _ = some (Value.bool (decide (z.num < 0))) := S_18.cell 0
            have cS_18_1 : _ = some (Value.slice za zn zc) := S_18.cell 1
            have cS_18_2 : _ = some (Value.slice zb zm zd) := S_18.cell 2
            have E_18 := E_17.next hB_18
            have cE_18_0 : _ = some (Value.bool (decide (D.num < 0))) := E_18.cell 0
            have cE_18_1 : _ = some (Value.slice ea en ec) := E_18.cell 1
            have cE_18_2 : _ = some (Value.slice eb em ed) := E_18.cell 2
            have QA_18 := QA_17.below hB_18
            have QB_18 := QB_17.below hB_18
            have Oz_18 := Oz_17.below hB_18
            have Pz_18 := Pz_17.below hB_18
            have QS_18 := QS_17.below hB_18
            have hbM_18 := hbM_17.next hB_18
            have Oe_18 := Oe_17.below hB_18
            have Pe_18 := Pe_17.below hB_18
            have QD_18 := QD_17.below hB_18
            have ND_18 := ND_17.below hB_18
            have KD_18 := KD_17.below hB_18
            have hbel_18 := hbel_17.next hB_18
            have hsz_18 := hB_18.size
            clear P_17 cP_17_0 cP_17_1 cP_17_2 Q_17 cQ_17_0 cQ_17_1 cQ_17_2 S_17 cS_17_0 cS_17_1 cS_17_2 E_17 cE_17_0 cE_17_1 cE_17_2 QA_17 QB_17 Oz_17 Pz_17 QS_17 hbM_17 Oe_17 Pe_17 QD_17 ND_17 KD_17 hbel_17 hB_18
            have QM_18 := hO.rdQ hO' Hsm1.out
            clear hO hO'
            try clear hB
            go_wp2_with fail
            refine (qneg QM_18 (by omega)).mono ?_
            rw [hg1.out]
            rintro e w19 ⟨j1a, j1n, j1c, j1b, j1m, j1d, rfl, hO, hO', hDj1, hB⟩
            have hB_19 : Below w18.heap.size w18 w19 := (by first | exact hB | exact below_drew hB | exact bel_alloc hB | exact below_drew (bel_alloc hB) | exact bel_alloc (below_drew hB) | exact bel_alloc (bel_alloc hB) | exact bel_alloc (bel_alloc (below_drew hB)))
            have P_19 := P_18.next hB_19
            have cP_19_0 : _ = some (Value.bool sl) := P_19.cell 0
            have cP_19_1 : _ = some (Value.slice al nl cl) := P_19.cell 1
            have cP_19_2 : _ = some (Value.slice bl ml dl) := P_19.cell 2
            have Q_19 := Q_18.next hB_19
            have cQ_19_0 : _ = some (Value.bool sh) := Q_19.cell 0
            have cQ_19_1 : _ = some (Value.slice ah nh ch) := Q_19.cell 1
            have cQ_19_2 : _ = some (Value.slice bh mh dh) := Q_19.cell 2
            have S_19 := S_18.next hB_19
            have cS_19_0 : _ = some (Value.bool (decide (z.num < 0))) := S_19.cell 0
            have cS_19_1 : _ = some (Value.slice za zn zc) := S_19.cell 1
            have cS_19_2 : _ = some (Value.slice zb zm zd) := S_19.cell 2
            have E_19 := E_18.next hB_19
            have cE_19_0 : _ = some (Value.bool (decide (D.num < 0))) := E_19.cell 0
            have cE_19_1 : _ = some (Value.slice ea en ec) := E_19.cell 1
            have cE_19_2 : _ = some (Value.slice eb em ed) := E_19.cell 2
            have QA_19 := QA_18.below hB_19
            have QB_19 := QB_18.below hB_19
            have Oz_19 := Oz_18.below hB_19
            have Pz_19 := Pz_18.below hB_19
            have QS_19 := QS_18.below hB_19
            have hbM_19 := hbM_18.next hB_19
            have Oe_19 := Oe_18.below hB_19
            have Pe_19 := Pe_18.below hB_19
            have QD_19 := QD_18.below hB_19
            have ND_19 := ND_18.below hB_19
            have KD_19 := KD_18.below hB_19
            have QM_19 := QM_18.below hB_19
            have hbel_19 := hbel_18.next hB_19
            have hsz_19 := hB_19.size
            clear P_18 cP_18_0 cP_18_1 cP_18_2 Q_18 cQ_18_0 cQ_18_1 cQ_18_2 S_18 cS_18_0 cS_18_1 cS_18_2 E_18 cE_18_0 cE_18_1 cE_18_2 QA_18 QB_18 Oz_18 Pz_18 QS_18 hbM_18 Oe_18 Pe_18 QD_18 ND_18 KD_18 QM_18 hbel_18 hB_19
            have QG_19 := hO.rdQ hO' Hsg1.out
            clear hO hO'
            try clear hB
            go_wp2_with fail
            refine (qfloor QG_19 (by omega)).mono ?_
            rw [hf1.out]
            rintro e w20 ⟨ga, gn, gc, rfl, hO, hB⟩
            have hB_20 : Below w19.heap.size w19 w20 := (by first | exact hB | exact below_drew hB | exact bel_alloc hB | exact below_drew (bel_alloc hB) | exact bel_alloc (below_drew hB) | exact bel_alloc (bel_alloc hB) | exact bel_alloc (bel_alloc (below_drew hB)))
            have P_20 := P_19.next hB_20
            have cP_20_0 : _ = some (Value.bool sl) := P_20.cell 0
            have cP_20_1 : _ = some (Value.slice al nl cl) := P_20.cell 1
            have cP_20_2 : _ = some (Value.slice bl ml dl) := P_20.cell 2
            have Q_20 := Q_19.next hB_20
            have cQ_20_0 : _ = some (Value.bool sh) := Q_20.cell 0
            have cQ_20_1 : _ = some (Value.slice ah nh ch) := Q_20.cell 1
            have cQ_20_2 : _ = some (Value.slice bh mh dh) := Q_20.cell 2
            have S_20 := S_19.next hB_20
            have cS_20_0 : _ = some (Value.bool (decide (z.num < 0))) := S_20.cell 0
            have cS_20_1 : _ = some (Value.slice za zn zc) := S_20.cell 1
            have cS_20_2 : _ = some (Value.slice zb zm zd) := S_20.cell 2
            have E_20 := E_19.next hB_20
            have cE_20_0 : _ = some (Value.bool (decide (D.num < 0))) := E_20.cell 0
            have cE_20_1 : _ = some (Value.slice ea en ec) := E_20.cell 1
            have cE_20_2 : _ = some (Value.slice eb em ed) := E_20.cell 2
            have QA_20 := QA_19.below hB_20
            have QB_20 := QB_19.below hB_20
            have Oz_20 := Oz_19.below hB_20
            have Pz_20 := Pz_19.below hB_20
            have QS_20 := QS_19.below hB_20
            have hbM_20 := hbM_19.next hB_20
            have Oe_20 := Oe_19.below hB_20
            have Pe_20 := Pe_19.below hB_20
            have QD_20 := QD_19.below hB_20
            have ND_20 := ND_19.below hB_20
            have KD_20 := KD_19.below hB_20
            have QM_20 := QM_19.below hB_20
            have QG_20 := QG_19.below hB_20
            have hbel_20 := hbel_19.next hB_20
            have hsz_20 := hB_20.size
            clear P_19 cP_19_0 cP_19_1 cP_19_2 Q_19 cQ_19_0 cQ_19_1 cQ_19_2 S_19 cS_19_0 cS_19_1 cS_19_2 E_19 cE_19_0 cE_19_1 cE_19_2 QA_19 QB_19 Oz_19 Pz_19 QS_19 hbM_19 Oe_19 Pe_19 QD_19 ND_19 KD_19 QM_19 QG_19 hbel_19 hB_20
            have ZF_20 := hO.rdZ Hsf1.out
            clear hO
            try clear hB
            have hbx := blk_new w20 #[Value.bool (decide (f1 < 0)), Value.slice ga gn gc] 25
            have hbB := (Below.refl w20.heap.size w20).alloc (Nat.le_refl _) (.cells #[Value.bool (decide (f1 < 0)), Value.slice ga gn gc] 25)
            have hltF := hbx.lt
            have hB_21 : Below w20.heap.size w20 (w20.alloc (.cells #[Value.bool (decide (f1 < 0)), Value.slice ga gn gc] 25)) := hbB
            have P_21 := P_20.next hB_21
            have cP_21_0 : _ = some (Value.bool sl) := P_21.cell 0
            have cP_21_1 : _ = some (Value.slice al nl cl) := P_21.cell 1
            have cP_21_2 : _ = some (Value.slice bl ml dl) := P_21.cell 2
            have Q_21 := Q_20.next hB_21
            have cQ_21_0 : _ = some (Value.bool sh) := Q_21.cell 0
            have cQ_21_1 : _ = some (Value.slice ah nh ch) := Q_21.cell 1
            have cQ_21_2 : _ = some (Value.slice bh mh dh) := Q_21.cell 2
            have S_21 := S_20.next hB_21
            have cS_21_0 : _ = some (Value.bool (decide (z.num < 0))) := S_21.cell 0
            have cS_21_1 : _ = some (Value.slice za zn zc) := S_21.cell 1
            have cS_21_2 : _ = some (Value.slice zb zm zd) := S_21.cell 2
            have E_21 := E_20.next hB_21
            have cE_21_0 : _ = some (Value.bool (decide (D.num < 0))) := E_21.cell 0
            have cE_21_1 : _ = some (Value.slice ea en ec) := E_21.cell 1
            have cE_21_2 : _ = some (Value.slice eb em ed) := E_21.cell 2
            have QA_21 := QA_20.below hB_21
            have QB_21 := QB_20.below hB_21
            have Oz_21 := Oz_20.below hB_21
            have Pz_21 := Pz_20.below hB_21
            have QS_21 := QS_20.below hB_21
            have hbM_21 := hbM_20.next hB_21
            have Oe_21 := Oe_20.below hB_21
            have Pe_21 := Pe_20.below hB_21
            have QD_21 := QD_20.below hB_21
            have ND_21 := ND_20.below hB_21
            have KD_21 := KD_20.below hB_21
            have QM_21 := QM_20.below hB_21
            have QG_21 := QG_20.below hB_21
            have ZF_21 := ZF_20.below hB_21
            have hbel_21 := hbel_20.next hB_21
            have hsz_21 := hB_21.size
            clear hB_21
            have F_21 := hbx
            clear hbx hbB
            have cF_21_0 : _ = some (Value.bool (decide (f1 < 0))) := F_21.cell 0
            have cF_21_1 : _ = some (Value.slice ga gn gc) := F_21.cell 1
            go_wp2_with fail
            clear P_20 cP_20_0 cP_20_1 cP_20_2 Q_20 cQ_20_0 cQ_20_1 cQ_20_2 S_20 cS_20_0 cS_20_1 cS_20_2 E_20 cE_20_0 cE_20_1 cE_20_2 QA_20 QB_20 Oz_20 Pz_20 QS_20 hbM_20 Oe_20 Pe_20 QD_20 ND_20 KD_20 QM_20 QG_20 ZF_20 hbel_20
            generalize (w20.alloc (.cells #[Value.bool (decide (f1 < 0)), Value.slice ga gn gc] 25)) = v21 at *
            go_wp2_with fail
            refine (qmul QB_21 (by omega) QD_21 (by omega)).mono ?_
            rw [hm2.out]
            rintro e w22 ⟨k1a, k1n, k1c, k1b, k1m, k1d, rfl, hO, hO', hDk1, hB⟩
            have hB_22 : Below v21.heap.size v21 w22 := (by first | exact hB | exact below_drew hB | exact bel_alloc hB | exact below_drew (bel_alloc hB) | exact bel_alloc (below_drew hB) | exact bel_alloc (bel_alloc hB) | exact bel_alloc (bel_alloc (below_drew hB)))
            have P_22 := P_21.next hB_22
            have cP_22_0 : _ = some (Value.bool sl) := P_22.cell 0
            have cP_22_1 : _ = some (Value.slice al nl cl) := P_22.cell 1
            have cP_22_2 : _ = some (Value.slice bl ml dl) := P_22.cell 2
            have Q_22 := Q_21.next hB_22
            have cQ_22_0 : _ = some (Value.bool sh) := Q_22.cell 0
            have cQ_22_1 : _ = some (Value.slice ah nh ch) := Q_22.cell 1
            have cQ_22_2 : _ = some (Value.slice bh mh dh) := Q_22.cell 2
            have S_22 := S_21.next hB_22
            have cS_22_0 : _ = some (Value.bool (decide (z.num < 0))) := S_22.cell 0
            have cS_22_1 : _ = some (Value.slice za zn zc) := S_22.cell 1
            have cS_22_2 : _ = some (Value.slice zb zm zd) := S_22.cell 2
            have E_22 := E_21.next hB_22
            have cE_22_0 : _ = some (Value.bool (decide (D.num < 0))) := E_22.cell 0
            have cE_22_1 : _ = some (Value.slice ea en ec) := E_22.cell 1
            have cE_22_2 : _ = some (Value.slice eb em ed) := E_22.cell 2
            have F_22 := F_21.next hB_22
            have cF_22_0 : _ = some (Value.bool (decide (f1 < 0))) := F_22.cell 0
            have cF_22_1 : _ = some (Value.slice ga gn gc) := F_22.cell 1
            have QA_22 := QA_21.below hB_22
            have QB_22 := QB_21.below hB_22
            have Oz_22 := Oz_21.below hB_22
            have Pz_22 := Pz_21.below hB_22
            have QS_22 := QS_21.below hB_22
            have hbM_22 := hbM_21.next hB_22
            have Oe_22 := Oe_21.below hB_22
            have Pe_22 := Pe_21.below hB_22
            have QD_22 := QD_21.below hB_22
            have ND_22 := ND_21.below hB_22
            have KD_22 := KD_21.below hB_22
            have QM_22 := QM_21.below hB_22
            have QG_22 := QG_21.below hB_22
            have ZF_22 := ZF_21.below hB_22
            have hbel_22 := hbel_21.next hB_22
            have hsz_22 := hB_22.size
            clear P_21 cP_21_0 cP_21_1 cP_21_2 Q_21 cQ_21_0 cQ_21_1 cQ_21_2 S_21 cS_21_0 cS_21_1 cS_21_2 E_21 cE_21_0 cE_21_1 cE_21_2 F_21 cF_21_0 cF_21_1 QA_21 QB_21 Oz_21 Pz_21 QS_21 hbM_21 Oe_21 Pe_21 QD_21 ND_21 KD_21 QM_21 QG_21 ZF_21 hbel_21 hB_22
            have QN_22 := hO.rdQ hO' Hsm2.out
            clear hO hO'
            try clear hB
            go_wp2_with fail
            refine (qfloor QN_22 (by omega)).mono ?_
            rw [hf2.out]
            rintro e w23 ⟨ha, hn, hc', rfl, hO, hB⟩
            have hB_23 : Below w22.heap.size w22 w23 := (by first | exact hB | exact below_drew hB | exact bel_alloc hB | exact below_drew (bel_alloc hB) | exact bel_alloc (below_drew hB) | exact bel_alloc (bel_alloc hB) | exact bel_alloc (bel_alloc (below_drew hB)))
            have P_23 := P_22.next hB_23
            have cP_23_0 : _ = some (Value.bool sl) := P_23.cell 0
            have cP_23_1 : _ = some (Value.slice al nl cl) := P_23.cell 1
            have cP_23_2 : _ = some (Value.slice bl ml dl) := P_23.cell 2
            have Q_23 := Q_22.next hB_23
            have cQ_23_0 : _ = some (Value.bool sh) := Q_23.cell 0
            have cQ_23_1 : _ = some (Value.slice ah nh ch) := Q_23.cell 1
            have cQ_23_2 : _ = some (Value.slice bh mh dh) := Q_23.cell 2
            have S_23 := S_22.next hB_23
            have cS_23_0 : _ = some (Value.bool (decide (z.num < 0))) := S_23.cell 0
            have cS_23_1 : _ = some (Value.slice za zn zc) := S_23.cell 1
            have cS_23_2 : _ = some (Value.slice zb zm zd) := S_23.cell 2
            have E_23 := E_22.next hB_23
            have cE_23_0 : _ = some (Value.bool (decide (D.num < 0))) := E_23.cell 0
            have cE_23_1 : _ = some (Value.slice ea en ec) := E_23.cell 1
            have cE_23_2 : _ = some (Value.slice eb em ed) := E_23.cell 2
            have F_23 := F_22.next hB_23
            have cF_23_0 : _ = some (Value.bool (decide (f1 < 0))) := F_23.cell 0
            have cF_23_1 : _ = some (Value.slice ga gn gc) := F_23.cell 1
            have QA_23 := QA_22.below hB_23
            have QB_23 := QB_22.below hB_23
            have Oz_23 := Oz_22.below hB_23
            have Pz_23 := Pz_22.below hB_23
            have QS_23 := QS_22.below hB_23
            have hbM_23 := hbM_22.next hB_23
            have Oe_23 := Oe_22.below hB_23
            have Pe_23 := Pe_22.below hB_23
            have QD_23 := QD_22.below hB_23
            have ND_23 := ND_22.below hB_23
            have KD_23 := KD_22.below hB_23
            have QM_23 := QM_22.below hB_23
            have QG_23 := QG_22.below hB_23
            have ZF_23 := ZF_22.below hB_23
            have QN_23 := QN_22.below hB_23
            have hbel_23 := hbel_22.next hB_23
            have hsz_23 := hB_23.size
            clear P_22 cP_22_0 cP_22_1 cP_22_2 Q_22 cQ_22_0 cQ_22_1 cQ_22_2 S_22 cS_22_0 cS_22_1 cS_22_2 E_22 cE_22_0 cE_22_1 cE_22_2 F_22 cF_22_0 cF_22_1 QA_22 QB_22 Oz_22 Pz_22 QS_22 hbM_22 Oe_22 Pe_22 QD_22 ND_22 KD_22 QM_22 QG_22 ZF_22 QN_22 hbel_22 hB_23
            have ZG_23 := hO.rdZ Hsf2.out
            clear hO
            try clear hB
            have hbx := blk_new w23 #[Value.bool (decide (f2 < 0)), Value.slice ha hn hc'] 25
            have hbB := (Below.refl w23.heap.size w23).alloc (Nat.le_refl _) (.cells #[Value.bool (decide (f2 < 0)), Value.slice ha hn hc'] 25)
            have hltG := hbx.lt
            have hB_24 : Below w23.heap.size w23 (w23.alloc (.cells #[Value.bool (decide (f2 < 0)), Value.slice ha hn hc'] 25)) := hbB
            have P_24 := P_23.next hB_24
            have cP_24_0 : _ = some (Value.bool sl) := P_24.cell 0
            have cP_24_1 : _ = some (Value.slice al nl cl) := P_24.cell 1
            have cP_24_2 : _ = some (Value.slice bl ml dl) := P_24.cell 2
            have Q_24 := Q_23.next hB_24
            have cQ_24_0 : _ = some (Value.bool sh) := Q_24.cell 0
            have cQ_24_1 : _ = some (Value.slice ah nh ch) := Q_24.cell 1
            have cQ_24_2 : _ = some (Value.slice bh mh dh) := Q_24.cell 2
            have S_24 := S_23.next hB_24
            have cS_24_0 : _ = some (Value.bool (decide (z.num < 0))) := S_24.cell 0
            have cS_24_1 : _ = some (Value.slice za zn zc) := S_24.cell 1
            have cS_24_2 : _ = some (Value.slice zb zm zd) := S_24.cell 2
            have E_24 := E_23.next hB_24
            have cE_24_0 : _ = some (Value.bool (decide (D.num < 0))) := E_24.cell 0
            have cE_24_1 : _ = some (Value.slice ea en ec) := E_24.cell 1
            have cE_24_2 : _ = some (Value.slice eb em ed) := E_24.cell 2
            have F_24 := F_23.next hB_24
            have cF_24_0 : _ = some (Value.bool (decide (f1 < 0))) := F_24.cell 0
            have cF_24_1 : _ = some (Value.slice ga gn gc) := F_24.cell 1
            have QA_24 := QA_23.below hB_24
            have QB_24 := QB_23.below hB_24
            have Oz_24 := Oz_23.below hB_24
            have Pz_24 := Pz_23.below hB_24
            have QS_24 := QS_23.below hB_24
            have hbM_24 := hbM_23.next hB_24
            have Oe_24 := Oe_23.below hB_24
            have Pe_24 := Pe_23.below hB_24
            have QD_24 := QD_23.below hB_24
            have ND_24 := ND_23.below hB_24
            have KD_24 := KD_23.below hB_24
            have QM_24 := QM_23.below hB_24
            have QG_24 := QG_23.below hB_24
            have ZF_24 := ZF_23.below hB_24
            have QN_24 := QN_23.below hB_24
            have ZG_24 := ZG_23.below hB_24
            have hbel_24 := hbel_23.next hB_24
            have hsz_24 := hB_24.size
            clear hB_24
            have G_24 := hbx
            clear hbx hbB
            have cG_24_0 : _ = some (Value.bool (decide (f2 < 0))) := G_24.cell 0
            have cG_24_1 : _ = some (Value.slice ha hn hc') := G_24.cell 1
            go_wp2_with fail
            clear P_23 cP_23_0 cP_23_1 cP_23_2 Q_23 cQ_23_0 cQ_23_1 cQ_23_2 S_23 cS_23_0 cS_23_1 cS_23_2 E_23 cE_23_0 cE_23_1 cE_23_2 F_23 cF_23_0 cF_23_1 QA_23 QB_23 Oz_23 Pz_23 QS_23 hbM_23 Oe_23 Pe_23 QD_23 ND_23 KD_23 QM_23 QG_23 ZF_23 QN_23 ZG_23 hbel_23
            generalize (w23.alloc (.cells #[Value.bool (decide (f2 < 0)), Value.slice ha hn hc'] 25)) = v24 at *
            go_wp2_with fail
            go_region_held3 (fun w' => w'.cell? ⟨w2.heap.size, 0, none⟩ = some (Value.bool sl) ∧ w'.cell? ⟨w2.heap.size, 1, none⟩ = some (Value.slice al nl cl) ∧ w'.cell? ⟨w2.heap.size, 2, none⟩ = some (Value.slice bl ml dl) ∧ w'.cell? ⟨w4.heap.size, 0, none⟩ = some (Value.bool sh) ∧ w'.cell? ⟨w4.heap.size, 1, none⟩ = some (Value.slice ah nh ch) ∧ w'.cell? ⟨w4.heap.size, 2, none⟩ = some (Value.slice bh mh dh) ∧ w'.cell? ⟨w8.heap.size, 0, none⟩ = some (Value.bool (decide (z.num < 0))) ∧ w'.cell? ⟨w8.heap.size, 1, none⟩ = some (Value.slice za zn zc) ∧ w'.cell? ⟨w8.heap.size, 2, none⟩ = some (Value.slice zb zm zd) ∧ w'.cell? ⟨w14.heap.size, 0, none⟩ = some (Value.bool (decide (D.num < 0))) ∧ w'.cell? ⟨w14.heap.size, 1, none⟩ = some (Value.slice ea en ec) ∧ w'.cell? ⟨w14.heap.size, 2, none⟩ = some (Value.slice eb em ed) ∧ w'.cell? ⟨w20.heap.size, 0, none⟩ = some (Value.bool (decide (f1 < 0))) ∧ w'.cell? ⟨w20.heap.size, 1, none⟩ = some (Value.slice ga gn gc) ∧ w'.cell? ⟨w23.heap.size, 0, none⟩ = some (Value.bool (decide (f2 < 0))) ∧ w'.cell? ⟨w23.heap.size, 1, none⟩ = some (Value.slice ha hn hc'))
              (first | exact ⟨cP_24_0, cP_24_1, cP_24_2, cQ_24_0, cQ_24_1, cQ_24_2, cS_24_0, cS_24_1, cS_24_2, cE_24_0, cE_24_1, cE_24_2, cF_24_0, cF_24_1, cG_24_0, cG_24_1⟩ | exact ⟨cP_25_0, cP_25_1, cP_25_2, cQ_25_0, cQ_25_1, cQ_25_2, cS_25_0, cS_25_1, cS_25_2, cE_25_0, cE_25_1, cE_25_2, cF_25_0, cF_25_1, cG_25_0, cG_25_1⟩ | exact ⟨cP_26_0, cP_26_1, cP_26_2, cQ_26_0, cQ_26_1, cQ_26_2, cS_26_0, cS_26_1, cS_26_2, cE_26_0, cE_26_1, cE_26_2, cF_26_0, cF_26_1, cG_26_0, cG_26_1⟩ | go_keep)
              (first
                | (go_at_call 54; ((with_reducible refine (znegR (ZF_24.below (by first | exact Below.refl _ _ | exact (Below.refl _ _).drew | exact (Below.refl _ _).alloc (Nat.le_refl _) _ | exact ((Below.refl _ _).alloc (Nat.le_refl _) _).drew | exact (Below.refl _ _).drew.alloc (Nat.le_refl _) _ | exact ((Below.refl _ _).alloc (Nat.le_refl _) _).alloc (by simp) _ | exact (((Below.refl _ _).alloc (Nat.le_refl _) _).alloc (by simp) _).drew)) (by omega)).mono ?_); (rw [hh1.out]; rintro e w25 ⟨ia, ni, ci, rfl, hO, hB⟩; have hB_25 : Below v24.heap.size v24 w25 := (by first | exact hB | exact below_drew hB | exact bel_alloc hB | exact below_drew (bel_alloc hB) | exact bel_alloc (below_drew hB) | exact bel_alloc (bel_alloc hB) | exact bel_alloc (bel_alloc (below_drew hB))); have P_25 := P_24.next hB_25; have cP_25_0 : _ = some (Value.bool sl) := P_25.cell 0; have cP_25_1 : _ = some (Value.slice al nl cl) := P_25.cell 1; have cP_25_2 : _ = some (Value.slice bl ml dl) := P_25.cell 2; have Q_25 := Q_24.next hB_25; have cQ_25_0 : _ = some (Value.bool sh) := Q_25.cell 0; have cQ_25_1 : _ = some (Value.slice ah nh ch) := Q_25.cell 1; have cQ_25_2 : _ = some (Value.slice bh mh dh) := Q_25.cell 2; have S_25 := S_24.next hB_25; have cS_25_0 : _ = some (Value.bool (decide (z.num < 0))) := S_25.cell 0; have cS_25_1 : _ = some (Value.slice za zn zc) := S_25.cell 1; have cS_25_2 : _ = some (Value.slice zb zm zd) := S_25.cell 2; have E_25 := E_24.next hB_25; have cE_25_0 : _ = some (Value.bool (decide (D.num < 0))) := E_25.cell 0; have cE_25_1 : _ = some (Value.slice ea en ec) := E_25.cell 1; have cE_25_2 : _ = some (Value.slice eb em ed) := E_25.cell 2; have F_25 := F_24.next hB_25; have cF_25_0 : _ = some (Value.bool (decide (f1 < 0))) := F_25.cell 0; have cF_25_1 : _ = some (Value.slice ga gn gc) := F_25.cell 1; have G_25 := G_24.next hB_25; have cG_25_0 : _ = some (Value.bool (decide (f2 < 0))) := G_25.cell 0; have cG_25_1 : _ = some (Value.slice ha hn hc') := G_25.cell 1; have QA_25 := QA_24.below hB_25; have QB_25 := QB_24.below hB_25; have Oz_25 := Oz_24.below hB_25; have Pz_25 := Pz_24.below hB_25; have QS_25 := QS_24.below hB_25; have hbM_25 := hbM_24.next hB_25; have Oe_25 := Oe_24.below hB_25; have Pe_25 := Pe_24.below hB_25; have QD_25 := QD_24.below hB_25; have ND_25 := ND_24.below hB_25; have KD_25 := KD_24.below hB_25; have QM_25 := QM_24.below hB_25; have QG_25 := QG_24.below hB_25; have ZF_25 := ZF_24.below hB_25; have QN_25 := QN_24.below hB_25; have ZG_25 := ZG_24.below hB_25; have hbel_25 := hbel_24.next hB_25; have hsz_25 := hB_25.size; clear P_24 cP_24_0 cP_24_1 cP_24_2 Q_24 cQ_24_0 cQ_24_1 cQ_24_2 S_24 cS_24_0 cS_24_1 cS_24_2 E_24 cE_24_0 cE_24_1 cE_24_2 F_24 cF_24_0 cF_24_1 G_24 cG_24_0 cG_24_1 QA_24 QB_24 Oz_24 Pz_24 QS_24 hbM_24 Oe_24 Pe_24 QD_24 ND_24 KD_24 QM_24 QG_24 ZF_24 QN_24 ZG_24 hbel_24 hB_25; have ZH_25 := hO.rdZ Hsh1.out; clear hO; try clear hB)))
                | (go_at_call 49; ((with_reducible refine (zcmpR (ZH_25.below (by first | exact Below.refl _ _ | exact (Below.refl _ _).drew | exact (Below.refl _ _).alloc (Nat.le_refl _) _ | exact ((Below.refl _ _).alloc (Nat.le_refl _) _).drew | exact (Below.refl _ _).drew.alloc (Nat.le_refl _) _ | exact ((Below.refl _ _).alloc (Nat.le_refl _) _).alloc (by simp) _ | exact (((Below.refl _ _).alloc (Nat.le_refl _) _).alloc (by simp) _).drew)) (ZG_25.below (by first | exact Below.refl _ _ | exact (Below.refl _ _).drew | exact (Below.refl _ _).alloc (Nat.le_refl _) _ | exact ((Below.refl _ _).alloc (Nat.le_refl _) _).drew | exact (Below.refl _ _).drew.alloc (Nat.le_refl _) _ | exact ((Below.refl _ _).alloc (Nat.le_refl _) _).alloc (by simp) _ | exact (((Below.refl _ _).alloc (Nat.le_refl _) _).alloc (by simp) _).drew)) (by omega) (by omega)).mono ?_); (rw [HhT2.out]; rintro e w26 ⟨rfl, hB⟩; have hB_26 : Below w25.heap.size w25 w26 := (by first | exact hB | exact below_drew hB | exact bel_alloc hB | exact below_drew (bel_alloc hB) | exact bel_alloc (below_drew hB) | exact bel_alloc (bel_alloc hB) | exact bel_alloc (bel_alloc (below_drew hB))); have P_26 := P_25.next hB_26; have cP_26_0 : _ = some (Value.bool sl) := P_26.cell 0; have cP_26_1 : _ = some (Value.slice al nl cl) := P_26.cell 1; have cP_26_2 : _ = some (Value.slice bl ml dl) := P_26.cell 2; have Q_26 := Q_25.next hB_26; have cQ_26_0 : _ = some (Value.bool sh) := Q_26.cell 0; have cQ_26_1 : _ = some (Value.slice ah nh ch) := Q_26.cell 1; have cQ_26_2 : _ = some (Value.slice bh mh dh) := Q_26.cell 2; have S_26 := S_25.next hB_26; have cS_26_0 : _ = some (Value.bool (decide (z.num < 0))) := S_26.cell 0; have cS_26_1 : _ = some (Value.slice za zn zc) := S_26.cell 1; have cS_26_2 : _ = some (Value.slice zb zm zd) := S_26.cell 2; have E_26 := E_25.next hB_26; have cE_26_0 : _ = some (Value.bool (decide (D.num < 0))) := E_26.cell 0; have cE_26_1 : _ = some (Value.slice ea en ec) := E_26.cell 1; have cE_26_2 : _ = some (Value.slice eb em ed) := E_26.cell 2; have F_26 := F_25.next hB_26; have cF_26_0 : _ = some (Value.bool (decide (f1 < 0))) := F_26.cell 0; have cF_26_1 : _ = some (Value.slice ga gn gc) := F_26.cell 1; have G_26 := G_25.next hB_26; have cG_26_0 : _ = some (Value.bool (decide (f2 < 0))) := G_26.cell 0; have cG_26_1 : _ = some (Value.slice ha hn hc') := G_26.cell 1; have QA_26 := QA_25.below hB_26; have QB_26 := QB_25.below hB_26; have Oz_26 := Oz_25.below hB_26; have Pz_26 := Pz_25.below hB_26; have QS_26 := QS_25.below hB_26; have hbM_26 := hbM_25.next hB_26; have Oe_26 := Oe_25.below hB_26; have Pe_26 := Pe_25.below hB_26; have QD_26 := QD_25.below hB_26; have ND_26 := ND_25.below hB_26; have KD_26 := KD_25.below hB_26; have QM_26 := QM_25.below hB_26; have QG_26 := QG_25.below hB_26; have ZF_26 := ZF_25.below hB_26; have QN_26 := QN_25.below hB_26; have ZG_26 := ZG_25.below hB_26; have ZH_26 := ZH_25.below hB_26; have hbel_26 := hbel_25.next hB_26; have hsz_26 := hB_26.size; clear P_25 cP_25_0 cP_25_1 cP_25_2 Q_25 cQ_25_0 cQ_25_1 cQ_25_2 S_25 cS_25_0 cS_25_1 cS_25_2 E_25 cE_25_0 cE_25_1 cE_25_2 F_25 cF_25_0 cF_25_1 G_25 cG_25_0 cG_25_1 QA_25 QB_25 Oz_25 Pz_25 QS_25 hbM_25 Oe_25 Pe_25 QD_25 ND_25 KD_25 QM_25 QG_25 ZF_25 QN_25 ZG_25 ZH_25 hbel_25 hB_26; try clear hB))))
            go_wp2
            go_roundw
            case rel => exact ⟨dd + 1, by omega, by omega, by go_num, hbM_26⟩
            case measure => simp [intOf]; omega
          · skip
            have hk3 : 0 ≤ c3 := by rw [← hc30]; rcases cmpI_cases dd z.den with ⟨_, e⟩ | ⟨_, e⟩ | ⟨_, e⟩ <;> omega
            clear hc30
            clear hds hdl2
            go_wp2_with fail
            have huw : IntKind.u64.wrap (dd : Int) = dd := IntWalk.u64_in _ (by omega)
            go_wp2_with fail
            go_region_held3 (fun w' => w'.cell? ⟨w2.heap.size, 0, none⟩ = some (Value.bool sl) ∧ w'.cell? ⟨w2.heap.size, 1, none⟩ = some (Value.slice al nl cl) ∧ w'.cell? ⟨w2.heap.size, 2, none⟩ = some (Value.slice bl ml dl) ∧ w'.cell? ⟨w4.heap.size, 0, none⟩ = some (Value.bool sh) ∧ w'.cell? ⟨w4.heap.size, 1, none⟩ = some (Value.slice ah nh ch) ∧ w'.cell? ⟨w4.heap.size, 2, none⟩ = some (Value.slice bh mh dh) ∧ w'.cell? ⟨w8.heap.size, 0, none⟩ = some (Value.bool (decide (z.num < 0))) ∧ w'.cell? ⟨w8.heap.size, 1, none⟩ = some (Value.slice za zn zc) ∧ w'.cell? ⟨w8.heap.size, 2, none⟩ = some (Value.slice zb zm zd) ∧ w'.cell? ⟨w14.heap.size, 0, none⟩ = some (Value.bool (decide (D.num < 0))) ∧ w'.cell? ⟨w14.heap.size, 1, none⟩ = some (Value.slice ea en ec) ∧ w'.cell? ⟨w14.heap.size, 2, none⟩ = some (Value.slice eb em ed))
              (first | exact ⟨cP_15_0, cP_15_1, cP_15_2, cQ_15_0, cQ_15_1, cQ_15_2, cS_15_0, cS_15_1, cS_15_2, cE_15_0, cE_15_1, cE_15_2⟩ | exact ⟨cP_16_0, cP_16_1, cP_16_2, cQ_16_0, cQ_16_1, cQ_16_2, cS_16_0, cS_16_1, cS_16_2, cE_16_0, cE_16_1, cE_16_2⟩ | exact ⟨cP_17_0, cP_17_1, cP_17_2, cQ_17_0, cQ_17_1, cQ_17_2, cS_17_0, cS_17_1, cS_17_2, cE_17_0, cE_17_1, cE_17_2⟩ | go_keep)
              (first
                | (go_at_call 53; ((with_reducible refine (of_any (dd : Int) (by omega) (by omega)).mono ?_); (rw [Int.toNat_natCast]; rintro e w16 ⟨ka, kn, kc, rfl, hO, hB⟩; have hB_16 : Below v15.heap.size v15 w16 := (by first | exact hB | exact below_drew hB | exact bel_alloc hB | exact below_drew (bel_alloc hB) | exact bel_alloc (below_drew hB) | exact bel_alloc (bel_alloc hB) | exact bel_alloc (bel_alloc (below_drew hB))); have P_16 := P_15.next hB_16; have cP_16_0 : _ = some (Value.bool sl) := P_16.cell 0; have cP_16_1 : _ = some (Value.slice al nl cl) := P_16.cell 1; have cP_16_2 : _ = some (Value.slice bl ml dl) := P_16.cell 2; have Q_16 := Q_15.next hB_16; have cQ_16_0 : _ = some (Value.bool sh) := Q_16.cell 0; have cQ_16_1 : _ = some (Value.slice ah nh ch) := Q_16.cell 1; have cQ_16_2 : _ = some (Value.slice bh mh dh) := Q_16.cell 2; have S_16 := S_15.next hB_16; have cS_16_0 : _ = some (Value.bool (decide (z.num < 0))) := S_16.cell 0; have cS_16_1 : _ = some (Value.slice za zn zc) := S_16.cell 1; have cS_16_2 : _ = some (Value.slice zb zm zd) := S_16.cell 2; have E_16 := E_15.next hB_16; have cE_16_0 : _ = some (Value.bool (decide (D.num < 0))) := E_16.cell 0; have cE_16_1 : _ = some (Value.slice ea en ec) := E_16.cell 1; have cE_16_2 : _ = some (Value.slice eb em ed) := E_16.cell 2; have QA_16 := QA_15.below hB_16; have QB_16 := QB_15.below hB_16; have Oz_16 := Oz_15.below hB_16; have Pz_16 := Pz_15.below hB_16; have QS_16 := QS_15.below hB_16; have hbM_16 := hbM_15.next hB_16; have Oe_16 := Oe_15.below hB_16; have Pe_16 := Pe_15.below hB_16; have QD_16 := QD_15.below hB_16; have ND_16 := ND_15.below hB_16; have hbel_16 := hbel_15.next hB_16; have hsz_16 := hB_16.size; clear P_15 cP_15_0 cP_15_1 cP_15_2 Q_15 cQ_15_0 cQ_15_1 cQ_15_2 S_15 cS_15_0 cS_15_1 cS_15_2 E_15 cE_15_0 cE_15_1 cE_15_2 QA_15 QB_15 Oz_15 Pz_15 QS_15 hbM_15 Oe_15 Pe_15 QD_15 ND_15 hbel_15 hB_16; have KD_16 := hO.rdN sd.out; clear hO; try clear hB)))
                | (go_at_call 52; ((with_reducible refine (ncmpR (KD_16.below (by first | exact Below.refl _ _ | exact (Below.refl _ _).drew | exact (Below.refl _ _).alloc (Nat.le_refl _) _ | exact ((Below.refl _ _).alloc (Nat.le_refl _) _).drew | exact (Below.refl _ _).drew.alloc (Nat.le_refl _) _ | exact ((Below.refl _ _).alloc (Nat.le_refl _) _).alloc (by simp) _ | exact (((Below.refl _ _).alloc (Nat.le_refl _) _).alloc (by simp) _).drew)) (ND_16.below (by first | exact Below.refl _ _ | exact (Below.refl _ _).drew | exact (Below.refl _ _).alloc (Nat.le_refl _) _ | exact ((Below.refl _ _).alloc (Nat.le_refl _) _).drew | exact (Below.refl _ _).drew.alloc (Nat.le_refl _) _ | exact ((Below.refl _ _).alloc (Nat.le_refl _) _).alloc (by simp) _ | exact (((Below.refl _ _).alloc (Nat.le_refl _) _).alloc (by simp) _).drew))).mono ?_); (rw [hc3.out]; rintro e w17 ⟨rfl, hB⟩; have hB_17 : Below w16.heap.size w16 w17 := (by first | exact hB | exact below_drew hB | exact bel_alloc hB | exact below_drew (bel_alloc hB) | exact bel_alloc (below_drew hB) | exact bel_alloc (bel_alloc hB) | exact bel_alloc (bel_alloc (below_drew hB))); have P_17 := P_16.next hB_17; have cP_17_0 : _ = some (Value.bool sl) := P_17.cell 0; have cP_17_1 : _ = some (Value.slice al nl cl) := P_17.cell 1; have cP_17_2 : _ = some (Value.slice bl ml dl) := P_17.cell 2; have Q_17 := Q_16.next hB_17; have cQ_17_0 : _ = some (Value.bool sh) := Q_17.cell 0; have cQ_17_1 : _ = some (Value.slice ah nh ch) := Q_17.cell 1; have cQ_17_2 : _ = some (Value.slice bh mh dh) := Q_17.cell 2; have S_17 := S_16.next hB_17; have cS_17_0 : _ = some (Value.bool (decide (z.num < 0))) := S_17.cell 0; have cS_17_1 : _ = some (Value.slice za zn zc) := S_17.cell 1; have cS_17_2 : _ = some (Value.slice zb zm zd) := S_17.cell 2; have E_17 := E_16.next hB_17; have cE_17_0 : _ = some (Value.bool (decide (D.num < 0))) := E_17.cell 0; have cE_17_1 : _ = some (Value.slice ea en ec) := E_17.cell 1; have cE_17_2 : _ = some (Value.slice eb em ed) := E_17.cell 2; have QA_17 := QA_16.below hB_17; have QB_17 := QB_16.below hB_17; have Oz_17 := Oz_16.below hB_17; have Pz_17 := Pz_16.below hB_17; have QS_17 := QS_16.below hB_17; have hbM_17 := hbM_16.next hB_17; have Oe_17 := Oe_16.below hB_17; have Pe_17 := Pe_16.below hB_17; have QD_17 := QD_16.below hB_17; have ND_17 := ND_16.below hB_17; have KD_17 := KD_16.below hB_17; have hbel_17 := hbel_16.next hB_17; have hsz_17 := hB_17.size; clear P_16 cP_16_0 cP_16_1 cP_16_2 Q_16 cQ_16_0 cQ_16_1 cQ_16_2 S_16 cS_16_0 cS_16_1 cS_16_2 E_16 cE_16_0 cE_16_1 cE_16_2 QA_16 QB_16 Oz_16 Pz_16 QS_16 hbM_16 Oe_16 Pe_16 QD_16 ND_16 KD_16 hbel_16 hB_17; try clear hB))))
            clear huw
            go_wp2_with fail
            go_meet
            exact hbM_17
        · go_wp2_with fail
          go_meet
          first | exact hbM_13 | exact Below.refl _ _
    case rest =>
      have hbM_13 := hcut
      have P_13 := mP.out.next hbM_13
      have Q_13 := mQ.out.next hbM_13
      have S_13 := mS.out.next hbM_13
      have QA_13 := mQA.out.below hbM_13
      have QB_13 := mQB.out.below hbM_13
      have Oz_13 := mOz.out.below hbM_13
      have Pz_13 := mPz.out.below hbM_13
      have QS_13 := mQS.out.below hbM_13
      have hbel_13 := mhbel.out.next hbM_13
      have hsz_13 := hbM_13.size
      clear P_12 Q_12 S_12 cP_12_0 cP_12_1 cP_12_2 cQ_12_0 cQ_12_1 cQ_12_2 cS_12_0 cS_12_1 cS_12_2 QA_12 QB_12 Oz_12 Pz_12 QS_12 hbM_12 hbel_12
      have cP_13_0 : _ = some (Value.bool sl) := P_13.cell 0
      have cP_13_1 : _ = some (Value.slice al nl cl) := P_13.cell 1
      have cP_13_2 : _ = some (Value.slice bl ml dl) := P_13.cell 2
      have cQ_13_0 : _ = some (Value.bool sh) := Q_13.cell 0
      have cQ_13_1 : _ = some (Value.slice ah nh ch) := Q_13.cell 1
      have cQ_13_2 : _ = some (Value.slice bh mh dh) := Q_13.cell 2
      have cS_13_0 : _ = some (Value.bool (decide (z.num < 0))) := S_13.cell 0
      have cS_13_1 : _ = some (Value.slice za zn zc) := S_13.cell 1
      have cS_13_2 : _ = some (Value.slice zb zm zd) := S_13.cell 2
      clear hcut
      obtain ⟨wc13, hwc⟩ : ∃ y : World, y = wc := ⟨_, rfl⟩
      subst hwc
      obtain ⟨sg, hsg0⟩ : ∃ c, sgnQ z = c := ⟨_, rfl⟩
      have hsg := hid hsg0
      by_cases hz0 : z.num = 0
      · skip
        obtain rfl : sg = 0 := by rw [← hsg0]; show sgn z.num = 0; rw [hz0]; rfl
        clear hsg0 hz0
        go_wp2_with fail
        refine (qsign QS_13 (by omega)).mono ?_
        rw [hsg.out]
        rintro e w14 ⟨rfl, hB⟩
        have hB_14 : Below wc13.heap.size wc13 w14 := (by first | exact hB | exact below_drew hB | exact bel_alloc hB | exact below_drew (bel_alloc hB) | exact bel_alloc (below_drew hB) | exact bel_alloc (bel_alloc hB) | exact bel_alloc (bel_alloc (below_drew hB)))
        have P_14 := P_13.next hB_14
        have cP_14_0 : _ = some (Value.bool sl) := P_14.cell 0
        have cP_14_1 : _ = some (Value.slice al nl cl) := P_14.cell 1
        have cP_14_2 : _ = some (Value.slice bl ml dl) := P_14.cell 2
        have Q_14 := Q_13.next hB_14
        have cQ_14_0 : _ = some (Value.bool sh) := Q_14.cell 0
        have cQ_14_1 : _ = some (Value.slice ah nh ch) := Q_14.cell 1
        have cQ_14_2 : _ = some (Value.slice bh mh dh) := Q_14.cell 2
        have S_14 := S_13.next hB_14
        have cS_14_0 : _ = some (Value.bool (decide (z.num < 0))) := S_14.cell 0
        have cS_14_1 : _ = some (Value.slice za zn zc) := S_14.cell 1
        have cS_14_2 : _ = some (Value.slice zb zm zd) := S_14.cell 2
        have QA_14 := QA_13.below hB_14
        have QB_14 := QB_13.below hB_14
        have Oz_14 := Oz_13.below hB_14
        have Pz_14 := Pz_13.below hB_14
        have QS_14 := QS_13.below hB_14
        have hbM_14 := hbM_13.next hB_14
        have hbel_14 := hbel_13.next hB_14
        have hsz_14 := hB_14.size
        clear P_13 cP_13_0 cP_13_1 cP_13_2 Q_13 cQ_13_0 cQ_13_1 cQ_13_2 S_13 cS_13_0 cS_13_1 cS_13_2 QA_13 QB_13 Oz_13 Pz_13 QS_13 hbM_13 hbel_13 hB_14
        try clear hB
        go_wp2
        go_ret
        exact ⟨rfl, hbel_14⟩
      · skip
        have hN := hnear.out hz0
        have hsgr := sgnQ_range z
        rw [hsg0] at hsgr
        have hsb : (sg == (0 : Int)) = false := by rw [← hsg0]; have := sgn_cases z.num; show (sgn z.num == 0) = false; simp; omega
        rw [show sgn z.num = sg from hsg0] at hN
        clear hsg0 hz0
        have HN := hid (fun w (a b : Option Addr) (n c m d : Nat) (s : Bool) (h1 : RdZ 1 w s a n c sg) (h2 : RdN 3 w b m d z.den) => ((qnew (h1.mono (show 1 ≤ 4194304 by omega)) (h2.toI.mono (show 3 ≤ 4194304 by omega)) : Calls Try.prog 16 _ w _).mono fun e w' h => retqe_ok h (zE_pos (by have := z.den_nz; omega))))
        rw [Rat.divInt_ofNat] at HN
        have qt : QS (mkRat sg z.den) 3 := QS.mk z.den_nz ((sz_one (by omega) : Sz 1 3).mono (by omega) (Nat.le_refl _)) hqs.out.2
        generalize hst0 : mkRat sg z.den = st at *
        clear hst0
        have qr : QS (z - st) 8 := (hqs.out.sub qt).mono (by omega)
        generalize hnr0 : z - st = nr at *
        have hnr := hid hnr0
        clear hnr0
        have hqt := hid qt
        have hqr := hid qr
        clear qt qr
        have ssg := hid (show Sz sg.natAbs 1 by show _ < 4294967296 ^ 1; omega)
        obtain ⟨c4, hc40⟩ : ∃ c, cmpQ nr lo = c := ⟨_, rfl⟩
        obtain ⟨c5, hc50⟩ : ∃ c, cmpQ nr hi = c := ⟨_, rfl⟩
        rw [hc40, hc50] at hN
        have hc4 := hid hc40
        have hc5 := hid hc50
        clear hc40 hc50 hnear hden
        go_wp2_with fail
        refine (qsign QS_13 (by omega)).mono ?_
        rw [hsg.out]
        rintro e w14 ⟨rfl, hB⟩
        have hB_14 : Below wc13.heap.size wc13 w14 := (by first | exact hB | exact below_drew hB | exact bel_alloc hB | exact below_drew (bel_alloc hB) | exact bel_alloc (below_drew hB) | exact bel_alloc (bel_alloc hB) | exact bel_alloc (bel_alloc (below_drew hB)))
        have P_14 := P_13.next hB_14
        have cP_14_0 : _ = some (Value.bool sl) := P_14.cell 0
        have cP_14_1 : _ = some (Value.slice al nl cl) := P_14.cell 1
        have cP_14_2 : _ = some (Value.slice bl ml dl) := P_14.cell 2
        have Q_14 := Q_13.next hB_14
        have cQ_14_0 : _ = some (Value.bool sh) := Q_14.cell 0
        have cQ_14_1 : _ = some (Value.slice ah nh ch) := Q_14.cell 1
        have cQ_14_2 : _ = some (Value.slice bh mh dh) := Q_14.cell 2
        have S_14 := S_13.next hB_14
        have cS_14_0 : _ = some (Value.bool (decide (z.num < 0))) := S_14.cell 0
        have cS_14_1 : _ = some (Value.slice za zn zc) := S_14.cell 1
        have cS_14_2 : _ = some (Value.slice zb zm zd) := S_14.cell 2
        have QA_14 := QA_13.below hB_14
        have QB_14 := QB_13.below hB_14
        have Oz_14 := Oz_13.below hB_14
        have Pz_14 := Pz_13.below hB_14
        have QS_14 := QS_13.below hB_14
        have hbM_14 := hbM_13.next hB_14
        have hbel_14 := hbel_13.next hB_14
        have hsz_14 := hB_14.size
        clear P_13 cP_13_0 cP_13_1 cP_13_2 Q_13 cQ_13_0 cQ_13_1 cQ_13_2 S_13 cS_13_0 cS_13_1 cS_13_2 QA_13 QB_13 Oz_13 Pz_13 QS_13 hbM_13 hbel_13 hB_14
        try clear hB
        have ND_14 := Pz_14.rdN hqs.out.2
        go_wp2_with fail
        go_cut [16, 17] (fun s16 s17 wx => BoxQ w14 (st) s16 wx ∧ s17 = .int .i64 0)
        case first =>
          have acc_14 : Below w14.heap.size w14 w14 := Below.refl _ _
          go_wp2_with fail
          go_region_held3 (fun w' => w'.cell? ⟨w2.heap.size, 0, none⟩ = some (Value.bool sl) ∧ w'.cell? ⟨w2.heap.size, 1, none⟩ = some (Value.slice al nl cl) ∧ w'.cell? ⟨w2.heap.size, 2, none⟩ = some (Value.slice bl ml dl) ∧ w'.cell? ⟨w4.heap.size, 0, none⟩ = some (Value.bool sh) ∧ w'.cell? ⟨w4.heap.size, 1, none⟩ = some (Value.slice ah nh ch) ∧ w'.cell? ⟨w4.heap.size, 2, none⟩ = some (Value.slice bh mh dh) ∧ w'.cell? ⟨w8.heap.size, 0, none⟩ = some (Value.bool (decide (z.num < 0))) ∧ w'.cell? ⟨w8.heap.size, 1, none⟩ = some (Value.slice za zn zc) ∧ w'.cell? ⟨w8.heap.size, 2, none⟩ = some (Value.slice zb zm zd))
            (first | exact ⟨cP_14_0, cP_14_1, cP_14_2, cQ_14_0, cQ_14_1, cQ_14_2, cS_14_0, cS_14_1, cS_14_2⟩ | exact ⟨cP_15_0, cP_15_1, cP_15_2, cQ_15_0, cQ_15_1, cQ_15_2, cS_15_0, cS_15_1, cS_15_2⟩ | exact ⟨cP_16_0, cP_16_1, cP_16_2, cQ_16_0, cQ_16_1, cQ_16_2, cS_16_0, cS_16_1, cS_16_2⟩ | exact ⟨cP_17_0, cP_17_1, cP_17_2, cQ_17_0, cQ_17_1, cQ_17_2, cS_17_0, cS_17_1, cS_17_2⟩ | exact ⟨(cell_set3 (by omega) _ _ _).trans (cP_17_0), (cell_set3 (by omega) _ _ _).trans (cP_17_1), (cell_set3 (by omega) _ _ _).trans (cP_17_2), (cell_set3 (by omega) _ _ _).trans (cQ_17_0), (cell_set3 (by omega) _ _ _).trans (cQ_17_1), (cell_set3 (by omega) _ _ _).trans (cQ_17_2), (cell_set3 (by omega) _ _ _).trans (cS_17_0), (cell_set3 (by omega) _ _ _).trans (cS_17_1), (cell_set3 (by omega) _ _ _).trans (cS_17_2)⟩ | exact ⟨(P_14.alloc _).cell 0, (P_14.alloc _).cell 1, (P_14.alloc _).cell 2, (Q_14.alloc _).cell 0, (Q_14.alloc _).cell 1, (Q_14.alloc _).cell 2, (S_14.alloc _).cell 0, (S_14.alloc _).cell 1, (S_14.alloc _).cell 2⟩ | exact ⟨(P_15.alloc _).cell 0, (P_15.alloc _).cell 1, (P_15.alloc _).cell 2, (Q_15.alloc _).cell 0, (Q_15.alloc _).cell 1, (Q_15.alloc _).cell 2, (S_15.alloc _).cell 0, (S_15.alloc _).cell 1, (S_15.alloc _).cell 2⟩ | exact ⟨(P_16.alloc _).cell 0, (P_16.alloc _).cell 1, (P_16.alloc _).cell 2, (Q_16.alloc _).cell 0, (Q_16.alloc _).cell 1, (Q_16.alloc _).cell 2, (S_16.alloc _).cell 0, (S_16.alloc _).cell 1, (S_16.alloc _).cell 2⟩ | exact ⟨(P_17.alloc _).cell 0, (P_17.alloc _).cell 1, (P_17.alloc _).cell 2, (Q_17.alloc _).cell 0, (Q_17.alloc _).cell 1, (Q_17.alloc _).cell 2, (S_17.alloc _).cell 0, (S_17.alloc _).cell 1, (S_17.alloc _).cell 2⟩ | go_keep)
            (first
              | (go_at_call 45; ((with_reducible refine (qsign (QS_14.below (by first | exact Below.refl _ _ | exact (Below.refl _ _).drew | exact (Below.refl _ _).alloc (Nat.le_refl _) _ | exact ((Below.refl _ _).alloc (Nat.le_refl _) _).drew | exact (Below.refl _ _).drew.alloc (Nat.le_refl _) _ | exact ((Below.refl _ _).alloc (Nat.le_refl _) _).alloc (by simp) _ | exact (((Below.refl _ _).alloc (Nat.le_refl _) _).alloc (by simp) _).drew)) (by omega)).mono ?_); (rw [hsg.out]; rintro e w15 ⟨rfl, hB⟩; have hB_15 : Below w14.heap.size w14 w15 := (by first | exact hB | exact below_drew hB | exact bel_alloc hB | exact below_drew (bel_alloc hB) | exact bel_alloc (below_drew hB) | exact bel_alloc (bel_alloc hB) | exact bel_alloc (bel_alloc (below_drew hB))); have P_15 := P_14.next hB_15; have cP_15_0 : _ = some (Value.bool sl) := P_15.cell 0; have cP_15_1 : _ = some (Value.slice al nl cl) := P_15.cell 1; have cP_15_2 : _ = some (Value.slice bl ml dl) := P_15.cell 2; have Q_15 := Q_14.next hB_15; have cQ_15_0 : _ = some (Value.bool sh) := Q_15.cell 0; have cQ_15_1 : _ = some (Value.slice ah nh ch) := Q_15.cell 1; have cQ_15_2 : _ = some (Value.slice bh mh dh) := Q_15.cell 2; have S_15 := S_14.next hB_15; have cS_15_0 : _ = some (Value.bool (decide (z.num < 0))) := S_15.cell 0; have cS_15_1 : _ = some (Value.slice za zn zc) := S_15.cell 1; have cS_15_2 : _ = some (Value.slice zb zm zd) := S_15.cell 2; have QA_15 := QA_14.below hB_15; have QB_15 := QB_14.below hB_15; have Oz_15 := Oz_14.below hB_15; have Pz_15 := Pz_14.below hB_15; have QS_15 := QS_14.below hB_15; have hbM_15 := hbM_14.next hB_15; have ND_15 := ND_14.below hB_15; have hbel_15 := hbel_14.next hB_15; have hsz_15 := hB_15.size; clear P_14 cP_14_0 cP_14_1 cP_14_2 Q_14 cQ_14_0 cQ_14_1 cQ_14_2 S_14 cS_14_0 cS_14_1 cS_14_2 QA_14 QB_14 Oz_14 Pz_14 QS_14 hbM_14 ND_14 hbel_14 hB_15; have acc_15 := acc_14.next (show Below _ _ _ from (by first | exact hB | exact below_drew hB | exact bel_alloc hB | exact below_drew (bel_alloc hB) | exact bel_alloc (below_drew hB) | exact bel_alloc (bel_alloc hB) | exact bel_alloc (bel_alloc (below_drew hB)))); (first | (have A := A.next (show Below _ _ _ from (by first | exact hB | exact below_drew hB | exact bel_alloc hB | exact below_drew (bel_alloc hB) | exact bel_alloc (below_drew hB) | exact bel_alloc (bel_alloc hB) | exact bel_alloc (bel_alloc (below_drew hB)))); have ltA := A.lt; have cA0 : _ = some (Value.bool false) := A.cell 0; have fA0 := A.free 0; have cA1 : _ = some (Value.slice none 0 0) := A.cell 1; have fA1 := A.free 1; have cA2 : _ = some (Value.slice none 0 0) := A.cell 2; have fA2 := A.free 2) | (have A := (blk_new' _ #[Value.bool false, Value.slice none 0 0, Value.slice none 0 0] 32 (g := w14.heap.size) rfl).next (by first | exact hB | exact below_drew hB); have ltA := A.lt; have cA0 : _ = some (Value.bool false) := A.cell 0; have fA0 := A.free 0; have cA1 : _ = some (Value.slice none 0 0) := A.cell 1; have fA1 := A.free 1; have cA2 : _ = some (Value.slice none 0 0) := A.cell 2; have fA2 := A.free 2) | skip); try clear hB)))
              | (go_at_call 36; ((with_reducible refine (zofi_any sg (by omega) (by omega)).mono ?_); (rintro e w16 ⟨ia, ni, ci, rfl, hO, hB⟩; have hB_16 : Below w15.heap.size w15 w16 := (by first | exact hB | exact below_drew hB | exact bel_alloc hB | exact below_drew (bel_alloc hB) | exact bel_alloc (below_drew hB) | exact bel_alloc (bel_alloc hB) | exact bel_alloc (bel_alloc (below_drew hB))); have P_16 := P_15.next hB_16; have cP_16_0 : _ = some (Value.bool sl) := P_16.cell 0; have cP_16_1 : _ = some (Value.slice al nl cl) := P_16.cell 1; have cP_16_2 : _ = some (Value.slice bl ml dl) := P_16.cell 2; have Q_16 := Q_15.next hB_16; have cQ_16_0 : _ = some (Value.bool sh) := Q_16.cell 0; have cQ_16_1 : _ = some (Value.slice ah nh ch) := Q_16.cell 1; have cQ_16_2 : _ = some (Value.slice bh mh dh) := Q_16.cell 2; have S_16 := S_15.next hB_16; have cS_16_0 : _ = some (Value.bool (decide (z.num < 0))) := S_16.cell 0; have cS_16_1 : _ = some (Value.slice za zn zc) := S_16.cell 1; have cS_16_2 : _ = some (Value.slice zb zm zd) := S_16.cell 2; have QA_16 := QA_15.below hB_16; have QB_16 := QB_15.below hB_16; have Oz_16 := Oz_15.below hB_16; have Pz_16 := Pz_15.below hB_16; have QS_16 := QS_15.below hB_16; have hbM_16 := hbM_15.next hB_16; have ND_16 := ND_15.below hB_16; have hbel_16 := hbel_15.next hB_16; have hsz_16 := hB_16.size; clear P_15 cP_15_0 cP_15_1 cP_15_2 Q_15 cQ_15_0 cQ_15_1 cQ_15_2 S_15 cS_15_0 cS_15_1 cS_15_2 QA_15 QB_15 Oz_15 Pz_15 QS_15 hbM_15 ND_15 hbel_15 hB_16; have acc_16 := acc_15.next (show Below _ _ _ from (by first | exact hB | exact below_drew hB | exact bel_alloc hB | exact below_drew (bel_alloc hB) | exact bel_alloc (below_drew hB) | exact bel_alloc (bel_alloc hB) | exact bel_alloc (bel_alloc (below_drew hB)))); (first | (have A := A.next (show Below _ _ _ from (by first | exact hB | exact below_drew hB | exact bel_alloc hB | exact below_drew (bel_alloc hB) | exact bel_alloc (below_drew hB) | exact bel_alloc (bel_alloc hB) | exact bel_alloc (bel_alloc (below_drew hB)))); have ltA := A.lt; have cA0 : _ = some (Value.bool false) := A.cell 0; have fA0 := A.free 0; have cA1 : _ = some (Value.slice none 0 0) := A.cell 1; have fA1 := A.free 1; have cA2 : _ = some (Value.slice none 0 0) := A.cell 2; have fA2 := A.free 2) | (have A := (blk_new' _ #[Value.bool false, Value.slice none 0 0, Value.slice none 0 0] 32 (g := w15.heap.size) rfl).next (by first | exact hB | exact below_drew hB); have ltA := A.lt; have cA0 : _ = some (Value.bool false) := A.cell 0; have fA0 := A.free 0; have cA1 : _ = some (Value.slice none 0 0) := A.cell 1; have fA1 := A.free 1; have cA2 : _ = some (Value.slice none 0 0) := A.cell 2; have fA2 := A.free 2) | skip); have ZS_16 := hO.rdZ ssg.out; clear hO; try clear hB)))
              | (go_at_call 16; ((with_reducible refine (HN.out _ _ _ _ _ _ _ _ (ZS_16.below (by first | exact Below.refl _ _ | exact (Below.refl _ _).drew | exact (Below.refl _ _).alloc (Nat.le_refl _) _ | exact ((Below.refl _ _).alloc (Nat.le_refl _) _).drew | exact (Below.refl _ _).drew.alloc (Nat.le_refl _) _ | exact ((Below.refl _ _).alloc (Nat.le_refl _) _).alloc (by simp) _ | exact (((Below.refl _ _).alloc (Nat.le_refl _) _).alloc (by simp) _).drew)) (ND_16.below (by first | exact Below.refl _ _ | exact (Below.refl _ _).drew | exact (Below.refl _ _).alloc (Nat.le_refl _) _ | exact ((Below.refl _ _).alloc (Nat.le_refl _) _).drew | exact (Below.refl _ _).drew.alloc (Nat.le_refl _) _ | exact ((Below.refl _ _).alloc (Nat.le_refl _) _).alloc (by simp) _ | exact (((Below.refl _ _).alloc (Nat.le_refl _) _).alloc (by simp) _).drew))).mono ?_); (rintro e w17 ⟨qa, qn, qc, qb, qm, qd, rfl, hO, hO', hDq, hB⟩; have hB_17 : Below w16.heap.size w16 w17 := (by first | exact hB | exact below_drew hB | exact bel_alloc hB | exact below_drew (bel_alloc hB) | exact bel_alloc (below_drew hB) | exact bel_alloc (bel_alloc hB) | exact bel_alloc (bel_alloc (below_drew hB))); have P_17 := P_16.next hB_17; have cP_17_0 : _ = some (Value.bool sl) := P_17.cell 0; have cP_17_1 : _ = some (Value.slice al nl cl) := P_17.cell 1; have cP_17_2 : _ = some (Value.slice bl ml dl) := P_17.cell 2; have Q_17 := Q_16.next hB_17; have cQ_17_0 : _ = some (Value.bool sh) := Q_17.cell 0; have cQ_17_1 : _ = some (Value.slice ah nh ch) := Q_17.cell 1; have cQ_17_2 : _ = some (Value.slice bh mh dh) := Q_17.cell 2; have S_17 := S_16.next hB_17; have cS_17_0 : _ = some (Value.bool (decide (z.num < 0))) := S_17.cell 0; have cS_17_1 : _ = some (Value.slice za zn zc) := S_17.cell 1; have cS_17_2 : _ = some (Value.slice zb zm zd) := S_17.cell 2; have QA_17 := QA_16.below hB_17; have QB_17 := QB_16.below hB_17; have Oz_17 := Oz_16.below hB_17; have Pz_17 := Pz_16.below hB_17; have QS_17 := QS_16.below hB_17; have hbM_17 := hbM_16.next hB_17; have ND_17 := ND_16.below hB_17; have ZS_17 := ZS_16.below hB_17; have hbel_17 := hbel_16.next hB_17; have hsz_17 := hB_17.size; clear P_16 cP_16_0 cP_16_1 cP_16_2 Q_16 cQ_16_0 cQ_16_1 cQ_16_2 S_16 cS_16_0 cS_16_1 cS_16_2 QA_16 QB_16 Oz_16 Pz_16 QS_16 hbM_16 ND_16 ZS_16 hbel_16 hB_17; have acc_17 := acc_16.next (show Below _ _ _ from (by first | exact hB | exact below_drew hB | exact bel_alloc hB | exact below_drew (bel_alloc hB) | exact bel_alloc (below_drew hB) | exact bel_alloc (bel_alloc hB) | exact bel_alloc (bel_alloc (below_drew hB)))); (first | (have A := A.next (show Below _ _ _ from (by first | exact hB | exact below_drew hB | exact bel_alloc hB | exact below_drew (bel_alloc hB) | exact bel_alloc (below_drew hB) | exact bel_alloc (bel_alloc hB) | exact bel_alloc (bel_alloc (below_drew hB)))); have ltA := A.lt; have cA0 : _ = some (Value.bool false) := A.cell 0; have fA0 := A.free 0; have cA1 : _ = some (Value.slice none 0 0) := A.cell 1; have fA1 := A.free 1; have cA2 : _ = some (Value.slice none 0 0) := A.cell 2; have fA2 := A.free 2) | (have A := (blk_new' _ #[Value.bool false, Value.slice none 0 0, Value.slice none 0 0] 32 (g := w16.heap.size) rfl).next (by first | exact hB | exact below_drew hB); have ltA := A.lt; have cA0 : _ = some (Value.bool false) := A.cell 0; have fA0 := A.free 0; have cA1 : _ = some (Value.slice none 0 0) := A.cell 1; have fA1 := A.free 1; have cA2 : _ = some (Value.slice none 0 0) := A.cell 2; have fA2 := A.free 2) | skip); try clear hB))))
          all_goals (go_wp2_with fail; go_meet; first | exact ⟨boxQ_new hO hO' (by first | omega | (simp; omega) | simp) acc_17, rfl⟩ | exact ⟨boxQ_set A hO hO' (by first | omega | (simp; omega) | simp) (by first | omega | (simp; omega) | simp) acc_17, rfl⟩)
        case rest =>
          obtain ⟨hcut, rfl⟩ := hcut
          obtain ⟨gW, Wa, Wn, Wc, Wb, Wm, Wd, rfl, hbk, hgeW, hO, hO', awW, awW', hBc⟩ := hcut
          have hB_15 : Below w14.heap.size w14 wc := hBc
          have P_15 := P_14.next hB_15
          have cP_15_0 : _ = some (Value.bool sl) := P_15.cell 0
          have cP_15_1 : _ = some (Value.slice al nl cl) := P_15.cell 1
          have cP_15_2 : _ = some (Value.slice bl ml dl) := P_15.cell 2
          have Q_15 := Q_14.next hB_15
          have cQ_15_0 : _ = some (Value.bool sh) := Q_15.cell 0
          have cQ_15_1 : _ = some (Value.slice ah nh ch) := Q_15.cell 1
          have cQ_15_2 : _ = some (Value.slice bh mh dh) := Q_15.cell 2
          have S_15 := S_14.next hB_15
          have cS_15_0 : _ = some (Value.bool (decide (z.num < 0))) := S_15.cell 0
          have cS_15_1 : _ = some (Value.slice za zn zc) := S_15.cell 1
          have cS_15_2 : _ = some (Value.slice zb zm zd) := S_15.cell 2
          have QA_15 := QA_14.below hB_15
          have QB_15 := QB_14.below hB_15
          have Oz_15 := Oz_14.below hB_15
          have Pz_15 := Pz_14.below hB_15
          have QS_15 := QS_14.below hB_15
          have hbM_15 := hbM_14.next hB_15
          have ND_15 := ND_14.below hB_15
          have hbel_15 := hbel_14.next hB_15
          have hsz_15 := hB_15.size
          clear P_14 cP_14_0 cP_14_1 cP_14_2 Q_14 cQ_14_0 cQ_14_1 cQ_14_2 S_14 cS_14_0 cS_14_1 cS_14_2 QA_14 QB_14 Oz_14 Pz_14 QS_14 hbM_14 ND_14 hbel_14 hB_15
          clear hBc
          obtain ⟨wc15, hwc⟩ : ∃ x : World, x = wc := ⟨_, rfl⟩
          subst hwc
          have W_15 := hbk
          have hltW := hbk.lt
          clear hbk
          have cW_15_0 : _ = some (Value.bool (decide ((st).num < 0))) := W_15.cell 0
          have cW_15_1 : _ = some (Value.slice Wa Wn Wc) := W_15.cell 1
          have cW_15_2 : _ = some (Value.slice Wb Wm Wd) := W_15.cell 2
          have OW_15 := hO
          have ltOW := hO.ltB
          clear hO
          have OW'_15 := hO'
          have ltOW' := hO'.ltB
          clear hO'
          have QT_15 := OW_15.rdQ OW'_15 hqt.out
          go_wp2_with fail
          refine (qsub QS_15 (by omega) QT_15 (by omega)).mono ?_
          rw [hnr.out]
          rintro e w16 ⟨ra, rn, rc, rb, rm, rd, rfl, hO, hO', hDr, hB⟩
          have hB_16 : Below wc15.heap.size wc15 w16 := (by first | exact hB | exact below_drew hB | exact bel_alloc hB | exact below_drew (bel_alloc hB) | exact bel_alloc (below_drew hB) | exact bel_alloc (bel_alloc hB) | exact bel_alloc (bel_alloc (below_drew hB)))
          have P_16 := P_15.next hB_16
          have cP_16_0 : _ = some (Value.bool sl) := P_16.cell 0
          have cP_16_1 : _ = some (Value.slice al nl cl) := P_16.cell 1
          have cP_16_2 : _ = some (Value.slice bl ml dl) := P_16.cell 2
          have Q_16 := Q_15.next hB_16
          have cQ_16_0 : _ = some (Value.bool sh) := Q_16.cell 0
          have cQ_16_1 : _ = some (Value.slice ah nh ch) := Q_16.cell 1
          have cQ_16_2 : _ = some (Value.slice bh mh dh) := Q_16.cell 2
          have S_16 := S_15.next hB_16
          have cS_16_0 : _ = some (Value.bool (decide (z.num < 0))) := S_16.cell 0
          have cS_16_1 : _ = some (Value.slice za zn zc) := S_16.cell 1
          have cS_16_2 : _ = some (Value.slice zb zm zd) := S_16.cell 2
          have W_16 := W_15.next hB_16
          have cW_16_0 : _ = some (Value.bool (decide ((st).num < 0))) := W_16.cell 0
          have cW_16_1 : _ = some (Value.slice Wa Wn Wc) := W_16.cell 1
          have cW_16_2 : _ = some (Value.slice Wb Wm Wd) := W_16.cell 2
          have QA_16 := QA_15.below hB_16
          have QB_16 := QB_15.below hB_16
          have Oz_16 := Oz_15.below hB_16
          have Pz_16 := Pz_15.below hB_16
          have QS_16 := QS_15.below hB_16
          have hbM_16 := hbM_15.next hB_16
          have ND_16 := ND_15.below hB_16
          have OW_16 := OW_15.below hB_16
          have OW'_16 := OW'_15.below hB_16
          have QT_16 := QT_15.below hB_16
          have hbel_16 := hbel_15.next hB_16
          have hsz_16 := hB_16.size
          clear P_15 cP_15_0 cP_15_1 cP_15_2 Q_15 cQ_15_0 cQ_15_1 cQ_15_2 S_15 cS_15_0 cS_15_1 cS_15_2 W_15 cW_15_0 cW_15_1 cW_15_2 QA_15 QB_15 Oz_15 Pz_15 QS_15 hbM_15 ND_15 OW_15 OW'_15 QT_15 hbel_15 hB_16
          have Or_16 := hO
          have ltOr := hO.ltB
          have Pr_16 := hO'
          have ltPr := hO'.ltB
          clear hO hO'
          try clear hB
          have hbx := blk_new w16 #[Value.bool (decide (nr.num < 0)), Value.slice ra rn rc, Value.slice rb rm rd] 32
          have hbB := (Below.refl w16.heap.size w16).alloc (Nat.le_refl _) (.cells #[Value.bool (decide (nr.num < 0)), Value.slice ra rn rc, Value.slice rb rm rd] 32)
          have hltR := hbx.lt
          have hB_17 : Below w16.heap.size w16 (w16.alloc (.cells #[Value.bool (decide (nr.num < 0)), Value.slice ra rn rc, Value.slice rb rm rd] 32)) := hbB
          have P_17 := P_16.next hB_17
          have cP_17_0 : _ = some (Value.bool sl) := P_17.cell 0
          have cP_17_1 : _ = some (Value.slice al nl cl) := P_17.cell 1
          have cP_17_2 : _ = some (Value.slice bl ml dl) := P_17.cell 2
          have Q_17 := Q_16.next hB_17
          have cQ_17_0 : _ = some (Value.bool sh) := Q_17.cell 0
          have cQ_17_1 : _ = some (Value.slice ah nh ch) := Q_17.cell 1
          have cQ_17_2 : _ = some (Value.slice bh mh dh) := Q_17.cell 2
          have S_17 := S_16.next hB_17
          have cS_17_0 : _ = some (Value.bool (decide (z.num < 0))) := S_17.cell 0
          have cS_17_1 : _ = some (Value.slice za zn zc) := S_17.cell 1
          have cS_17_2 : _ = some (Value.slice zb zm zd) := S_17.cell 2
          have W_17 := W_16.next hB_17
          have cW_17_0 : _ = some (Value.bool (decide ((st).num < 0))) := W_17.cell 0
          have cW_17_1 : _ = some (Value.slice Wa Wn Wc) := W_17.cell 1
          have cW_17_2 : _ = some (Value.slice Wb Wm Wd) := W_17.cell 2
          have QA_17 := QA_16.below hB_17
          have QB_17 := QB_16.below hB_17
          have Oz_17 := Oz_16.below hB_17
          have Pz_17 := Pz_16.below hB_17
          have QS_17 := QS_16.below hB_17
          have hbM_17 := hbM_16.next hB_17
          have ND_17 := ND_16.below hB_17
          have OW_17 := OW_16.below hB_17
          have OW'_17 := OW'_16.below hB_17
          have QT_17 := QT_16.below hB_17
          have Or_17 := Or_16.below hB_17
          have Pr_17 := Pr_16.below hB_17
          have hbel_17 := hbel_16.next hB_17
          have hsz_17 := hB_17.size
          clear hB_17
          have R_17 := hbx
          clear hbx hbB
          have cR_17_0 : _ = some (Value.bool (decide (nr.num < 0))) := R_17.cell 0
          have cR_17_1 : _ = some (Value.slice ra rn rc) := R_17.cell 1
          have cR_17_2 : _ = some (Value.slice rb rm rd) := R_17.cell 2
          go_wp2_with fail
          clear P_16 cP_16_0 cP_16_1 cP_16_2 Q_16 cQ_16_0 cQ_16_1 cQ_16_2 S_16 cS_16_0 cS_16_1 cS_16_2 W_16 cW_16_0 cW_16_1 cW_16_2 QA_16 QB_16 Oz_16 Pz_16 QS_16 hbM_16 ND_16 OW_16 OW'_16 QT_16 Or_16 Pr_16 hbel_16
          generalize (w16.alloc (.cells #[Value.bool (decide (nr.num < 0)), Value.slice ra rn rc, Value.slice rb rm rd] 32)) = v17 at *
          have QR_17 := Or_17.rdQ Pr_17 hqr.out
          by_cases h4 : c4 < 0
          · skip
            clear hN
            go_wp2_with fail
            refine (qcmp QR_17 (by omega) QA_17 (by omega)).mono ?_
            rw [hc4.out]
            rintro e w18 ⟨rfl, hB⟩
            have hB_18 : Below v17.heap.size v17 w18 := (by first | exact hB | exact below_drew hB | exact bel_alloc hB | exact below_drew (bel_alloc hB) | exact bel_alloc (below_drew hB) | exact bel_alloc (bel_alloc hB) | exact bel_alloc (bel_alloc (below_drew hB)))
            have P_18 := P_17.next hB_18
            have cP_18_0 : _ = some (Value.bool sl) := P_18.cell 0
            have cP_18_1 : _ = some (Value.slice al nl cl) := P_18.cell 1
            have cP_18_2 : _ = some (Value.slice bl ml dl) := P_18.cell 2
            have Q_18 := Q_17.next hB_18
            have cQ_18_0 : _ = some (Value.bool sh) := Q_18.cell 0
            have cQ_18_1 : _ = some (Value.slice ah nh ch) := Q_18.cell 1
            have cQ_18_2 : _ = some (Value.slice bh mh dh) := Q_18.cell 2
            have S_18 := S_17.next hB_18
            have cS_18_0 : _ = some (Value.bool (decide (z.num < 0))) := S_18.cell 0
            have cS_18_1 : _ = some (Value.slice za zn zc) := S_18.cell 1
            have cS_18_2 : _ = some (Value.slice zb zm zd) := S_18.cell 2
            have W_18 := W_17.next hB_18
            have cW_18_0 : _ = some (Value.bool (decide ((st).num < 0))) := W_18.cell 0
            have cW_18_1 : _ = some (Value.slice Wa Wn Wc) := W_18.cell 1
            have cW_18_2 : _ = some (Value.slice Wb Wm Wd) := W_18.cell 2
            have R_18 := R_17.next hB_18
            have cR_18_0 : _ = some (Value.bool (decide (nr.num < 0))) := R_18.cell 0
            have cR_18_1 : _ = some (Value.slice ra rn rc) := R_18.cell 1
            have cR_18_2 : _ = some (Value.slice rb rm rd) := R_18.cell 2
            have QA_18 := QA_17.below hB_18
            have QB_18 := QB_17.below hB_18
            have Oz_18 := Oz_17.below hB_18
            have Pz_18 := Pz_17.below hB_18
            have QS_18 := QS_17.below hB_18
            have hbM_18 := hbM_17.next hB_18
            have ND_18 := ND_17.below hB_18
            have OW_18 := OW_17.below hB_18
            have OW'_18 := OW'_17.below hB_18
            have QT_18 := QT_17.below hB_18
            have Or_18 := Or_17.below hB_18
            have Pr_18 := Pr_17.below hB_18
            have QR_18 := QR_17.below hB_18
            have hbel_18 := hbel_17.next hB_18
            have hsz_18 := hB_18.size
            clear P_17 cP_17_0 cP_17_1 cP_17_2 Q_17 cQ_17_0 cQ_17_1 cQ_17_2 S_17 cS_17_0 cS_17_1 cS_17_2 W_17 cW_17_0 cW_17_1 cW_17_2 R_17 cR_17_0 cR_17_1 cR_17_2 QA_17 QB_17 Oz_17 Pz_17 QS_17 hbM_17 ND_17 OW_17 OW'_17 QT_17 Or_17 Pr_17 QR_17 hbel_17 hB_18
            try clear hB
            go_wp2
            go_ret
            exact ⟨rfl, hbel_18⟩
          · skip
            have h5 : 0 < c5 := by rcases hN with h | h <;> omega
            have h4' : 0 ≤ c4 := by omega
            clear hN h4
            go_wp2_with fail
            refine (qcmp QR_17 (by omega) QA_17 (by omega)).mono ?_
            rw [hc4.out]
            rintro e w18 ⟨rfl, hB⟩
            have hB_18 : Below v17.heap.size v17 w18 := (by first | exact hB | exact below_drew hB | exact bel_alloc hB | exact below_drew (bel_alloc hB) | exact bel_alloc (below_drew hB) | exact bel_alloc (bel_alloc hB) | exact bel_alloc (bel_alloc (below_drew hB)))
            have P_18 := P_17.next hB_18
            have cP_18_0 : _ = some (Value.bool sl) := P_18.cell 0
            have cP_18_1 : _ = some (Value.slice al nl cl) := P_18.cell 1
            have cP_18_2 : _ = some (Value.slice bl ml dl) := P_18.cell 2
            have Q_18 := Q_17.next hB_18
            have cQ_18_0 : _ = some (Value.bool sh) := Q_18.cell 0
            have cQ_18_1 : _ = some (Value.slice ah nh ch) := Q_18.cell 1
            have cQ_18_2 : _ = some (Value.slice bh mh dh) := Q_18.cell 2
            have S_18 := S_17.next hB_18
            have cS_18_0 : _ = some (Value.bool (decide (z.num < 0))) := S_18.cell 0
            have cS_18_1 : _ = some (Value.slice za zn zc) := S_18.cell 1
            have cS_18_2 : _ = some (Value.slice zb zm zd) := S_18.cell 2
            have W_18 := W_17.next hB_18
            have cW_18_0 : _ = some (Value.bool (decide ((st).num < 0))) := W_18.cell 0
            have cW_18_1 : _ = some (Value.slice Wa Wn Wc) := W_18.cell 1
            have cW_18_2 : _ = some (Value.slice Wb Wm Wd) := W_18.cell 2
            have R_18 := R_17.next hB_18
            have cR_18_0 : _ = some (Value.bool (decide (nr.num < 0))) := R_18.cell 0
            have cR_18_1 : _ = some (Value.slice ra rn rc) := R_18.cell 1
            have cR_18_2 : _ = some (Value.slice rb rm rd) := R_18.cell 2
            have QA_18 := QA_17.below hB_18
            have QB_18 := QB_17.below hB_18
            have Oz_18 := Oz_17.below hB_18
            have Pz_18 := Pz_17.below hB_18
            have QS_18 := QS_17.below hB_18
            have hbM_18 := hbM_17.next hB_18
            have ND_18 := ND_17.below hB_18
            have OW_18 := OW_17.below hB_18
            have OW'_18 := OW'_17.below hB_18
            have QT_18 := QT_17.below hB_18
            have Or_18 := Or_17.below hB_18
            have Pr_18 := Pr_17.below hB_18
            have QR_18 := QR_17.below hB_18
            have hbel_18 := hbel_17.next hB_18
            have hsz_18 := hB_18.size
            clear P_17 cP_17_0 cP_17_1 cP_17_2 Q_17 cQ_17_0 cQ_17_1 cQ_17_2 S_17 cS_17_0 cS_17_1 cS_17_2 W_17 cW_17_0 cW_17_1 cW_17_2 R_17 cR_17_0 cR_17_1 cR_17_2 QA_17 QB_17 Oz_17 Pz_17 QS_17 hbM_17 ND_17 OW_17 OW'_17 QT_17 Or_17 Pr_17 QR_17 hbel_17 hB_18
            try clear hB
            go_wp2_with fail
            refine (qcmp QR_18 (by omega) QB_18 (by omega)).mono ?_
            rw [hc5.out]
            rintro e w19 ⟨rfl, hB⟩
            have hB_19 : Below w18.heap.size w18 w19 := (by first | exact hB | exact below_drew hB | exact bel_alloc hB | exact below_drew (bel_alloc hB) | exact bel_alloc (below_drew hB) | exact bel_alloc (bel_alloc hB) | exact bel_alloc (bel_alloc (below_drew hB)))
            have P_19 := P_18.next hB_19
            have cP_19_0 : _ = some (Value.bool sl) := P_19.cell 0
            have cP_19_1 : _ = some (Value.slice al nl cl) := P_19.cell 1
            have cP_19_2 : _ = some (Value.slice bl ml dl) := P_19.cell 2
            have Q_19 := Q_18.next hB_19
            have cQ_19_0 : _ = some (Value.bool sh) := Q_19.cell 0
            have cQ_19_1 : _ = some (Value.slice ah nh ch) := Q_19.cell 1
            have cQ_19_2 : _ = some (Value.slice bh mh dh) := Q_19.cell 2
            have S_19 := S_18.next hB_19
            have cS_19_0 : _ = some (Value.bool (decide (z.num < 0))) := S_19.cell 0
            have cS_19_1 : _ = some (Value.slice za zn zc) := S_19.cell 1
            have cS_19_2 : _ = some (Value.slice zb zm zd) := S_19.cell 2
            have W_19 := W_18.next hB_19
            have cW_19_0 : _ = some (Value.bool (decide ((st).num < 0))) := W_19.cell 0
            have cW_19_1 : _ = some (Value.slice Wa Wn Wc) := W_19.cell 1
            have cW_19_2 : _ = some (Value.slice Wb Wm Wd) := W_19.cell 2
            have R_19 := R_18.next hB_19
            have cR_19_0 : _ = some (Value.bool (decide (nr.num < 0))) := R_19.cell 0
            have cR_19_1 : _ = some (Value.slice ra rn rc) := R_19.cell 1
            have cR_19_2 : _ = some (Value.slice rb rm rd) := R_19.cell 2
            have QA_19 := QA_18.below hB_19
            have QB_19 := QB_18.below hB_19
            have Oz_19 := Oz_18.below hB_19
            have Pz_19 := Pz_18.below hB_19
            have QS_19 := QS_18.below hB_19
            have hbM_19 := hbM_18.next hB_19
            have ND_19 := ND_18.below hB_19
            have OW_19 := OW_18.below hB_19
            have OW'_19 := OW'_18.below hB_19
            have QT_19 := QT_18.below hB_19
            have Or_19 := Or_18.below hB_19
            have Pr_19 := Pr_18.below hB_19
            have QR_19 := QR_18.below hB_19
            have hbel_19 := hbel_18.next hB_19
            have hsz_19 := hB_19.size
            clear P_18 cP_18_0 cP_18_1 cP_18_2 Q_18 cQ_18_0 cQ_18_1 cQ_18_2 S_18 cS_18_0 cS_18_1 cS_18_2 W_18 cW_18_0 cW_18_1 cW_18_2 R_18 cR_18_0 cR_18_1 cR_18_2 QA_18 QB_18 Oz_18 Pz_18 QS_18 hbM_18 ND_18 OW_18 OW'_18 QT_18 Or_18 Pr_18 QR_18 hbel_18 hB_19
            try clear hB
            go_wp2
            go_ret
            exact ⟨rfl, hbel_19⟩

end Go.Proofs.Ytenmjgnhneofjaa
