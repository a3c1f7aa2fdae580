/- THE WALK OF credencelaw03.FracArith: of any two fractions all answers; what is handed in stays; new memory. -/
import Derived.Test.YtenmjgnhneofjaaGreatQn
import Derived.Test.YtenmjgnhneofjaaGreatQt
import Derived.Test.YtenmjgnhneofjaaGreatQu
import Derived.Test.YtenmjgnhneofjaaGreatQv
namespace Go.Proofs.YtenmjgnhneofjaaGreat
set_option linter.unusedVariables false
set_option linter.unusedSimpArgs false
open Go.ChangeShapes Go.WideShapes Go.ChangeAt Go.RowKit Go.NatP

/-- told, and not long -/
def Told2 (B : Nat) (w : World) (xs : List It) : Prop := Told B w xs ∧ ∀ x ∈ xs, x.n ≤ 268435456
theorem told2_nil (B : Nat) (w : World) : Told2 B w [] := ⟨told_nil B w, fun x h => by cases h⟩
theorem Told2.below {B : Nat} {w w' : World} {xs : List It} (h : Told2 B w xs) (hB : Below w.heap.size w w') : Told2 B w' xs := ⟨h.1.below hB, h.2⟩
theorem Told2.cons1 {B : Nat} {w w' : World} {xs : List It} {a : Option Addr} {n c : Nat} {l : List Nat} (h : Told2 B w xs) (hs : B ≤ w.heap.size) (hO : Own w.heap.size w' a n c l) (hB : Below w.heap.size w w') (h1 : l.length ≤ 1000) :
    Told2 B w' (⟨a, n, c, l⟩ :: xs) :=
  ⟨h.1.cons hs hO hB, fun x hx => by
    rcases List.mem_cons.1 hx with rfl | hx
    · have := hO.len; show n ≤ _; omega
    · exact h.2 x hx⟩
theorem Told2.cons2 {B : Nat} {w w' : World} {xs : List It} {a b : Option Addr} {n c m d : Nat} {l k : List Nat} (h : Told2 B w xs) (hs : B ≤ w.heap.size) (hO : Own w.heap.size w' a n c l) (hO' : Own w.heap.size w' b m d k) (hD : Diff a b) (hB : Below w.heap.size w w') (h1 : l.length ≤ 1000) (h2 : k.length ≤ 1000) :
    Told2 B w' (⟨b, m, d, k⟩ :: ⟨a, n, c, l⟩ :: xs) :=
  ⟨h.1.cons2 hs hO hO' hD hB, fun x hx => by
    rcases List.mem_cons.1 hx with rfl | hx
    · have := hO'.len; show m ≤ _; omega
    · rcases List.mem_cons.1 hx with rfl | hx
      · have := hO.len; show n ≤ _; omega
      · exact h.2 x hx⟩
theorem floor_sz {q : Rat} {k : Nat} (h : QS q k) : Sz q.floor.natAbs (k + 1) := by
  rw [Rat.floor_def]; exact sz_floor h.1
theorem odd_range {f : Nat → Value} (k : Nat) : (List.range (2 * (k + 1) + 1)).map f = (List.range (2 * k + 1)).map f ++ [f (2 * k + 1), f (2 * k + 2)] := by
  rw [show 2 * (k + 1) + 1 = 2 * k + 1 + 1 + 1 by omega, List.range_succ, List.range_succ]
  simp

set_option maxRecDepth 100000 in
set_option maxHeartbeats 16000000 in
theorem fracArith_walk {w : World} {a b a' b' : Option Addr} {n c m d n' c' m' d' : Nat} {la lb la' lb' : List Nat} (s : Bool) (ha : Rd w a n c la) (hb : Rd w b m d lb) (t : Bool) (ha' : Rd w a' n' c' la') (hb' : Rd w b' m' d' lb') :
    Calls Tryz.prog 4 #[.agg #[.bool s, .slice a n c, .slice b m d], .agg #[.bool t, .slice a' n' c', .slice b' m' d']] w (fun e w' => e = .returned (.bool true) ∧ Below w.heap.size w w') := by
  have HA := hid ha
  have HB := hid hb
  have HC := hid ha'
  have HD := hid hb'
  have hent := ent2 w #[Value.bool s, Value.slice a n c, Value.slice b m d] #[Value.bool t, Value.slice a' n' c', Value.slice b' m' d'] 27 27
  go_enter Tryz.func4, Tryz.ntmps4
  go_wp2_with fail
  generalize ((w.alloc (.cells #[Value.bool s, Value.slice a n c, Value.slice b m d] 27)).alloc (.cells #[Value.bool t, Value.slice a' n' c', Value.slice b' m' d'] 27)) = W0 at hent ⊢
  obtain ⟨X_0, Y_0, hbel_0, hsz_0⟩ := hent
  have cX_0_0 : _ = some (Value.bool s) := X_0.cell 0
  have fX_0_0 := X_0.free 0
  have cX_0_1 : _ = some (Value.slice a n c) := X_0.cell 1
  have fX_0_1 := X_0.free 1
  have cX_0_2 : _ = some (Value.slice b m d) := X_0.cell 2
  have fX_0_2 := X_0.free 2
  have cY_0_0 : _ = some (Value.bool t) := Y_0.cell 0
  have fY_0_0 := Y_0.free 0
  have cY_0_1 : _ = some (Value.slice a' n' c') := Y_0.cell 1
  have fY_0_1 := Y_0.free 1
  have cY_0_2 : _ = some (Value.slice b' m' d') := Y_0.cell 2
  have fY_0_2 := Y_0.free 2
  have ha_0 := ha.below hbel_0
  clear ha
  have hb_0 := hb.below hbel_0
  clear hb
  have ha'_0 := ha'.below hbel_0
  clear ha'
  have hb'_0 := hb'.below hbel_0
  clear hb'
  go_wp2_with fail
  refine (fawake).mono ?_
  rintro e w1 ⟨rfl, hB⟩
  have hB_1 : Below W0.heap.size W0 w1 := (by first | exact hB | exact below_drew hB | exact bel_alloc hB)
  have X_1 := X_0.next hB_1
  have cX_1_0 : _ = some (Value.bool s) := X_1.cell 0
  have fX_1_0 := X_1.free 0
  have cX_1_1 : _ = some (Value.slice a n c) := X_1.cell 1
  have fX_1_1 := X_1.free 1
  have cX_1_2 : _ = some (Value.slice b m d) := X_1.cell 2
  have fX_1_2 := X_1.free 2
  have Y_1 := Y_0.next hB_1
  have cY_1_0 : _ = some (Value.bool t) := Y_1.cell 0
  have fY_1_0 := Y_1.free 0
  have cY_1_1 : _ = some (Value.slice a' n' c') := Y_1.cell 1
  have fY_1_1 := Y_1.free 1
  have cY_1_2 : _ = some (Value.slice b' m' d') := Y_1.cell 2
  have fY_1_2 := Y_1.free 2
  have ha_1 := ha_0.below hB_1
  have hb_1 := hb_0.below hB_1
  have ha'_1 := ha'_0.below hB_1
  have hb'_1 := hb'_0.below hB_1
  have hbel_1 := hbel_0.next hB_1
  have hsz_1 := hB_1.size
  clear X_0 cX_0_0 fX_0_0 cX_0_1 fX_0_1 cX_0_2 fX_0_2 Y_0 cY_0_0 fY_0_0 cY_0_1 fY_0_1 cY_0_2 fY_0_2 ha_0 hb_0 ha'_0 hb'_0 hbel_0 hB_1
  try clear hB
  go_wp2_with fail
  refine (fcut 40 (by omega) ha_1 hb_1).mono ?_
  rintro e w2 ⟨n1, l1, m1, k1, rfl, hn1, hm1, hln1, hlm1, hR, hR', hB⟩
  have hB_2 : Below w1.heap.size w1 w2 := (by first | exact hB | exact below_drew hB | exact bel_alloc hB)
  have X_2 := X_1.next hB_2
  have cX_2_0 : _ = some (Value.bool s) := X_2.cell 0
  have fX_2_0 := X_2.free 0
  have cX_2_1 : _ = some (Value.slice a n c) := X_2.cell 1
  have fX_2_1 := X_2.free 1
  have cX_2_2 : _ = some (Value.slice b m d) := X_2.cell 2
  have fX_2_2 := X_2.free 2
  have Y_2 := Y_1.next hB_2
  have cY_2_0 : _ = some (Value.bool t) := Y_2.cell 0
  have fY_2_0 := Y_2.free 0
  have cY_2_1 : _ = some (Value.slice a' n' c') := Y_2.cell 1
  have fY_2_1 := Y_2.free 1
  have cY_2_2 : _ = some (Value.slice b' m' d') := Y_2.cell 2
  have fY_2_2 := Y_2.free 2
  have ha_2 := ha_1.below hB_2
  have hb_2 := hb_1.below hB_2
  have ha'_2 := ha'_1.below hB_2
  have hb'_2 := hb'_1.below hB_2
  have hbel_2 := hbel_1.next hB_2
  have hsz_2 := hB_2.size
  clear X_1 cX_1_0 fX_1_0 cX_1_1 fX_1_1 cX_1_2 fX_1_2 Y_1 cY_1_0 fY_1_0 cY_1_1 fY_1_1 cY_1_2 fY_1_2 ha_1 hb_1 ha'_1 hb'_1 hbel_1 hB_2
  have A_2 := hR
  have B_2 := hR'
  clear hR hR'
  try clear hB
  have hkp := kp_set3 w2 (w.heap.size) (Value.bool s) (Value.slice a n1 c) (Value.slice b m1 d)
  have X_3 := (show Blk _ _ #[Value.bool s, Value.slice a n1 c, Value.slice b m1 d] from (((X_2).setCell (i := 0) (v := Value.bool s) (by simp)).setCell (i := 1) (v := Value.slice a n1 c) (by simp)).setCell (i := 2) (v := Value.slice b m1 d) (by simp))
  have Y_3 := Y_2.set3 (show w.heap.size + 1 ≠ w.heap.size by omega) (Value.bool s) (Value.slice a n1 c) (Value.slice b m1 d)
  have A_3 := HA.out.kp_old hln1 A_2 hkp (fun b hb => by show ¬ (b = _); omega)
  have B_3 := HB.out.kp_old hlm1 B_2 hkp (fun b hb => by show ¬ (b = _); omega)
  have ha'_3 := HC.out.kp_old (Nat.le_refl _) ha'_2 hkp (fun b hb => by show ¬ (b = _); omega)
  have hb'_3 := HD.out.kp_old (Nat.le_refl _) hb'_2 hkp (fun b hb => by show ¬ (b = _); omega)
  have hbel_3 := Below.set3 hbel_2 (show w.heap.size ≤ w.heap.size by omega) (Value.bool s) (Value.slice a n1 c) (Value.slice b m1 d)
  have hsz_3 := hkp.size
  have cX_3_0 : _ = some (Value.bool s) := X_3.cell 0
  have fX_3_0 := X_3.free 0
  have cX_3_1 : _ = some (Value.slice a n1 c) := X_3.cell 1
  have fX_3_1 := X_3.free 1
  have cX_3_2 : _ = some (Value.slice b m1 d) := X_3.cell 2
  have fX_3_2 := X_3.free 2
  have cY_3_0 : _ = some (Value.bool t) := Y_3.cell 0
  have fY_3_0 := Y_3.free 0
  have cY_3_1 : _ = some (Value.slice a' n' c') := Y_3.cell 1
  have fY_3_1 := Y_3.free 1
  have cY_3_2 : _ = some (Value.slice b' m' d') := Y_3.cell 2
  have fY_3_2 := Y_3.free 2
  go_wp2_with fail
  clear X_2 Y_2 cX_2_0 fX_2_0 cX_2_1 fX_2_1 cX_2_2 fX_2_2 cY_2_0 fY_2_0 cY_2_1 fY_2_1 cY_2_2 fY_2_2 ha_2 hb_2 ha'_2 hb'_2 A_2 B_2 hbel_2 hkp
  generalize (((w2.setCell ⟨w.heap.size, 0, none⟩ (Value.bool s)).setCell ⟨w.heap.size, 1, none⟩ (Value.slice a n1 c)).setCell ⟨w.heap.size, 2, none⟩ (Value.slice b m1 d)) = v3 at *
  go_wp2_with fail
  refine (fcut 40 (by omega) ha'_3 hb'_3).mono ?_
  rintro e w4 ⟨n2, l2, m2, k2, rfl, hn2, hm2, hln2, hlm2, hR, hR', hB⟩
  have hB_4 : Below v3.heap.size v3 w4 := (by first | exact hB | exact below_drew hB | exact bel_alloc hB)
  have X_4 := X_3.next hB_4
  have cX_4_0 : _ = some (Value.bool s) := X_4.cell 0
  have fX_4_0 := X_4.free 0
  have cX_4_1 : _ = some (Value.slice a n1 c) := X_4.cell 1
  have fX_4_1 := X_4.free 1
  have cX_4_2 : _ = some (Value.slice b m1 d) := X_4.cell 2
  have fX_4_2 := X_4.free 2
  have Y_4 := Y_3.next hB_4
  have cY_4_0 : _ = some (Value.bool t) := Y_4.cell 0
  have fY_4_0 := Y_4.free 0
  have cY_4_1 : _ = some (Value.slice a' n' c') := Y_4.cell 1
  have fY_4_1 := Y_4.free 1
  have cY_4_2 : _ = some (Value.slice b' m' d') := Y_4.cell 2
  have fY_4_2 := Y_4.free 2
  have A_4 := A_3.below hB_4
  have B_4 := B_3.below hB_4
  have ha'_4 := ha'_3.below hB_4
  have hb'_4 := hb'_3.below hB_4
  have hbel_4 := hbel_3.next hB_4
  have hsz_4 := hB_4.size
  clear X_3 cX_3_0 fX_3_0 cX_3_1 fX_3_1 cX_3_2 fX_3_2 Y_3 cY_3_0 fY_3_0 cY_3_1 fY_3_1 cY_3_2 fY_3_2 A_3 B_3 ha'_3 hb'_3 hbel_3 hB_4
  have C_4 := hR
  have D_4 := hR'
  clear hR hR'
  try clear hB
  have hkp := kp_set3 w4 (w.heap.size + 1) (Value.bool t) (Value.slice a' n2 c') (Value.slice b' m2 d')
  have Y_5 := (show Blk _ _ #[Value.bool t, Value.slice a' n2 c', Value.slice b' m2 d'] from (((Y_4).setCell (i := 0) (v := Value.bool t) (by simp)).setCell (i := 1) (v := Value.slice a' n2 c') (by simp)).setCell (i := 2) (v := Value.slice b' m2 d') (by simp))
  have X_5 := X_4.set3 (show w.heap.size ≠ w.heap.size + 1 by omega) (Value.bool t) (Value.slice a' n2 c') (Value.slice b' m2 d')
  have A_5 := HA.out.kp_old hln1 A_4 hkp (fun b hb => by show ¬ (b = _); omega)
  have B_5 := HB.out.kp_old hlm1 B_4 hkp (fun b hb => by show ¬ (b = _); omega)
  have C_5 := HC.out.kp_old hln2 C_4 hkp (fun b hb => by show ¬ (b = _); omega)
  have D_5 := HD.out.kp_old hlm2 D_4 hkp (fun b hb => by show ¬ (b = _); omega)
  have hbel_5 := Below.set3 hbel_4 (show w.heap.size ≤ w.heap.size + 1 by omega) (Value.bool t) (Value.slice a' n2 c') (Value.slice b' m2 d')
  have hsz_5 := hkp.size
  have cX_5_0 : _ = some (Value.bool s) := X_5.cell 0
  have fX_5_0 := X_5.free 0
  have cX_5_1 : _ = some (Value.slice a n1 c) := X_5.cell 1
  have fX_5_1 := X_5.free 1
  have cX_5_2 : _ = some (Value.slice b m1 d) := X_5.cell 2
  have fX_5_2 := X_5.free 2
  have cY_5_0 : _ = some (Value.bool t) := Y_5.cell 0
  have fY_5_0 := Y_5.free 0
  have cY_5_1 : _ = some (Value.slice a' n2 c') := Y_5.cell 1
  have fY_5_1 := Y_5.free 1
  have cY_5_2 : _ = some (Value.slice b' m2 d') := Y_5.cell 2
  have fY_5_2 := Y_5.free 2
  go_wp2_with fail
  clear X_4 Y_4 cX_4_0 fX_4_0 cX_4_1 fX_4_1 cX_4_2 fX_4_2 cY_4_0 fY_4_0 cY_4_1 fY_4_1 cY_4_2 fY_4_2 A_4 B_4 ha'_4 hb'_4 C_4 D_4 hbel_4 hkp
  generalize (((w4.setCell ⟨w.heap.size + 1, 0, none⟩ (Value.bool t)).setCell ⟨w.heap.size + 1, 1, none⟩ (Value.slice a' n2 c')).setCell ⟨w.heap.size + 1, 2, none⟩ (Value.slice b' m2 d')) = v5 at *
  clear HA HB HC HD
  go_wp2_with fail
  refine (flend A_5 B_5 (by omega) (by omega)).mono ?_
  rintro e w6 ⟨pa, pc, pb, pd, rfl, hL, hL', hB⟩
  have hB_6 : Below v5.heap.size v5 w6 := (by first | exact hB | exact below_drew hB | exact bel_alloc hB)
  have X_6 := X_5.next hB_6
  have cX_6_0 : _ = some (Value.bool s) := X_6.cell 0
  have fX_6_0 := X_6.free 0
  have cX_6_1 : _ = some (Value.slice a n1 c) := X_6.cell 1
  have fX_6_1 := X_6.free 1
  have cX_6_2 : _ = some (Value.slice b m1 d) := X_6.cell 2
  have fX_6_2 := X_6.free 2
  have Y_6 := Y_5.next hB_6
  have cY_6_0 : _ = some (Value.bool t) := Y_6.cell 0
  have fY_6_0 := Y_6.free 0
  have cY_6_1 : _ = some (Value.slice a' n2 c') := Y_6.cell 1
  have fY_6_1 := Y_6.free 1
  have cY_6_2 : _ = some (Value.slice b' m2 d') := Y_6.cell 2
  have fY_6_2 := Y_6.free 2
  have A_6 := A_5.below hB_6
  have B_6 := B_5.below hB_6
  have C_6 := C_5.below hB_6
  have D_6 := D_5.below hB_6
  have hbel_6 := hbel_5.next hB_6
  have hsz_6 := hB_6.size
  clear X_5 cX_5_0 fX_5_0 cX_5_1 fX_5_1 cX_5_2 fX_5_2 Y_5 cY_5_0 fY_5_0 cY_5_1 fY_5_1 cY_5_2 fY_5_2 A_5 B_5 C_5 D_5 hbel_5 hB_6
  have L_6 := hL
  have M_6 := hL'
  clear hL hL'
  try clear hB
  have hbx := blk_new w6 #[Value.bool s, Value.slice pa n1 pc, Value.slice pb m1 pd] 27
  have hbB := (Below.refl w6.heap.size w6).alloc (Nat.le_refl _) (.cells #[Value.bool s, Value.slice pa n1 pc, Value.slice pb m1 pd] 27)
  have hltP := hbx.lt
  have hB_7 : Below w6.heap.size w6 (w6.alloc (.cells #[Value.bool s, Value.slice pa n1 pc, Value.slice pb m1 pd] 27)) := hbB
  have X_7 := X_6.next hB_7
  have cX_7_0 : _ = some (Value.bool s) := X_7.cell 0
  have fX_7_0 := X_7.free 0
  have cX_7_1 : _ = some (Value.slice a n1 c) := X_7.cell 1
  have fX_7_1 := X_7.free 1
  have cX_7_2 : _ = some (Value.slice b m1 d) := X_7.cell 2
  have fX_7_2 := X_7.free 2
  have Y_7 := Y_6.next hB_7
  have cY_7_0 : _ = some (Value.bool t) := Y_7.cell 0
  have fY_7_0 := Y_7.free 0
  have cY_7_1 : _ = some (Value.slice a' n2 c') := Y_7.cell 1
  have fY_7_1 := Y_7.free 1
  have cY_7_2 : _ = some (Value.slice b' m2 d') := Y_7.cell 2
  have fY_7_2 := Y_7.free 2
  have A_7 := A_6.below hB_7
  have B_7 := B_6.below hB_7
  have C_7 := C_6.below hB_7
  have D_7 := D_6.below hB_7
  have L_7 := L_6.below hB_7
  have M_7 := M_6.below hB_7
  have hbel_7 := hbel_6.next hB_7
  have hsz_7 := hB_7.size
  clear hB_7
  have P_7 := hbx
  clear hbx hbB
  have cP_7_0 : _ = some (Value.bool s) := P_7.cell 0
  have cP_7_1 : _ = some (Value.slice pa n1 pc) := P_7.cell 1
  have cP_7_2 : _ = some (Value.slice pb m1 pd) := P_7.cell 2
  go_wp2_with fail
  clear X_6 cX_6_0 fX_6_0 cX_6_1 fX_6_1 cX_6_2 fX_6_2 Y_6 cY_6_0 fY_6_0 cY_6_1 fY_6_1 cY_6_2 fY_6_2 A_6 B_6 C_6 D_6 L_6 M_6 hbel_6
  generalize (w6.alloc (.cells #[Value.bool s, Value.slice pa n1 pc, Value.slice pb m1 pd] 27)) = v7 at *
  go_wp2_with fail
  refine (flend C_7 D_7 (by omega) (by omega)).mono ?_
  rintro e w8 ⟨ra, rc, rb, rd, rfl, hL, hL', hB⟩
  have hB_8 : Below v7.heap.size v7 w8 := (by first | exact hB | exact below_drew hB | exact bel_alloc hB)
  have X_8 := X_7.next hB_8
  have cX_8_0 : _ = some (Value.bool s) := X_8.cell 0
  have fX_8_0 := X_8.free 0
  have cX_8_1 : _ = some (Value.slice a n1 c) := X_8.cell 1
  have fX_8_1 := X_8.free 1
  have cX_8_2 : _ = some (Value.slice b m1 d) := X_8.cell 2
  have fX_8_2 := X_8.free 2
  have Y_8 := Y_7.next hB_8
  have cY_8_0 : _ = some (Value.bool t) := Y_8.cell 0
  have fY_8_0 := Y_8.free 0
  have cY_8_1 : _ = some (Value.slice a' n2 c') := Y_8.cell 1
  have fY_8_1 := Y_8.free 1
  have cY_8_2 : _ = some (Value.slice b' m2 d') := Y_8.cell 2
  have fY_8_2 := Y_8.free 2
  have P_8 := P_7.next hB_8
  have cP_8_0 : _ = some (Value.bool s) := P_8.cell 0
  have cP_8_1 : _ = some (Value.slice pa n1 pc) := P_8.cell 1
  have cP_8_2 : _ = some (Value.slice pb m1 pd) := P_8.cell 2
  have A_8 := A_7.below hB_8
  have B_8 := B_7.below hB_8
  have C_8 := C_7.below hB_8
  have D_8 := D_7.below hB_8
  have L_8 := L_7.below hB_8
  have M_8 := M_7.below hB_8
  have hbel_8 := hbel_7.next hB_8
  have hsz_8 := hB_8.size
  clear X_7 cX_7_0 fX_7_0 cX_7_1 fX_7_1 cX_7_2 fX_7_2 Y_7 cY_7_0 fY_7_0 cY_7_1 fY_7_1 cY_7_2 fY_7_2 P_7 cP_7_0 cP_7_1 cP_7_2 A_7 B_7 C_7 D_7 L_7 M_7 hbel_7 hB_8
  have N_8 := hL
  have O_8 := hL'
  clear hL hL'
  try clear hB
  have hbx := blk_new w8 #[Value.bool t, Value.slice ra n2 rc, Value.slice rb m2 rd] 27
  have hbB := (Below.refl w8.heap.size w8).alloc (Nat.le_refl _) (.cells #[Value.bool t, Value.slice ra n2 rc, Value.slice rb m2 rd] 27)
  have hltR := hbx.lt
  have hB_9 : Below w8.heap.size w8 (w8.alloc (.cells #[Value.bool t, Value.slice ra n2 rc, Value.slice rb m2 rd] 27)) := hbB
  have X_9 := X_8.next hB_9
  have cX_9_0 : _ = some (Value.bool s) := X_9.cell 0
  have fX_9_0 := X_9.free 0
  have cX_9_1 : _ = some (Value.slice a n1 c) := X_9.cell 1
  have fX_9_1 := X_9.free 1
  have cX_9_2 : _ = some (Value.slice b m1 d) := X_9.cell 2
  have fX_9_2 := X_9.free 2
  have Y_9 := Y_8.next hB_9
  have cY_9_0 : _ = some (Value.bool t) := Y_9.cell 0
  have fY_9_0 := Y_9.free 0
  have cY_9_1 : _ = some (Value.slice a' n2 c') := Y_9.cell 1
  have fY_9_1 := Y_9.free 1
  have cY_9_2 : _ = some (Value.slice b' m2 d') := Y_9.cell 2
  have fY_9_2 := Y_9.free 2
  have P_9 := P_8.next hB_9
  have cP_9_0 : _ = some (Value.bool s) := P_9.cell 0
  have cP_9_1 : _ = some (Value.slice pa n1 pc) := P_9.cell 1
  have cP_9_2 : _ = some (Value.slice pb m1 pd) := P_9.cell 2
  have A_9 := A_8.below hB_9
  have B_9 := B_8.below hB_9
  have C_9 := C_8.below hB_9
  have D_9 := D_8.below hB_9
  have L_9 := L_8.below hB_9
  have M_9 := M_8.below hB_9
  have N_9 := N_8.below hB_9
  have O_9 := O_8.below hB_9
  have hbel_9 := hbel_8.next hB_9
  have hsz_9 := hB_9.size
  clear hB_9
  have R_9 := hbx
  clear hbx hbB
  have cR_9_0 : _ = some (Value.bool t) := R_9.cell 0
  have cR_9_1 : _ = some (Value.slice ra n2 rc) := R_9.cell 1
  have cR_9_2 : _ = some (Value.slice rb m2 rd) := R_9.cell 2
  go_wp2_with fail
  clear X_8 cX_8_0 fX_8_0 cX_8_1 fX_8_1 cX_8_2 fX_8_2 Y_8 cY_8_0 fY_8_0 cY_8_1 fY_8_1 cY_8_2 fY_8_2 P_8 cP_8_0 cP_8_1 cP_8_2 A_8 B_8 C_8 D_8 L_8 M_8 N_8 O_8 hbel_8
  generalize (w8.alloc (.cells #[Value.bool t, Value.slice ra n2 rc, Value.slice rb m2 rd] 27)) = v9 at *
  have mX := hid X_9
  have mY := hid Y_9
  have mP := hid P_9
  have mR := hid R_9
  have mA := hid A_9
  have mB := hid B_9
  have mC := hid C_9
  have mD := hid D_9
  have mL := hid L_9
  have mM := hid M_9
  have mN := hid N_9
  have mO := hid O_9
  have mhbel := hid hbel_9
  have hbM_9 : Below v9.heap.size v9 v9 := Below.refl _ _
  obtain ⟨vM, hvM⟩ : ∃ y : World, y = v9 := ⟨_, rfl⟩
  subst hvM
  have T_9 := hid (told2_nil vM.heap.size vM)
  have hbT_9 : Below vM.heap.size vM vM := Below.refl _ _
  have QX_9 := rdq_of (K := 40) s A_9 hn1 B_9 hm1
  have QP_9 := rdq_of (K := 40) s L_9.2 hn1 M_9.2 hm1
  have QY_9 := rdq_of (K := 40) t C_9 hn2 D_9 hm2
  have QR_9 := rdq_of (K := 40) t N_9.2 hn2 O_9.2 hm2
  have ZX_9 := (A_9.rdN (show n1 ≤ 4194304 by omega)).toZ (s := s)
  have NX_9 := B_9.rdN (show m1 ≤ 4194304 by omega)
  have ZP_9 := (L_9.2.rdN (show n1 ≤ 4194304 by omega)).toZ (s := s)
  have NP_9 := M_9.2.rdN (show m1 ≤ 4194304 by omega)
  have hqn := hid (divInt_sz (k := 41) (A_9.szv.mono (Nat.le_refl _) (show n1 ≤ 41 by omega)) (B_9.szv.mono (Nat.le_refl _) (show m1 ≤ 41 by omega)) s false (by omega))
  have hqx := hid (show QS (qv s (val l1) (val k1)) 40 from QX_9.qs (by omega))
  have hqy := hid (show QS (qv t (val l2) (val k2)) 40 from QY_9.qs (by omega))
  have hzk : zv false (val k1) = (val k1 : Int) := by simp [zv]
  rw [hzk] at hqn
  clear hzk
  clear A_9
  clear B_9
  clear C_9
  clear D_9
  clear L_9
  clear M_9
  clear N_9
  clear O_9
  generalize qv s (val l1) (val k1) = qx at *
  generalize qv t (val l2) (val k2) = qy at *
  generalize zv s (val l1) = z1 at *
  generalize val k1 = v1 at *
  obtain ⟨en, hen0⟩ : ∃ q, Rat.divInt z1 (v1 : Int) = q := ⟨_, rfl⟩
  have hen := hid hen0
  have qen := hid (show QS en 120 from hen0 ▸ hqn.out.mono (by omega))
  clear hen0
  obtain ⟨ed, hed0⟩ : ∃ q, qx / qy = q := ⟨_, rfl⟩
  have hed := hid hed0
  clear hed0
  have qed := hid (show QS ed 120 from hed.out ▸ (hqx.out.div hqy.out (by omega)).mono (by omega))
  obtain ⟨o1, ho10⟩ : ∃ q, -qx = q := ⟨_, rfl⟩
  have ho1 := hid ho10
  have qo1 := hid (show QS o1 120 from ho10 ▸ hqx.out.neg.mono (by omega))
  clear ho10
  obtain ⟨o2, ho20⟩ : ∃ q, qx + qy = q := ⟨_, rfl⟩
  have ho2 := hid ho20
  have qo2 := hid (show QS o2 120 from ho20 ▸ (hqx.out.add hqy.out).mono (by omega))
  clear ho20
  obtain ⟨o3, ho30⟩ : ∃ q, qx - qy = q := ⟨_, rfl⟩
  have ho3 := hid ho30
  have qo3 := hid (show QS o3 120 from ho30 ▸ (hqx.out.sub hqy.out).mono (by omega))
  clear ho30
  obtain ⟨o4, ho40⟩ : ∃ q, qx * qy = q := ⟨_, rfl⟩
  have ho4 := hid ho40
  have qo4 := hid (show QS o4 120 from ho40 ▸ (hqx.out.mul hqy.out).mono (by omega))
  clear ho40
  obtain ⟨o5, ho50⟩ : ∃ q, qy + qx = q := ⟨_, rfl⟩
  have ho5 := hid ho50
  have qo5 := hid (show QS o5 120 from ho50 ▸ (hqy.out.add hqx.out).mono (by omega))
  clear ho50
  obtain ⟨o6, ho60⟩ : ∃ q, -qy = q := ⟨_, rfl⟩
  have ho6 := hid ho60
  have qo6 := hid (show QS o6 120 from ho60 ▸ hqy.out.neg.mono (by omega))
  clear ho60
  obtain ⟨o7, ho70⟩ : ∃ q, qy * qx = q := ⟨_, rfl⟩
  have ho7 := hid ho70
  have qo7 := hid (show QS o7 120 from ho70 ▸ (hqy.out.mul hqx.out).mono (by omega))
  clear ho70
  obtain ⟨o8, ho80⟩ : ∃ q, qy - qy = q := ⟨_, rfl⟩
  have ho8 := hid ho80
  have qo8 := hid (show QS o8 120 from ho80 ▸ (hqy.out.sub hqy.out).mono (by omega))
  clear ho80
  obtain ⟨er, her0⟩ : ∃ q, zE (v1 : Int) = q := ⟨_, rfl⟩
  have her := hid her0
  clear her0
  obtain ⟨es, hes0⟩ : ∃ q, qE qy = q := ⟨_, rfl⟩
  have hes := hid hes0
  clear hes0
  obtain ⟨fx, hfx0⟩ : ∃ q, qx.floor = q := ⟨_, rfl⟩
  have hfx := hid hfx0
  clear hfx0
  obtain ⟨c1, hc10⟩ : ∃ q, cmpQ qx qy = q := ⟨_, rfl⟩
  have hc1 := hid hc10
  clear hc10
  obtain ⟨c2, hc20⟩ : ∃ q, cmpQ qy qx = q := ⟨_, rfl⟩
  have hc2 := hid hc20
  clear hc20
  obtain ⟨c3, hc30⟩ : ∃ q, sgnQ qx = q := ⟨_, rfl⟩
  have hc3 := hid hc30
  clear hc30
  have sfx := hid (show Sz fx.natAbs 41 from hfx.out ▸ floor_sz hqx.out)
  have ber : (er == er) = true := beq_self_eq_true _
  have bes : (es == es) = true := beq_self_eq_true _
  have bc1 : (c1 == c1) = true := beq_self_eq_true _
  have bc2 : (c2 == c2) = true := beq_self_eq_true _
  have bc3 : (c3 == c3) = true := beq_self_eq_true _
  go_wp2_with fail
  refine (qnorm ZP_9 NP_9).mono ?_
  rw [hen.out, her.out]
  rintro e w10 ⟨ua, un, uc, ub, um, ud, rfl, hO, hO', hD, hB⟩
  have hBT : Below vM.heap.size vM w10 := (by first | exact hB | exact below_drew hB | exact bel_alloc hB)
  have T_10 := hid (T_9.out.cons2 (by have := hbT_9.size; omega) (show Own vM.heap.size w10 _ _ _ _ from by first | exact hO | exact hO.mono (by simp)) (show Own vM.heap.size w10 _ _ _ _ from by first | exact hO' | exact hO'.mono (by simp)) hD hBT (Nat.le_trans (qnl_len qen.out) (by omega)) (Nat.le_trans (qdl_len qen.out) (by omega)))
  have hbT_10 := hbT_9.next hBT
  clear T_9 hbT_9 hBT
  have hB_10 : Below vM.heap.size vM w10 := (by first | exact hB | exact below_drew hB | exact bel_alloc hB)
  have X_10 := X_9.next hB_10
  have cX_10_0 : _ = some (Value.bool s) := X_10.cell 0
  have fX_10_0 := X_10.free 0
  have cX_10_1 : _ = some (Value.slice a n1 c) := X_10.cell 1
  have fX_10_1 := X_10.free 1
  have cX_10_2 : _ = some (Value.slice b m1 d) := X_10.cell 2
  have fX_10_2 := X_10.free 2
  have Y_10 := Y_9.next hB_10
  have cY_10_0 : _ = some (Value.bool t) := Y_10.cell 0
  have fY_10_0 := Y_10.free 0
  have cY_10_1 : _ = some (Value.slice a' n2 c') := Y_10.cell 1
  have fY_10_1 := Y_10.free 1
  have cY_10_2 : _ = some (Value.slice b' m2 d') := Y_10.cell 2
  have fY_10_2 := Y_10.free 2
  have P_10 := P_9.next hB_10
  have cP_10_0 : _ = some (Value.bool s) := P_10.cell 0
  have cP_10_1 : _ = some (Value.slice pa n1 pc) := P_10.cell 1
  have cP_10_2 : _ = some (Value.slice pb m1 pd) := P_10.cell 2
  have R_10 := R_9.next hB_10
  have cR_10_0 : _ = some (Value.bool t) := R_10.cell 0
  have cR_10_1 : _ = some (Value.slice ra n2 rc) := R_10.cell 1
  have cR_10_2 : _ = some (Value.slice rb m2 rd) := R_10.cell 2
  have hbM_10 := hbM_9.next hB_10
  have QX_10 := QX_9.below hB_10
  have QP_10 := QP_9.below hB_10
  have QY_10 := QY_9.below hB_10
  have QR_10 := QR_9.below hB_10
  have ZX_10 := ZX_9.below hB_10
  have NX_10 := NX_9.below hB_10
  have ZP_10 := ZP_9.below hB_10
  have NP_10 := NP_9.below hB_10
  have hbel_10 := hbel_9.next hB_10
  have hsz_10 := hB_10.size
  clear X_9 cX_9_0 fX_9_0 cX_9_1 fX_9_1 cX_9_2 fX_9_2 Y_9 cY_9_0 fY_9_0 cY_9_1 fY_9_1 cY_9_2 fY_9_2 P_9 cP_9_0 cP_9_1 cP_9_2 R_9 cR_9_0 cR_9_1 cR_9_2 hbM_9 QX_9 QP_9 QY_9 QR_9 ZX_9 NX_9 ZP_9 NP_9 hbel_9 hB_10
  have Ou_10 := hO
  have ltOu := hO.ltB
  have Pu_10 := hO'
  have ltPu := hO'.ltB
  clear hO hO' hD
  try clear hB
  have hbx := blk_new w10 #[Value.bool (qsg en er), Value.slice ua un uc, Value.slice ub um ud] 27
  have hbB := (Below.refl w10.heap.size w10).alloc (Nat.le_refl _) (.cells #[Value.bool (qsg en er), Value.slice ua un uc, Value.slice ub um ud] 27)
  have hltU := hbx.lt
  have hBT : Below w10.heap.size w10 (w10.alloc (.cells #[Value.bool (qsg en er), Value.slice ua un uc, Value.slice ub um ud] 27)) := hbB
  have T_11 := hid (T_10.out.below hBT)
  have hbT_11 := hbT_10.next hBT
  clear T_10 hbT_10 hBT
  have hB_11 : Below w10.heap.size w10 (w10.alloc (.cells #[Value.bool (qsg en er), Value.slice ua un uc, Value.slice ub um ud] 27)) := hbB
  have X_11 := X_10.next hB_11
  have cX_11_0 : _ = some (Value.bool s) := X_11.cell 0
  have fX_11_0 := X_11.free 0
  have cX_11_1 : _ = some (Value.slice a n1 c) := X_11.cell 1
  have fX_11_1 := X_11.free 1
  have cX_11_2 : _ = some (Value.slice b m1 d) := X_11.cell 2
  have fX_11_2 := X_11.free 2
  have Y_11 := Y_10.next hB_11
  have cY_11_0 : _ = some (Value.bool t) := Y_11.cell 0
  have fY_11_0 := Y_11.free 0
  have cY_11_1 : _ = some (Value.slice a' n2 c') := Y_11.cell 1
  have fY_11_1 := Y_11.free 1
  have cY_11_2 : _ = some (Value.slice b' m2 d') := Y_11.cell 2
  have fY_11_2 := Y_11.free 2
  have P_11 := P_10.next hB_11
  have cP_11_0 : _ = some (Value.bool s) := P_11.cell 0
  have cP_11_1 : _ = some (Value.slice pa n1 pc) := P_11.cell 1
  have cP_11_2 : _ = some (Value.slice pb m1 pd) := P_11.cell 2
  have R_11 := R_10.next hB_11
  have cR_11_0 : _ = some (Value.bool t) := R_11.cell 0
  have cR_11_1 : _ = some (Value.slice ra n2 rc) := R_11.cell 1
  have cR_11_2 : _ = some (Value.slice rb m2 rd) := R_11.cell 2
  have hbM_11 := hbM_10.next hB_11
  have QX_11 := QX_10.below hB_11
  have QP_11 := QP_10.below hB_11
  have QY_11 := QY_10.below hB_11
  have QR_11 := QR_10.below hB_11
  have ZX_11 := ZX_10.below hB_11
  have NX_11 := NX_10.below hB_11
  have ZP_11 := ZP_10.below hB_11
  have NP_11 := NP_10.below hB_11
  have Ou_11 := Ou_10.below hB_11
  have Pu_11 := Pu_10.below hB_11
  have hbel_11 := hbel_10.next hB_11
  have hsz_11 := hB_11.size
  clear hB_11
  have U_11 := hbx
  clear hbx hbB
  have cU_11_0 : _ = some (Value.bool (qsg en er)) := U_11.cell 0
  have cU_11_1 : _ = some (Value.slice ua un uc) := U_11.cell 1
  have cU_11_2 : _ = some (Value.slice ub um ud) := U_11.cell 2
  go_wp2_with fail
  clear X_10 cX_10_0 fX_10_0 cX_10_1 fX_10_1 cX_10_2 fX_10_2 Y_10 cY_10_0 fY_10_0 cY_10_1 fY_10_1 cY_10_2 fY_10_2 P_10 cP_10_0 cP_10_1 cP_10_2 R_10 cR_10_0 cR_10_1 cR_10_2 hbM_10 QX_10 QP_10 QY_10 QR_10 ZX_10 NX_10 ZP_10 NP_10 Ou_10 Pu_10 hbel_10
  generalize (w10.alloc (.cells #[Value.bool (qsg en er), Value.slice ua un uc, Value.slice ub um ud] 27)) = v11 at *
  go_wp2_with fail
  refine (rqnorm ZX_11 NX_11).mono ?_
  rw [hen.out, her.out]
  rintro e w12 ⟨va, vn, vc, vb, vm, vd, rfl, hO, hO', hD, hB⟩
  have hBT : Below v11.heap.size v11 w12 := (by first | exact hB | exact below_drew hB | exact bel_alloc hB)
  have T_12 := hid (T_11.out.below hBT)
  have hbT_12 := hbT_11.next hBT
  clear T_11 hbT_11 hBT
  have hB_12 : Below v11.heap.size v11 w12 := (by first | exact hB | exact below_drew hB | exact bel_alloc hB)
  have X_12 := X_11.next hB_12
  have cX_12_0 : _ = some (Value.bool s) := X_12.cell 0
  have fX_12_0 := X_12.free 0
  have cX_12_1 : _ = some (Value.slice a n1 c) := X_12.cell 1
  have fX_12_1 := X_12.free 1
  have cX_12_2 : _ = some (Value.slice b m1 d) := X_12.cell 2
  have fX_12_2 := X_12.free 2
  have Y_12 := Y_11.next hB_12
  have cY_12_0 : _ = some (Value.bool t) := Y_12.cell 0
  have fY_12_0 := Y_12.free 0
  have cY_12_1 : _ = some (Value.slice a' n2 c') := Y_12.cell 1
  have fY_12_1 := Y_12.free 1
  have cY_12_2 : _ = some (Value.slice b' m2 d') := Y_12.cell 2
  have fY_12_2 := Y_12.free 2
  have P_12 := P_11.next hB_12
  have cP_12_0 : _ = some (Value.bool s) := P_12.cell 0
  have cP_12_1 : _ = some (Value.slice pa n1 pc) := P_12.cell 1
  have cP_12_2 : _ = some (Value.slice pb m1 pd) := P_12.cell 2
  have R_12 := R_11.next hB_12
  have cR_12_0 : _ = some (Value.bool t) := R_12.cell 0
  have cR_12_1 : _ = some (Value.slice ra n2 rc) := R_12.cell 1
  have cR_12_2 : _ = some (Value.slice rb m2 rd) := R_12.cell 2
  have U_12 := U_11.next hB_12
  have cU_12_0 : _ = some (Value.bool (qsg en er)) := U_12.cell 0
  have cU_12_1 : _ = some (Value.slice ua un uc) := U_12.cell 1
  have cU_12_2 : _ = some (Value.slice ub um ud) := U_12.cell 2
  have hbM_12 := hbM_11.next hB_12
  have QX_12 := QX_11.below hB_12
  have QP_12 := QP_11.below hB_12
  have QY_12 := QY_11.below hB_12
  have QR_12 := QR_11.below hB_12
  have ZX_12 := ZX_11.below hB_12
  have NX_12 := NX_11.below hB_12
  have ZP_12 := ZP_11.below hB_12
  have NP_12 := NP_11.below hB_12
  have Ou_12 := Ou_11.below hB_12
  have Pu_12 := Pu_11.below hB_12
  have hbel_12 := hbel_11.next hB_12
  have hsz_12 := hB_12.size
  clear X_11 cX_11_0 fX_11_0 cX_11_1 fX_11_1 cX_11_2 fX_11_2 Y_11 cY_11_0 fY_11_0 cY_11_1 fY_11_1 cY_11_2 fY_11_2 P_11 cP_11_0 cP_11_1 cP_11_2 R_11 cR_11_0 cR_11_1 cR_11_2 U_11 cU_11_0 cU_11_1 cU_11_2 hbM_11 QX_11 QP_11 QY_11 QR_11 ZX_11 NX_11 ZP_11 NP_11 Ou_11 Pu_11 hbel_11 hB_12
  have Ov_12 := hO
  have ltOv := hO.ltB
  have Pv_12 := hO'
  have ltPv := hO'.ltB
  clear hO hO' hD
  try clear hB
  have hbx := blk_new w12 #[Value.bool (qsg en er), Value.slice va vn vc, Value.slice vb vm vd] 27
  have hbB := (Below.refl w12.heap.size w12).alloc (Nat.le_refl _) (.cells #[Value.bool (qsg en er), Value.slice va vn vc, Value.slice vb vm vd] 27)
  have hltV := hbx.lt
  have hBT : Below w12.heap.size w12 (w12.alloc (.cells #[Value.bool (qsg en er), Value.slice va vn vc, Value.slice vb vm vd] 27)) := hbB
  have T_13 := hid (T_12.out.below hBT)
  have hbT_13 := hbT_12.next hBT
  clear T_12 hbT_12 hBT
  have hB_13 : Below w12.heap.size w12 (w12.alloc (.cells #[Value.bool (qsg en er), Value.slice va vn vc, Value.slice vb vm vd] 27)) := hbB
  have X_13 := X_12.next hB_13
  have cX_13_0 : _ = some (Value.bool s) := X_13.cell 0
  have fX_13_0 := X_13.free 0
  have cX_13_1 : _ = some (Value.slice a n1 c) := X_13.cell 1
  have fX_13_1 := X_13.free 1
  have cX_13_2 : _ = some (Value.slice b m1 d) := X_13.cell 2
  have fX_13_2 := X_13.free 2
  have Y_13 := Y_12.next hB_13
  have cY_13_0 : _ = some (Value.bool t) := Y_13.cell 0
  have fY_13_0 := Y_13.free 0
  have cY_13_1 : _ = some (Value.slice a' n2 c') := Y_13.cell 1
  have fY_13_1 := Y_13.free 1
  have cY_13_2 : _ = some (Value.slice b' m2 d') := Y_13.cell 2
  have fY_13_2 := Y_13.free 2
  have P_13 := P_12.next hB_13
  have cP_13_0 : _ = some (Value.bool s) := P_13.cell 0
  have cP_13_1 : _ = some (Value.slice pa n1 pc) := P_13.cell 1
  have cP_13_2 : _ = some (Value.slice pb m1 pd) := P_13.cell 2
  have R_13 := R_12.next hB_13
  have cR_13_0 : _ = some (Value.bool t) := R_13.cell 0
  have cR_13_1 : _ = some (Value.slice ra n2 rc) := R_13.cell 1
  have cR_13_2 : _ = some (Value.slice rb m2 rd) := R_13.cell 2
  have U_13 := U_12.next hB_13
  have cU_13_0 : _ = some (Value.bool (qsg en er)) := U_13.cell 0
  have cU_13_1 : _ = some (Value.slice ua un uc) := U_13.cell 1
  have cU_13_2 : _ = some (Value.slice ub um ud) := U_13.cell 2
  have hbM_13 := hbM_12.next hB_13
  have QX_13 := QX_12.below hB_13
  have QP_13 := QP_12.below hB_13
  have QY_13 := QY_12.below hB_13
  have QR_13 := QR_12.below hB_13
  have ZX_13 := ZX_12.below hB_13
  have NX_13 := NX_12.below hB_13
  have ZP_13 := ZP_12.below hB_13
  have NP_13 := NP_12.below hB_13
  have Ou_13 := Ou_12.below hB_13
  have Pu_13 := Pu_12.below hB_13
  have Ov_13 := Ov_12.below hB_13
  have Pv_13 := Pv_12.below hB_13
  have hbel_13 := hbel_12.next hB_13
  have hsz_13 := hB_13.size
  clear hB_13
  have V_13 := hbx
  clear hbx hbB
  have cV_13_0 : _ = some (Value.bool (qsg en er)) := V_13.cell 0
  have cV_13_1 : _ = some (Value.slice va vn vc) := V_13.cell 1
  have cV_13_2 : _ = some (Value.slice vb vm vd) := V_13.cell 2
  go_wp2_with fail
  clear X_12 cX_12_0 fX_12_0 cX_12_1 fX_12_1 cX_12_2 fX_12_2 Y_12 cY_12_0 fY_12_0 cY_12_1 fY_12_1 cY_12_2 fY_12_2 P_12 cP_12_0 cP_12_1 cP_12_2 R_12 cR_12_0 cR_12_1 cR_12_2 U_12 cU_12_0 cU_12_1 cU_12_2 hbM_12 QX_12 QP_12 QY_12 QR_12 ZX_12 NX_12 ZP_12 NP_12 Ou_12 Pu_12 Ov_12 Pv_12 hbel_12
  generalize (w12.alloc (.cells #[Value.bool (qsg en er), Value.slice va vn vc, Value.slice vb vm vd] 27)) = v13 at *
  clear ZX_13
  clear NX_13
  clear ZP_13
  clear NP_13
  go_wp2_with fail
  refine (qdiv QP_13 (by omega) QR_13 (by omega)).mono ?_
  rw [hed.out, hes.out]
  rintro e w14 ⟨xa, xn, xc, xb, xm, xd, rfl, hO, hO', hD, hB⟩
  have hBT : Below v13.heap.size v13 w14 := (by first | exact hB | exact below_drew hB | exact bel_alloc hB)
  have T_14 := hid (T_13.out.cons2 (by have := hbT_13.size; omega) (show Own v13.heap.size w14 _ _ _ _ from by first | exact hO | exact hO.mono (by simp)) (show Own v13.heap.size w14 _ _ _ _ from by first | exact hO' | exact hO'.mono (by simp)) hD hBT (Nat.le_trans (qnl_len qed.out) (by omega)) (Nat.le_trans (qdl_len qed.out) (by omega)))
  have hbT_14 := hbT_13.next hBT
  clear T_13 hbT_13 hBT
  have hB_14 : Below v13.heap.size v13 w14 := (by first | exact hB | exact below_drew hB | exact bel_alloc hB)
  have X_14 := X_13.next hB_14
  have cX_14_0 : _ = some (Value.bool s) := X_14.cell 0
  have fX_14_0 := X_14.free 0
  have cX_14_1 : _ = some (Value.slice a n1 c) := X_14.cell 1
  have fX_14_1 := X_14.free 1
  have cX_14_2 : _ = some (Value.slice b m1 d) := X_14.cell 2
  have fX_14_2 := X_14.free 2
  have Y_14 := Y_13.next hB_14
  have cY_14_0 : _ = some (Value.bool t) := Y_14.cell 0
  have fY_14_0 := Y_14.free 0
  have cY_14_1 : _ = some (Value.slice a' n2 c') := Y_14.cell 1
  have fY_14_1 := Y_14.free 1
  have cY_14_2 : _ = some (Value.slice b' m2 d') := Y_14.cell 2
  have fY_14_2 := Y_14.free 2
  have P_14 := P_13.next hB_14
  have cP_14_0 : _ = some (Value.bool s) := P_14.cell 0
  have cP_14_1 : _ = some (Value.slice pa n1 pc) := P_14.cell 1
  have cP_14_2 : _ = some (Value.slice pb m1 pd) := P_14.cell 2
  have R_14 := R_13.next hB_14
  have cR_14_0 : _ = some (Value.bool t) := R_14.cell 0
  have cR_14_1 : _ = some (Value.slice ra n2 rc) := R_14.cell 1
  have cR_14_2 : _ = some (Value.slice rb m2 rd) := R_14.cell 2
  have U_14 := U_13.next hB_14
  have cU_14_0 : _ = some (Value.bool (qsg en er)) := U_14.cell 0
  have cU_14_1 : _ = some (Value.slice ua un uc) := U_14.cell 1
  have cU_14_2 : _ = some (Value.slice ub um ud) := U_14.cell 2
  have V_14 := V_13.next hB_14
  have cV_14_0 : _ = some (Value.bool (qsg en er)) := V_14.cell 0
  have cV_14_1 : _ = some (Value.slice va vn vc) := V_14.cell 1
  have cV_14_2 : _ = some (Value.slice vb vm vd) := V_14.cell 2
  have hbM_14 := hbM_13.next hB_14
  have QX_14 := QX_13.below hB_14
  have QP_14 := QP_13.below hB_14
  have QY_14 := QY_13.below hB_14
  have QR_14 := QR_13.below hB_14
  have Ou_14 := Ou_13.below hB_14
  have Pu_14 := Pu_13.below hB_14
  have Ov_14 := Ov_13.below hB_14
  have Pv_14 := Pv_13.below hB_14
  have hbel_14 := hbel_13.next hB_14
  have hsz_14 := hB_14.size
  clear X_13 cX_13_0 fX_13_0 cX_13_1 fX_13_1 cX_13_2 fX_13_2 Y_13 cY_13_0 fY_13_0 cY_13_1 fY_13_1 cY_13_2 fY_13_2 P_13 cP_13_0 cP_13_1 cP_13_2 R_13 cR_13_0 cR_13_1 cR_13_2 U_13 cU_13_0 cU_13_1 cU_13_2 V_13 cV_13_0 cV_13_1 cV_13_2 hbM_13 QX_13 QP_13 QY_13 QR_13 Ou_13 Pu_13 Ov_13 Pv_13 hbel_13 hB_14
  have Ox_14 := hO
  have ltOx := hO.ltB
  have Px_14 := hO'
  have ltPx := hO'.ltB
  clear hO hO' hD
  try clear hB
  have hbx := blk_new w14 #[Value.bool (qsg ed es), Value.slice xa xn xc, Value.slice xb xm xd] 27
  have hbB := (Below.refl w14.heap.size w14).alloc (Nat.le_refl _) (.cells #[Value.bool (qsg ed es), Value.slice xa xn xc, Value.slice xb xm xd] 27)
  have hltE := hbx.lt
  have hBT : Below w14.heap.size w14 (w14.alloc (.cells #[Value.bool (qsg ed es), Value.slice xa xn xc, Value.slice xb xm xd] 27)) := hbB
  have T_15 := hid (T_14.out.below hBT)
  have hbT_15 := hbT_14.next hBT
  clear T_14 hbT_14 hBT
  have hB_15 : Below w14.heap.size w14 (w14.alloc (.cells #[Value.bool (qsg ed es), Value.slice xa xn xc, Value.slice xb xm xd] 27)) := hbB
  have X_15 := X_14.next hB_15
  have cX_15_0 : _ = some (Value.bool s) := X_15.cell 0
  have fX_15_0 := X_15.free 0
  have cX_15_1 : _ = some (Value.slice a n1 c) := X_15.cell 1
  have fX_15_1 := X_15.free 1
  have cX_15_2 : _ = some (Value.slice b m1 d) := X_15.cell 2
  have fX_15_2 := X_15.free 2
  have Y_15 := Y_14.next hB_15
  have cY_15_0 : _ = some (Value.bool t) := Y_15.cell 0
  have fY_15_0 := Y_15.free 0
  have cY_15_1 : _ = some (Value.slice a' n2 c') := Y_15.cell 1
  have fY_15_1 := Y_15.free 1
  have cY_15_2 : _ = some (Value.slice b' m2 d') := Y_15.cell 2
  have fY_15_2 := Y_15.free 2
  have P_15 := P_14.next hB_15
  have cP_15_0 : _ = some (Value.bool s) := P_15.cell 0
  have cP_15_1 : _ = some (Value.slice pa n1 pc) := P_15.cell 1
  have cP_15_2 : _ = some (Value.slice pb m1 pd) := P_15.cell 2
  have R_15 := R_14.next hB_15
  have cR_15_0 : _ = some (Value.bool t) := R_15.cell 0
  have cR_15_1 : _ = some (Value.slice ra n2 rc) := R_15.cell 1
  have cR_15_2 : _ = some (Value.slice rb m2 rd) := R_15.cell 2
  have U_15 := U_14.next hB_15
  have cU_15_0 : _ = some (Value.bool (qsg en er)) := U_15.cell 0
  have cU_15_1 : _ = some (Value.slice ua un uc) := U_15.cell 1
  have cU_15_2 : _ = some (Value.slice ub um ud) := U_15.cell 2
  have V_15 := V_14.next hB_15
  have cV_15_0 : _ = some (Value.bool (qsg en er)) := V_15.cell 0
  have cV_15_1 : _ = some (Value.slice va vn vc) := V_15.cell 1
  have cV_15_2 : _ = some (Value.slice vb vm vd) := V_15.cell 2
  have hbM_15 := hbM_14.next hB_15
  have QX_15 := QX_14.below hB_15
  have QP_15 := QP_14.below hB_15
  have QY_15 := QY_14.below hB_15
  have QR_15 := QR_14.below hB_15
  have Ou_15 := Ou_14.below hB_15
  have Pu_15 := Pu_14.below hB_15
  have Ov_15 := Ov_14.below hB_15
  have Pv_15 := Pv_14.below hB_15
  have Ox_15 := Ox_14.below hB_15
  have Px_15 := Px_14.below hB_15
  have hbel_15 := hbel_14.next hB_15
  have hsz_15 := hB_15.size
  clear hB_15
  have E_15 := hbx
  clear hbx hbB
  have cE_15_0 : _ = some (Value.bool (qsg ed es)) := E_15.cell 0
  have cE_15_1 : _ = some (Value.slice xa xn xc) := E_15.cell 1
  have cE_15_2 : _ = some (Value.slice xb xm xd) := E_15.cell 2
  go_wp2_with fail
  clear X_14 cX_14_0 fX_14_0 cX_14_1 fX_14_1 cX_14_2 fX_14_2 Y_14 cY_14_0 fY_14_0 cY_14_1 fY_14_1 cY_14_2 fY_14_2 P_14 cP_14_0 cP_14_1 cP_14_2 R_14 cR_14_0 cR_14_1 cR_14_2 U_14 cU_14_0 cU_14_1 cU_14_2 V_14 cV_14_0 cV_14_1 cV_14_2 hbM_14 QX_14 QP_14 QY_14 QR_14 Ou_14 Pu_14 Ov_14 Pv_14 Ox_14 Px_14 hbel_14
  generalize (w14.alloc (.cells #[Value.bool (qsg ed es), Value.slice xa xn xc, Value.slice xb xm xd] 27)) = v15 at *
  go_wp2_with fail
  refine (rqdiv QX_15 (by omega) QY_15 (by omega)).mono ?_
  rw [hed.out, hes.out]
  rintro e w16 ⟨ya, yn, yc, yb, ym, yd, rfl, hO, hO', hD, hB⟩
  have hBT : Below v15.heap.size v15 w16 := (by first | exact hB | exact below_drew hB | exact bel_alloc hB)
  have T_16 := hid (T_15.out.below hBT)
  have hbT_16 := hbT_15.next hBT
  clear T_15 hbT_15 hBT
  have hB_16 : Below v15.heap.size v15 w16 := (by first | exact hB | exact below_drew hB | exact bel_alloc hB)
  have X_16 := X_15.next hB_16
  have cX_16_0 : _ = some (Value.bool s) := X_16.cell 0
  have fX_16_0 := X_16.free 0
  have cX_16_1 : _ = some (Value.slice a n1 c) := X_16.cell 1
  have fX_16_1 := X_16.free 1
  have cX_16_2 : _ = some (Value.slice b m1 d) := X_16.cell 2
  have fX_16_2 := X_16.free 2
  have Y_16 := Y_15.next hB_16
  have cY_16_0 : _ = some (Value.bool t) := Y_16.cell 0
  have fY_16_0 := Y_16.free 0
  have cY_16_1 : _ = some (Value.slice a' n2 c') := Y_16.cell 1
  have fY_16_1 := Y_16.free 1
  have cY_16_2 : _ = some (Value.slice b' m2 d') := Y_16.cell 2
  have fY_16_2 := Y_16.free 2
  have P_16 := P_15.next hB_16
  have cP_16_0 : _ = some (Value.bool s) := P_16.cell 0
  have cP_16_1 : _ = some (Value.slice pa n1 pc) := P_16.cell 1
  have cP_16_2 : _ = some (Value.slice pb m1 pd) := P_16.cell 2
  have R_16 := R_15.next hB_16
  have cR_16_0 : _ = some (Value.bool t) := R_16.cell 0
  have cR_16_1 : _ = some (Value.slice ra n2 rc) := R_16.cell 1
  have cR_16_2 : _ = some (Value.slice rb m2 rd) := R_16.cell 2
  have U_16 := U_15.next hB_16
  have cU_16_0 : _ = some (Value.bool (qsg en er)) := U_16.cell 0
  have cU_16_1 : _ = some (Value.slice ua un uc) := U_16.cell 1
  have cU_16_2 : _ = some (Value.slice ub um ud) := U_16.cell 2
  have V_16 := V_15.next hB_16
  have cV_16_0 : _ = some (Value.bool (qsg en er)) := V_16.cell 0
  have cV_16_1 : _ = some (Value.slice va vn vc) := V_16.cell 1
  have cV_16_2 : _ = some (Value.slice vb vm vd) := V_16.cell 2
  have E_16 := E_15.next hB_16
  have cE_16_0 : _ = some (Value.bool (qsg ed es)) := E_16.cell 0
  have cE_16_1 : _ = some (Value.slice xa xn xc) := E_16.cell 1
  have cE_16_2 : _ = some (Value.slice xb xm xd) := E_16.cell 2
  have hbM_16 := hbM_15.next hB_16
  have QX_16 := QX_15.below hB_16
  have QP_16 := QP_15.below hB_16
  have QY_16 := QY_15.below hB_16
  have QR_16 := QR_15.below hB_16
  have Ou_16 := Ou_15.below hB_16
  have Pu_16 := Pu_15.below hB_16
  have Ov_16 := Ov_15.below hB_16
  have Pv_16 := Pv_15.below hB_16
  have Ox_16 := Ox_15.below hB_16
  have Px_16 := Px_15.below hB_16
  have hbel_16 := hbel_15.next hB_16
  have hsz_16 := hB_16.size
  clear X_15 cX_15_0 fX_15_0 cX_15_1 fX_15_1 cX_15_2 fX_15_2 Y_15 cY_15_0 fY_15_0 cY_15_1 fY_15_1 cY_15_2 fY_15_2 P_15 cP_15_0 cP_15_1 cP_15_2 R_15 cR_15_0 cR_15_1 cR_15_2 U_15 cU_15_0 cU_15_1 cU_15_2 V_15 cV_15_0 cV_15_1 cV_15_2 E_15 cE_15_0 cE_15_1 cE_15_2 hbM_15 QX_15 QP_15 QY_15 QR_15 Ou_15 Pu_15 Ov_15 Pv_15 Ox_15 Px_15 hbel_15 hB_16
  have Oy_16 := hO
  have ltOy := hO.ltB
  have Py_16 := hO'
  have ltPy := hO'.ltB
  clear hO hO' hD
  try clear hB
  have hbx := blk_new w16 #[Value.bool (qsg ed es), Value.slice ya yn yc, Value.slice yb ym yd] 27
  have hbB := (Below.refl w16.heap.size w16).alloc (Nat.le_refl _) (.cells #[Value.bool (qsg ed es), Value.slice ya yn yc, Value.slice yb ym yd] 27)
  have hltG := hbx.lt
  have hBT : Below w16.heap.size w16 (w16.alloc (.cells #[Value.bool (qsg ed es), Value.slice ya yn yc, Value.slice yb ym yd] 27)) := hbB
  have T_17 := hid (T_16.out.below hBT)
  have hbT_17 := hbT_16.next hBT
  clear T_16 hbT_16 hBT
  have hB_17 : Below w16.heap.size w16 (w16.alloc (.cells #[Value.bool (qsg ed es), Value.slice ya yn yc, Value.slice yb ym yd] 27)) := hbB
  have X_17 := X_16.next hB_17
  have cX_17_0 : _ = some (Value.bool s) := X_17.cell 0
  have fX_17_0 := X_17.free 0
  have cX_17_1 : _ = some (Value.slice a n1 c) := X_17.cell 1
  have fX_17_1 := X_17.free 1
  have cX_17_2 : _ = some (Value.slice b m1 d) := X_17.cell 2
  have fX_17_2 := X_17.free 2
  have Y_17 := Y_16.next hB_17
  have cY_17_0 : _ = some (Value.bool t) := Y_17.cell 0
  have fY_17_0 := Y_17.free 0
  have cY_17_1 : _ = some (Value.slice a' n2 c') := Y_17.cell 1
  have fY_17_1 := Y_17.free 1
  have cY_17_2 : _ = some (Value.slice b' m2 d') := Y_17.cell 2
  have fY_17_2 := Y_17.free 2
  have P_17 := P_16.next hB_17
  have cP_17_0 : _ = some (Value.bool s) := P_17.cell 0
  have cP_17_1 : _ = some (Value.slice pa n1 pc) := P_17.cell 1
  have cP_17_2 : _ = some (Value.slice pb m1 pd) := P_17.cell 2
  have R_17 := R_16.next hB_17
  have cR_17_0 : _ = some (Value.bool t) := R_17.cell 0
  have cR_17_1 : _ = some (Value.slice ra n2 rc) := R_17.cell 1
  have cR_17_2 : _ = some (Value.slice rb m2 rd) := R_17.cell 2
  have U_17 := U_16.next hB_17
  have cU_17_0 : _ = some (Value.bool (qsg en er)) := U_17.cell 0
  have cU_17_1 : _ = some (Value.slice ua un uc) := U_17.cell 1
  have cU_17_2 : _ = some (Value.slice ub um ud) := U_17.cell 2
  have V_17 := V_16.next hB_17
  have cV_17_0 : _ = some (Value.bool (qsg en er)) := V_17.cell 0
  have cV_17_1 : _ = some (Value.slice va vn vc) := V_17.cell 1
  have cV_17_2 : _ = some (Value.slice vb vm vd) := V_17.cell 2
  have E_17 := E_16.next hB_17
  have cE_17_0 : _ = some (Value.bool (qsg ed es)) := E_17.cell 0
  have cE_17_1 : _ = some (Value.slice xa xn xc) := E_17.cell 1
  have cE_17_2 : _ = some (Value.slice xb xm xd) := E_17.cell 2
  have hbM_17 := hbM_16.next hB_17
  have QX_17 := QX_16.below hB_17
  have QP_17 := QP_16.below hB_17
  have QY_17 := QY_16.below hB_17
  have QR_17 := QR_16.below hB_17
  have Ou_17 := Ou_16.below hB_17
  have Pu_17 := Pu_16.below hB_17
  have Ov_17 := Ov_16.below hB_17
  have Pv_17 := Pv_16.below hB_17
  have Ox_17 := Ox_16.below hB_17
  have Px_17 := Px_16.below hB_17
  have Oy_17 := Oy_16.below hB_17
  have Py_17 := Py_16.below hB_17
  have hbel_17 := hbel_16.next hB_17
  have hsz_17 := hB_17.size
  clear hB_17
  have G_17 := hbx
  clear hbx hbB
  have cG_17_0 : _ = some (Value.bool (qsg ed es)) := G_17.cell 0
  have cG_17_1 : _ = some (Value.slice ya yn yc) := G_17.cell 1
  have cG_17_2 : _ = some (Value.slice yb ym yd) := G_17.cell 2
  go_wp2_with fail
  clear X_16 cX_16_0 fX_16_0 cX_16_1 fX_16_1 cX_16_2 fX_16_2 Y_16 cY_16_0 fY_16_0 cY_16_1 fY_16_1 cY_16_2 fY_16_2 P_16 cP_16_0 cP_16_1 cP_16_2 R_16 cR_16_0 cR_16_1 cR_16_2 U_16 cU_16_0 cU_16_1 cU_16_2 V_16 cV_16_0 cV_16_1 cV_16_2 E_16 cE_16_0 cE_16_1 cE_16_2 hbM_16 QX_16 QP_16 QY_16 QR_16 Ou_16 Pu_16 Ov_16 Pv_16 Ox_16 Px_16 Oy_16 Py_16 hbel_16
  generalize (w16.alloc (.cells #[Value.bool (qsg ed es), Value.slice ya yn yc, Value.slice yb ym yd] 27)) = v17 at *
  go_wp2_with fail
  go_region_held3 (fun w' => w'.cell? ⟨w6.heap.size, 0, none⟩ = some (Value.bool s) ∧ w'.cell? ⟨w6.heap.size, 1, none⟩ = some (Value.slice pa n1 pc) ∧ w'.cell? ⟨w6.heap.size, 2, none⟩ = some (Value.slice pb m1 pd) ∧ w'.cell? ⟨w8.heap.size, 0, none⟩ = some (Value.bool t) ∧ w'.cell? ⟨w8.heap.size, 1, none⟩ = some (Value.slice ra n2 rc) ∧ w'.cell? ⟨w8.heap.size, 2, none⟩ = some (Value.slice rb m2 rd) ∧ w'.cell? ⟨w10.heap.size, 0, none⟩ = some (Value.bool (qsg en er)) ∧ w'.cell? ⟨w10.heap.size, 1, none⟩ = some (Value.slice ua un uc) ∧ w'.cell? ⟨w10.heap.size, 2, none⟩ = some (Value.slice ub um ud) ∧ w'.cell? ⟨w14.heap.size, 0, none⟩ = some (Value.bool (qsg ed es)) ∧ w'.cell? ⟨w14.heap.size, 1, none⟩ = some (Value.slice xa xn xc) ∧ w'.cell? ⟨w14.heap.size, 2, none⟩ = some (Value.slice xb xm xd))
    (first | exact ⟨cP_17_0, cP_17_1, cP_17_2, cR_17_0, cR_17_1, cR_17_2, cU_17_0, cU_17_1, cU_17_2, cE_17_0, cE_17_1, cE_17_2⟩ | exact ⟨cP_18_0, cP_18_1, cP_18_2, cR_18_0, cR_18_1, cR_18_2, cU_18_0, cU_18_1, cU_18_2, cE_18_0, cE_18_1, cE_18_2⟩ | exact ⟨cP_19_0, cP_19_1, cP_19_2, cR_19_0, cR_19_1, cR_19_2, cU_19_0, cU_19_1, cU_19_2, cE_19_0, cE_19_1, cE_19_2⟩ | exact ⟨cP_20_0, cP_20_1, cP_20_2, cR_20_0, cR_20_1, cR_20_2, cU_20_0, cU_20_1, cU_20_2, cE_20_0, cE_20_1, cE_20_2⟩ | exact ⟨cP_21_0, cP_21_1, cP_21_2, cR_21_0, cR_21_1, cR_21_2, cU_21_0, cU_21_1, cU_21_2, cE_21_0, cE_21_1, cE_21_2⟩ | exact ⟨cP_22_0, cP_22_1, cP_22_2, cR_22_0, cR_22_1, cR_22_2, cU_22_0, cU_22_1, cU_22_2, cE_22_0, cE_22_1, cE_22_2⟩ | exact ⟨cP_23_0, cP_23_1, cP_23_2, cR_23_0, cR_23_1, cR_23_2, cU_23_0, cU_23_1, cU_23_2, cE_23_0, cE_23_1, cE_23_2⟩ | exact ⟨cP_24_0, cP_24_1, cP_24_2, cR_24_0, cR_24_1, cR_24_2, cU_24_0, cU_24_1, cU_24_2, cE_24_0, cE_24_1, cE_24_2⟩ | exact ⟨cP_25_0, cP_25_1, cP_25_2, cR_25_0, cR_25_1, cR_25_2, cU_25_0, cU_25_1, cU_25_2, cE_25_0, cE_25_1, cE_25_2⟩ | go_keep)
    (first
      | (go_at_call 17; ((with_reducible refine (qneg (QP_17.below (by first | exact Below.refl _ _ | exact (Below.refl _ _).drew | exact (Below.refl _ _).alloc (Nat.le_refl _) _)) (by omega)).mono ?_); (rw [ho1.out]; rintro e w18 ⟨g1a, g1n, g1c, g1b, g1m, g1d, rfl, hO, hO', hD, hB⟩; have hBT : Below v17.heap.size v17 w18 := (by first | exact hB | exact below_drew hB | exact bel_alloc hB); have T_18 := hid (T_17.out.cons2 (by have := hbT_17.size; omega) (show Own v17.heap.size w18 _ _ _ _ from by first | exact hO | exact hO.mono (by simp)) (show Own v17.heap.size w18 _ _ _ _ from by first | exact hO' | exact hO'.mono (by simp)) hD hBT (Nat.le_trans qo1.out.len1 (by omega)) (Nat.le_trans qo1.out.len2 (by omega))); have hbT_18 := hbT_17.next hBT; clear T_17 hbT_17 hBT; have hB_18 : Below v17.heap.size v17 w18 := (by first | exact hB | exact below_drew hB | exact bel_alloc hB); have X_18 := X_17.next hB_18; have cX_18_0 : _ = some (Value.bool s) := X_18.cell 0; have fX_18_0 := X_18.free 0; have cX_18_1 : _ = some (Value.slice a n1 c) := X_18.cell 1; have fX_18_1 := X_18.free 1; have cX_18_2 : _ = some (Value.slice b m1 d) := X_18.cell 2; have fX_18_2 := X_18.free 2; have Y_18 := Y_17.next hB_18; have cY_18_0 : _ = some (Value.bool t) := Y_18.cell 0; have fY_18_0 := Y_18.free 0; have cY_18_1 : _ = some (Value.slice a' n2 c') := Y_18.cell 1; have fY_18_1 := Y_18.free 1; have cY_18_2 : _ = some (Value.slice b' m2 d') := Y_18.cell 2; have fY_18_2 := Y_18.free 2; have P_18 := P_17.next hB_18; have cP_18_0 : _ = some (Value.bool s) := P_18.cell 0; have cP_18_1 : _ = some (Value.slice pa n1 pc) := P_18.cell 1; have cP_18_2 : _ = some (Value.slice pb m1 pd) := P_18.cell 2; have R_18 := R_17.next hB_18; have cR_18_0 : _ = some (Value.bool t) := R_18.cell 0; have cR_18_1 : _ = some (Value.slice ra n2 rc) := R_18.cell 1; have cR_18_2 : _ = some (Value.slice rb m2 rd) := R_18.cell 2; have U_18 := U_17.next hB_18; have cU_18_0 : _ = some (Value.bool (qsg en er)) := U_18.cell 0; have cU_18_1 : _ = some (Value.slice ua un uc) := U_18.cell 1; have cU_18_2 : _ = some (Value.slice ub um ud) := U_18.cell 2; have V_18 := V_17.next hB_18; have cV_18_0 : _ = some (Value.bool (qsg en er)) := V_18.cell 0; have cV_18_1 : _ = some (Value.slice va vn vc) := V_18.cell 1; have cV_18_2 : _ = some (Value.slice vb vm vd) := V_18.cell 2; have E_18 := E_17.next hB_18; have cE_18_0 : _ = some (Value.bool (qsg ed es)) := E_18.cell 0; have cE_18_1 : _ = some (Value.slice xa xn xc) := E_18.cell 1; have cE_18_2 : _ = some (Value.slice xb xm xd) := E_18.cell 2; have G_18 := G_17.next hB_18; have cG_18_0 : _ = some (Value.bool (qsg ed es)) := G_18.cell 0; have cG_18_1 : _ = some (Value.slice ya yn yc) := G_18.cell 1; have cG_18_2 : _ = some (Value.slice yb ym yd) := G_18.cell 2; have hbM_18 := hbM_17.next hB_18; have QX_18 := QX_17.below hB_18; have QP_18 := QP_17.below hB_18; have QY_18 := QY_17.below hB_18; have QR_18 := QR_17.below hB_18; have Ou_18 := Ou_17.below hB_18; have Pu_18 := Pu_17.below hB_18; have Ov_18 := Ov_17.below hB_18; have Pv_18 := Pv_17.below hB_18; have Ox_18 := Ox_17.below hB_18; have Px_18 := Px_17.below hB_18; have Oy_18 := Oy_17.below hB_18; have Py_18 := Py_17.below hB_18; have hbel_18 := hbel_17.next hB_18; have hsz_18 := hB_18.size; clear X_17 cX_17_0 fX_17_0 cX_17_1 fX_17_1 cX_17_2 fX_17_2 Y_17 cY_17_0 fY_17_0 cY_17_1 fY_17_1 cY_17_2 fY_17_2 P_17 cP_17_0 cP_17_1 cP_17_2 R_17 cR_17_0 cR_17_1 cR_17_2 U_17 cU_17_0 cU_17_1 cU_17_2 V_17 cV_17_0 cV_17_1 cV_17_2 E_17 cE_17_0 cE_17_1 cE_17_2 G_17 cG_17_0 cG_17_1 cG_17_2 hbM_17 QX_17 QP_17 QY_17 QR_17 Ou_17 Pu_17 Ov_17 Pv_17 Ox_17 Px_17 Oy_17 Py_17 hbel_17 hB_18; have Og1_18 := hO; have ltOg1 := hO.ltB; have Pg1_18 := hO'; have ltPg1 := hO'.ltB; clear hO hO' hD; try clear hB)))
      | (go_at_call 18; ((with_reducible refine (qadd (QP_18.below (by first | exact Below.refl _ _ | exact (Below.refl _ _).drew | exact (Below.refl _ _).alloc (Nat.le_refl _) _)) (by omega) (QR_18.below (by first | exact Below.refl _ _ | exact (Below.refl _ _).drew | exact (Below.refl _ _).alloc (Nat.le_refl _) _)) (by omega)).mono ?_); (rw [ho2.out]; rintro e w19 ⟨g2a, g2n, g2c, g2b, g2m, g2d, rfl, hO, hO', hD, hB⟩; have hBT : Below w18.heap.size w18 w19 := (by first | exact hB | exact below_drew hB | exact bel_alloc hB); have T_19 := hid (T_18.out.cons2 (by have := hbT_18.size; omega) (show Own w18.heap.size w19 _ _ _ _ from by first | exact hO | exact hO.mono (by simp)) (show Own w18.heap.size w19 _ _ _ _ from by first | exact hO' | exact hO'.mono (by simp)) hD hBT (Nat.le_trans qo2.out.len1 (by omega)) (Nat.le_trans qo2.out.len2 (by omega))); have hbT_19 := hbT_18.next hBT; clear T_18 hbT_18 hBT; have hB_19 : Below w18.heap.size w18 w19 := (by first | exact hB | exact below_drew hB | exact bel_alloc hB); have X_19 := X_18.next hB_19; have cX_19_0 : _ = some (Value.bool s) := X_19.cell 0; have fX_19_0 := X_19.free 0; have cX_19_1 : _ = some (Value.slice a n1 c) := X_19.cell 1; have fX_19_1 := X_19.free 1; have cX_19_2 : _ = some (Value.slice b m1 d) := X_19.cell 2; have fX_19_2 := X_19.free 2; have Y_19 := Y_18.next hB_19; have cY_19_0 : _ = some (Value.bool t) := Y_19.cell 0; have fY_19_0 := Y_19.free 0; have cY_19_1 : _ = some (Value.slice a' n2 c') := Y_19.cell 1; have fY_19_1 := Y_19.free 1; have cY_19_2 : _ = some (Value.slice b' m2 d') := Y_19.cell 2; have fY_19_2 := Y_19.free 2; have P_19 := P_18.next hB_19; have cP_19_0 : _ = some (Value.bool s) := P_19.cell 0; have cP_19_1 : _ = some (Value.slice pa n1 pc) := P_19.cell 1; have cP_19_2 : _ = some (Value.slice pb m1 pd) := P_19.cell 2; have R_19 := R_18.next hB_19; have cR_19_0 : _ = some (Value.bool t) := R_19.cell 0; have cR_19_1 : _ = some (Value.slice ra n2 rc) := R_19.cell 1; have cR_19_2 : _ = some (Value.slice rb m2 rd) := R_19.cell 2; have U_19 := U_18.next hB_19; have cU_19_0 : _ = some (Value.bool (qsg en er)) := U_19.cell 0; have cU_19_1 : _ = some (Value.slice ua un uc) := U_19.cell 1; have cU_19_2 : _ = some (Value.slice ub um ud) := U_19.cell 2; have V_19 := V_18.next hB_19; have cV_19_0 : _ = some (Value.bool (qsg en er)) := V_19.cell 0; have cV_19_1 : _ = some (Value.slice va vn vc) := V_19.cell 1; have cV_19_2 : _ = some (Value.slice vb vm vd) := V_19.cell 2; have E_19 := E_18.next hB_19; have cE_19_0 : _ = some (Value.bool (qsg ed es)) := E_19.cell 0; have cE_19_1 : _ = some (Value.slice xa xn xc) := E_19.cell 1; have cE_19_2 : _ = some (Value.slice xb xm xd) := E_19.cell 2; have G_19 := G_18.next hB_19; have cG_19_0 : _ = some (Value.bool (qsg ed es)) := G_19.cell 0; have cG_19_1 : _ = some (Value.slice ya yn yc) := G_19.cell 1; have cG_19_2 : _ = some (Value.slice yb ym yd) := G_19.cell 2; have hbM_19 := hbM_18.next hB_19; have QX_19 := QX_18.below hB_19; have QP_19 := QP_18.below hB_19; have QY_19 := QY_18.below hB_19; have QR_19 := QR_18.below hB_19; have Ou_19 := Ou_18.below hB_19; have Pu_19 := Pu_18.below hB_19; have Ov_19 := Ov_18.below hB_19; have Pv_19 := Pv_18.below hB_19; have Ox_19 := Ox_18.below hB_19; have Px_19 := Px_18.below hB_19; have Oy_19 := Oy_18.below hB_19; have Py_19 := Py_18.below hB_19; have Og1_19 := Og1_18.below hB_19; have Pg1_19 := Pg1_18.below hB_19; have hbel_19 := hbel_18.next hB_19; have hsz_19 := hB_19.size; clear X_18 cX_18_0 fX_18_0 cX_18_1 fX_18_1 cX_18_2 fX_18_2 Y_18 cY_18_0 fY_18_0 cY_18_1 fY_18_1 cY_18_2 fY_18_2 P_18 cP_18_0 cP_18_1 cP_18_2 R_18 cR_18_0 cR_18_1 cR_18_2 U_18 cU_18_0 cU_18_1 cU_18_2 V_18 cV_18_0 cV_18_1 cV_18_2 E_18 cE_18_0 cE_18_1 cE_18_2 G_18 cG_18_0 cG_18_1 cG_18_2 hbM_18 QX_18 QP_18 QY_18 QR_18 Ou_18 Pu_18 Ov_18 Pv_18 Ox_18 Px_18 Oy_18 Py_18 Og1_18 Pg1_18 hbel_18 hB_19; have Og2_19 := hO; have ltOg2 := hO.ltB; have Pg2_19 := hO'; have ltPg2 := hO'.ltB; clear hO hO' hD; try clear hB)))
      | (go_at_call 19; ((with_reducible refine (qsub (QP_19.below (by first | exact Below.refl _ _ | exact (Below.refl _ _).drew | exact (Below.refl _ _).alloc (Nat.le_refl _) _)) (by omega) (QR_19.below (by first | exact Below.refl _ _ | exact (Below.refl _ _).drew | exact (Below.refl _ _).alloc (Nat.le_refl _) _)) (by omega)).mono ?_); (rw [ho3.out]; rintro e w20 ⟨g3a, g3n, g3c, g3b, g3m, g3d, rfl, hO, hO', hD, hB⟩; have hBT : Below w19.heap.size w19 w20 := (by first | exact hB | exact below_drew hB | exact bel_alloc hB); have T_20 := hid (T_19.out.cons2 (by have := hbT_19.size; omega) (show Own w19.heap.size w20 _ _ _ _ from by first | exact hO | exact hO.mono (by simp)) (show Own w19.heap.size w20 _ _ _ _ from by first | exact hO' | exact hO'.mono (by simp)) hD hBT (Nat.le_trans qo3.out.len1 (by omega)) (Nat.le_trans qo3.out.len2 (by omega))); have hbT_20 := hbT_19.next hBT; clear T_19 hbT_19 hBT; have hB_20 : Below w19.heap.size w19 w20 := (by first | exact hB | exact below_drew hB | exact bel_alloc hB); have X_20 := X_19.next hB_20; have cX_20_0 : _ = some (Value.bool s) := X_20.cell 0; have fX_20_0 := X_20.free 0; have cX_20_1 : _ = some (Value.slice a n1 c) := X_20.cell 1; have fX_20_1 := X_20.free 1; have cX_20_2 : _ = some (Value.slice b m1 d) := X_20.cell 2; have fX_20_2 := X_20.free 2; have Y_20 := Y_19.next hB_20; have cY_20_0 : _ = some (Value.bool t) := Y_20.cell 0; have fY_20_0 := Y_20.free 0; have cY_20_1 : _ = some (Value.slice a' n2 c') := Y_20.cell 1; have fY_20_1 := Y_20.free 1; have cY_20_2 : _ = some (Value.slice b' m2 d') := Y_20.cell 2; have fY_20_2 := Y_20.free 2; have P_20 := P_19.next hB_20; have cP_20_0 : _ = some (Value.bool s) := P_20.cell 0; have cP_20_1 : _ = some (Value.slice pa n1 pc) := P_20.cell 1; have cP_20_2 : _ = some (Value.slice pb m1 pd) := P_20.cell 2; have R_20 := R_19.next hB_20; have cR_20_0 : _ = some (Value.bool t) := R_20.cell 0; have cR_20_1 : _ = some (Value.slice ra n2 rc) := R_20.cell 1; have cR_20_2 : _ = some (Value.slice rb m2 rd) := R_20.cell 2; have U_20 := U_19.next hB_20; have cU_20_0 : _ = some (Value.bool (qsg en er)) := U_20.cell 0; have cU_20_1 : _ = some (Value.slice ua un uc) := U_20.cell 1; have cU_20_2 : _ = some (Value.slice ub um ud) := U_20.cell 2; have V_20 := V_19.next hB_20; have cV_20_0 : _ = some (Value.bool (qsg en er)) := V_20.cell 0; have cV_20_1 : _ = some (Value.slice va vn vc) := V_20.cell 1; have cV_20_2 : _ = some (Value.slice vb vm vd) := V_20.cell 2; have E_20 := E_19.next hB_20; have cE_20_0 : _ = some (Value.bool (qsg ed es)) := E_20.cell 0; have cE_20_1 : _ = some (Value.slice xa xn xc) := E_20.cell 1; have cE_20_2 : _ = some (Value.slice xb xm xd) := E_20.cell 2; have G_20 := G_19.next hB_20; have cG_20_0 : _ = some (Value.bool (qsg ed es)) := G_20.cell 0; have cG_20_1 : _ = some (Value.slice ya yn yc) := G_20.cell 1; have cG_20_2 : _ = some (Value.slice yb ym yd) := G_20.cell 2; have hbM_20 := hbM_19.next hB_20; have QX_20 := QX_19.below hB_20; have QP_20 := QP_19.below hB_20; have QY_20 := QY_19.below hB_20; have QR_20 := QR_19.below hB_20; have Ou_20 := Ou_19.below hB_20; have Pu_20 := Pu_19.below hB_20; have Ov_20 := Ov_19.below hB_20; have Pv_20 := Pv_19.below hB_20; have Ox_20 := Ox_19.below hB_20; have Px_20 := Px_19.below hB_20; have Oy_20 := Oy_19.below hB_20; have Py_20 := Py_19.below hB_20; have Og1_20 := Og1_19.below hB_20; have Pg1_20 := Pg1_19.below hB_20; have Og2_20 := Og2_19.below hB_20; have Pg2_20 := Pg2_19.below hB_20; have hbel_20 := hbel_19.next hB_20; have hsz_20 := hB_20.size; clear X_19 cX_19_0 fX_19_0 cX_19_1 fX_19_1 cX_19_2 fX_19_2 Y_19 cY_19_0 fY_19_0 cY_19_1 fY_19_1 cY_19_2 fY_19_2 P_19 cP_19_0 cP_19_1 cP_19_2 R_19 cR_19_0 cR_19_1 cR_19_2 U_19 cU_19_0 cU_19_1 cU_19_2 V_19 cV_19_0 cV_19_1 cV_19_2 E_19 cE_19_0 cE_19_1 cE_19_2 G_19 cG_19_0 cG_19_1 cG_19_2 hbM_19 QX_19 QP_19 QY_19 QR_19 Ou_19 Pu_19 Ov_19 Pv_19 Ox_19 Px_19 Oy_19 Py_19 Og1_19 Pg1_19 Og2_19 Pg2_19 hbel_19 hB_20; have Og3_20 := hO; have ltOg3 := hO.ltB; have Pg3_20 := hO'; have ltPg3 := hO'.ltB; clear hO hO' hD; try clear hB)))
      | (go_at_call 20; ((with_reducible refine (qmul (QP_20.below (by first | exact Below.refl _ _ | exact (Below.refl _ _).drew | exact (Below.refl _ _).alloc (Nat.le_refl _) _)) (by omega) (QR_20.below (by first | exact Below.refl _ _ | exact (Below.refl _ _).drew | exact (Below.refl _ _).alloc (Nat.le_refl _) _)) (by omega)).mono ?_); (rw [ho4.out]; rintro e w21 ⟨g4a, g4n, g4c, g4b, g4m, g4d, rfl, hO, hO', hD, hB⟩; have hBT : Below w20.heap.size w20 w21 := (by first | exact hB | exact below_drew hB | exact bel_alloc hB); have T_21 := hid (T_20.out.cons2 (by have := hbT_20.size; omega) (show Own w20.heap.size w21 _ _ _ _ from by first | exact hO | exact hO.mono (by simp)) (show Own w20.heap.size w21 _ _ _ _ from by first | exact hO' | exact hO'.mono (by simp)) hD hBT (Nat.le_trans qo4.out.len1 (by omega)) (Nat.le_trans qo4.out.len2 (by omega))); have hbT_21 := hbT_20.next hBT; clear T_20 hbT_20 hBT; have hB_21 : Below w20.heap.size w20 w21 := (by first | exact hB | exact below_drew hB | exact bel_alloc hB); have X_21 := X_20.next hB_21; have cX_21_0 : _ = some (Value.bool s) := X_21.cell 0; have fX_21_0 := X_21.free 0; have cX_21_1 : _ = some (Value.slice a n1 c) := X_21.cell 1; have fX_21_1 := X_21.free 1; have cX_21_2 : _ = some (Value.slice b m1 d) := X_21.cell 2; have fX_21_2 := X_21.free 2; have Y_21 := Y_20.next hB_21; have cY_21_0 : _ = some (Value.bool t) := Y_21.cell 0; have fY_21_0 := Y_21.free 0; have cY_21_1 : _ = some (Value.slice a' n2 c') := Y_21.cell 1; have fY_21_1 := Y_21.free 1; have cY_21_2 : _ = some (Value.slice b' m2 d') := Y_21.cell 2; have fY_21_2 := Y_21.free 2; have P_21 := P_20.next hB_21; have cP_21_0 : _ = some (Value.bool s) := P_21.cell 0; have cP_21_1 : _ = some (Value.slice pa n1 pc) := P_21.cell 1; have cP_21_2 : _ = some (Value.slice pb m1 pd) := P_21.cell 2; have R_21 := R_20.next hB_21; have cR_21_0 : _ = some (Value.bool t) := R_21.cell 0; have cR_21_1 : _ = some (Value.slice ra n2 rc) := R_21.cell 1; have cR_21_2 : _ = some (Value.slice rb m2 rd) := R_21.cell 2; have U_21 := U_20.next hB_21; have cU_21_0 : _ = some (Value.bool (qsg en er)) := U_21.cell 0; have cU_21_1 : _ = some (Value.slice ua un uc) := U_21.cell 1; have cU_21_2 : _ = some (Value.slice ub um ud) := U_21.cell 2; have V_21 := V_20.next hB_21; have cV_21_0 : _ = some (Value.bool (qsg en er)) := V_21.cell 0; have cV_21_1 : _ = some (Value.slice va vn vc) := V_21.cell 1; have cV_21_2 : _ = some (Value.slice vb vm vd) := V_21.cell 2; have E_21 := E_20.next hB_21; have cE_21_0 : _ = some (Value.bool (qsg ed es)) := E_21.cell 0; have cE_21_1 : _ = some (Value.slice xa xn xc) := E_21.cell 1; have cE_21_2 : _ = some (Value.slice xb xm xd) := E_21.cell 2; have G_21 := G_20.next hB_21; have cG_21_0 : _ = some (Value.bool (qsg ed es)) := G_21.cell 0; have cG_21_1 : _ = some (Value.slice ya yn yc) := G_21.cell 1; have cG_21_2 : _ = some (Value.slice yb ym yd) := G_21.cell 2; have hbM_21 := hbM_20.next hB_21; have QX_21 := QX_20.below hB_21; have QP_21 := QP_20.below hB_21; have QY_21 := QY_20.below hB_21; have QR_21 := QR_20.below hB_21; have Ou_21 := Ou_20.below hB_21; have Pu_21 := Pu_20.below hB_21; have Ov_21 := Ov_20.below hB_21; have Pv_21 := Pv_20.below hB_21; have Ox_21 := Ox_20.below hB_21; have Px_21 := Px_20.below hB_21; have Oy_21 := Oy_20.below hB_21; have Py_21 := Py_20.below hB_21; have Og1_21 := Og1_20.below hB_21; have Pg1_21 := Pg1_20.below hB_21; have Og2_21 := Og2_20.below hB_21; have Pg2_21 := Pg2_20.below hB_21; have Og3_21 := Og3_20.below hB_21; have Pg3_21 := Pg3_20.below hB_21; have hbel_21 := hbel_20.next hB_21; have hsz_21 := hB_21.size; clear X_20 cX_20_0 fX_20_0 cX_20_1 fX_20_1 cX_20_2 fX_20_2 Y_20 cY_20_0 fY_20_0 cY_20_1 fY_20_1 cY_20_2 fY_20_2 P_20 cP_20_0 cP_20_1 cP_20_2 R_20 cR_20_0 cR_20_1 cR_20_2 U_20 cU_20_0 cU_20_1 cU_20_2 V_20 cV_20_0 cV_20_1 cV_20_2 E_20 cE_20_0 cE_20_1 cE_20_2 G_20 cG_20_0 cG_20_1 cG_20_2 hbM_20 QX_20 QP_20 QY_20 QR_20 Ou_20 Pu_20 Ov_20 Pv_20 Ox_20 Px_20 Oy_20 Py_20 Og1_20 Pg1_20 Og2_20 Pg2_20 Og3_20 Pg3_20 hbel_20 hB_21; have Og4_21 := hO; have ltOg4 := hO.ltB; have Pg4_21 := hO'; have ltPg4 := hO'.ltB; clear hO hO' hD; try clear hB)))
      | (go_at_call 18; ((with_reducible refine (qadd (QR_21.below (by first | exact Below.refl _ _ | exact (Below.refl _ _).drew | exact (Below.refl _ _).alloc (Nat.le_refl _) _)) (by omega) (QP_21.below (by first | exact Below.refl _ _ | exact (Below.refl _ _).drew | exact (Below.refl _ _).alloc (Nat.le_refl _) _)) (by omega)).mono ?_); (rw [ho5.out]; rintro e w22 ⟨g5a, g5n, g5c, g5b, g5m, g5d, rfl, hO, hO', hD, hB⟩; have hBT : Below w21.heap.size w21 w22 := (by first | exact hB | exact below_drew hB | exact bel_alloc hB); have T_22 := hid (T_21.out.cons2 (by have := hbT_21.size; omega) (show Own w21.heap.size w22 _ _ _ _ from by first | exact hO | exact hO.mono (by simp)) (show Own w21.heap.size w22 _ _ _ _ from by first | exact hO' | exact hO'.mono (by simp)) hD hBT (Nat.le_trans qo5.out.len1 (by omega)) (Nat.le_trans qo5.out.len2 (by omega))); have hbT_22 := hbT_21.next hBT; clear T_21 hbT_21 hBT; have hB_22 : Below w21.heap.size w21 w22 := (by first | exact hB | exact below_drew hB | exact bel_alloc hB); have X_22 := X_21.next hB_22; have cX_22_0 : _ = some (Value.bool s) := X_22.cell 0; have fX_22_0 := X_22.free 0; have cX_22_1 : _ = some (Value.slice a n1 c) := X_22.cell 1; have fX_22_1 := X_22.free 1; have cX_22_2 : _ = some (Value.slice b m1 d) := X_22.cell 2; have fX_22_2 := X_22.free 2; have Y_22 := Y_21.next hB_22; have cY_22_0 : _ = some (Value.bool t) := Y_22.cell 0; have fY_22_0 := Y_22.free 0; have cY_22_1 : _ = some (Value.slice a' n2 c') := Y_22.cell 1; have fY_22_1 := Y_22.free 1; have cY_22_2 : _ = some (Value.slice b' m2 d') := Y_22.cell 2; have fY_22_2 := Y_22.free 2; have P_22 := P_21.next hB_22; have cP_22_0 : _ = some (Value.bool s) := P_22.cell 0; have cP_22_1 : _ = some (Value.slice pa n1 pc) := P_22.cell 1; have cP_22_2 : _ = some (Value.slice pb m1 pd) := P_22.cell 2; have R_22 := R_21.next hB_22; have cR_22_0 : _ = some (Value.bool t) := R_22.cell 0; have cR_22_1 : _ = some (Value.slice ra n2 rc) := R_22.cell 1; have cR_22_2 : _ = some (Value.slice rb m2 rd) := R_22.cell 2; have U_22 := U_21.next hB_22; have cU_22_0 : _ = some (Value.bool (qsg en er)) := U_22.cell 0; have cU_22_1 : _ = some (Value.slice ua un uc) := U_22.cell 1; have cU_22_2 : _ = some (Value.slice ub um ud) := U_22.cell 2; have V_22 := V_21.next hB_22; have cV_22_0 : _ = some (Value.bool (qsg en er)) := V_22.cell 0; have cV_22_1 : _ = some (Value.slice va vn vc) := V_22.cell 1; have cV_22_2 : _ = some (Value.slice vb vm vd) := V_22.cell 2; have E_22 := E_21.next hB_22; have cE_22_0 : _ = some (Value.bool (qsg ed es)) := E_22.cell 0; have cE_22_1 : _ = some (Value.slice xa xn xc) := E_22.cell 1; have cE_22_2 : _ = some (Value.slice xb xm xd) := E_22.cell 2; have G_22 := G_21.next hB_22; have cG_22_0 : _ = some (Value.bool (qsg ed es)) := G_22.cell 0; have cG_22_1 : _ = some (Value.slice ya yn yc) := G_22.cell 1; have cG_22_2 : _ = some (Value.slice yb ym yd) := G_22.cell 2; have hbM_22 := hbM_21.next hB_22; have QX_22 := QX_21.below hB_22; have QP_22 := QP_21.below hB_22; have QY_22 := QY_21.below hB_22; have QR_22 := QR_21.below hB_22; have Ou_22 := Ou_21.below hB_22; have Pu_22 := Pu_21.below hB_22; have Ov_22 := Ov_21.below hB_22; have Pv_22 := Pv_21.below hB_22; have Ox_22 := Ox_21.below hB_22; have Px_22 := Px_21.below hB_22; have Oy_22 := Oy_21.below hB_22; have Py_22 := Py_21.below hB_22; have Og1_22 := Og1_21.below hB_22; have Pg1_22 := Pg1_21.below hB_22; have Og2_22 := Og2_21.below hB_22; have Pg2_22 := Pg2_21.below hB_22; have Og3_22 := Og3_21.below hB_22; have Pg3_22 := Pg3_21.below hB_22; have Og4_22 := Og4_21.below hB_22; have Pg4_22 := Pg4_21.below hB_22; have hbel_22 := hbel_21.next hB_22; have hsz_22 := hB_22.size; clear X_21 cX_21_0 fX_21_0 cX_21_1 fX_21_1 cX_21_2 fX_21_2 Y_21 cY_21_0 fY_21_0 cY_21_1 fY_21_1 cY_21_2 fY_21_2 P_21 cP_21_0 cP_21_1 cP_21_2 R_21 cR_21_0 cR_21_1 cR_21_2 U_21 cU_21_0 cU_21_1 cU_21_2 V_21 cV_21_0 cV_21_1 cV_21_2 E_21 cE_21_0 cE_21_1 cE_21_2 G_21 cG_21_0 cG_21_1 cG_21_2 hbM_21 QX_21 QP_21 QY_21 QR_21 Ou_21 Pu_21 Ov_21 Pv_21 Ox_21 Px_21 Oy_21 Py_21 Og1_21 Pg1_21 Og2_21 Pg2_21 Og3_21 Pg3_21 Og4_21 Pg4_21 hbel_21 hB_22; have Og5_22 := hO; have ltOg5 := hO.ltB; have Pg5_22 := hO'; have ltPg5 := hO'.ltB; clear hO hO' hD; try clear hB)))
      | (go_at_call 17; ((with_reducible refine (qneg (QR_22.below (by first | exact Below.refl _ _ | exact (Below.refl _ _).drew | exact (Below.refl _ _).alloc (Nat.le_refl _) _)) (by omega)).mono ?_); (rw [ho6.out]; rintro e w23 ⟨g6a, g6n, g6c, g6b, g6m, g6d, rfl, hO, hO', hD, hB⟩; have hBT : Below w22.heap.size w22 w23 := (by first | exact hB | exact below_drew hB | exact bel_alloc hB); have T_23 := hid (T_22.out.cons2 (by have := hbT_22.size; omega) (show Own w22.heap.size w23 _ _ _ _ from by first | exact hO | exact hO.mono (by simp)) (show Own w22.heap.size w23 _ _ _ _ from by first | exact hO' | exact hO'.mono (by simp)) hD hBT (Nat.le_trans qo6.out.len1 (by omega)) (Nat.le_trans qo6.out.len2 (by omega))); have hbT_23 := hbT_22.next hBT; clear T_22 hbT_22 hBT; have hB_23 : Below w22.heap.size w22 w23 := (by first | exact hB | exact below_drew hB | exact bel_alloc hB); have X_23 := X_22.next hB_23; have cX_23_0 : _ = some (Value.bool s) := X_23.cell 0; have fX_23_0 := X_23.free 0; have cX_23_1 : _ = some (Value.slice a n1 c) := X_23.cell 1; have fX_23_1 := X_23.free 1; have cX_23_2 : _ = some (Value.slice b m1 d) := X_23.cell 2; have fX_23_2 := X_23.free 2; have Y_23 := Y_22.next hB_23; have cY_23_0 : _ = some (Value.bool t) := Y_23.cell 0; have fY_23_0 := Y_23.free 0; have cY_23_1 : _ = some (Value.slice a' n2 c') := Y_23.cell 1; have fY_23_1 := Y_23.free 1; have cY_23_2 : _ = some (Value.slice b' m2 d') := Y_23.cell 2; have fY_23_2 := Y_23.free 2; have P_23 := P_22.next hB_23; have cP_23_0 : _ = some (Value.bool s) := P_23.cell 0; have cP_23_1 : _ = some (Value.slice pa n1 pc) := P_23.cell 1; have cP_23_2 : _ = some (Value.slice pb m1 pd) := P_23.cell 2; have R_23 := R_22.next hB_23; have cR_23_0 : _ = some (Value.bool t) := R_23.cell 0; have cR_23_1 : _ = some (Value.slice ra n2 rc) := R_23.cell 1; have cR_23_2 : _ = some (Value.slice rb m2 rd) := R_23.cell 2; have U_23 := U_22.next hB_23; have cU_23_0 : _ = some (Value.bool (qsg en er)) := U_23.cell 0; have cU_23_1 : _ = some (Value.slice ua un uc) := U_23.cell 1; have cU_23_2 : _ = some (Value.slice ub um ud) := U_23.cell 2; have V_23 := V_22.next hB_23; have cV_23_0 : _ = some (Value.bool (qsg en er)) := V_23.cell 0; have cV_23_1 : _ = some (Value.slice va vn vc) := V_23.cell 1; have cV_23_2 : _ = some (Value.slice vb vm vd) := V_23.cell 2; have E_23 := E_22.next hB_23; have cE_23_0 : _ = some (Value.bool (qsg ed es)) := E_23.cell 0; have cE_23_1 : _ = some (Value.slice xa xn xc) := E_23.cell 1; have cE_23_2 : _ = some (Value.slice xb xm xd) := E_23.cell 2; have G_23 := G_22.next hB_23; have cG_23_0 : _ = some (Value.bool (qsg ed es)) := G_23.cell 0; have cG_23_1 : _ = some (Value.slice ya yn yc) := G_23.cell 1; have cG_23_2 : _ = some (Value.slice yb ym yd) := G_23.cell 2; have hbM_23 := hbM_22.next hB_23; have QX_23 := QX_22.below hB_23; have QP_23 := QP_22.below hB_23; have QY_23 := QY_22.below hB_23; have QR_23 := QR_22.below hB_23; have Ou_23 := Ou_22.below hB_23; have Pu_23 := Pu_22.below hB_23; have Ov_23 := Ov_22.below hB_23; have Pv_23 := Pv_22.below hB_23; have Ox_23 := Ox_22.below hB_23; have Px_23 := Px_22.below hB_23; have Oy_23 := Oy_22.below hB_23; have Py_23 := Py_22.below hB_23; have Og1_23 := Og1_22.below hB_23; have Pg1_23 := Pg1_22.below hB_23; have Og2_23 := Og2_22.below hB_23; have Pg2_23 := Pg2_22.below hB_23; have Og3_23 := Og3_22.below hB_23; have Pg3_23 := Pg3_22.below hB_23; have Og4_23 := Og4_22.below hB_23; have Pg4_23 := Pg4_22.below hB_23; have Og5_23 := Og5_22.below hB_23; have Pg5_23 := Pg5_22.below hB_23; have hbel_23 := hbel_22.next hB_23; have hsz_23 := hB_23.size; clear X_22 cX_22_0 fX_22_0 cX_22_1 fX_22_1 cX_22_2 fX_22_2 Y_22 cY_22_0 fY_22_0 cY_22_1 fY_22_1 cY_22_2 fY_22_2 P_22 cP_22_0 cP_22_1 cP_22_2 R_22 cR_22_0 cR_22_1 cR_22_2 U_22 cU_22_0 cU_22_1 cU_22_2 V_22 cV_22_0 cV_22_1 cV_22_2 E_22 cE_22_0 cE_22_1 cE_22_2 G_22 cG_22_0 cG_22_1 cG_22_2 hbM_22 QX_22 QP_22 QY_22 QR_22 Ou_22 Pu_22 Ov_22 Pv_22 Ox_22 Px_22 Oy_22 Py_22 Og1_22 Pg1_22 Og2_22 Pg2_22 Og3_22 Pg3_22 Og4_22 Pg4_22 Og5_22 Pg5_22 hbel_22 hB_23; have Og6_23 := hO; have ltOg6 := hO.ltB; have Pg6_23 := hO'; have ltPg6 := hO'.ltB; clear hO hO' hD; try clear hB)))
      | (go_at_call 20; ((with_reducible refine (qmul (QR_23.below (by first | exact Below.refl _ _ | exact (Below.refl _ _).drew | exact (Below.refl _ _).alloc (Nat.le_refl _) _)) (by omega) (QP_23.below (by first | exact Below.refl _ _ | exact (Below.refl _ _).drew | exact (Below.refl _ _).alloc (Nat.le_refl _) _)) (by omega)).mono ?_); (rw [ho7.out]; rintro e w24 ⟨g7a, g7n, g7c, g7b, g7m, g7d, rfl, hO, hO', hD, hB⟩; have hBT : Below w23.heap.size w23 w24 := (by first | exact hB | exact below_drew hB | exact bel_alloc hB); have T_24 := hid (T_23.out.cons2 (by have := hbT_23.size; omega) (show Own w23.heap.size w24 _ _ _ _ from by first | exact hO | exact hO.mono (by simp)) (show Own w23.heap.size w24 _ _ _ _ from by first | exact hO' | exact hO'.mono (by simp)) hD hBT (Nat.le_trans qo7.out.len1 (by omega)) (Nat.le_trans qo7.out.len2 (by omega))); have hbT_24 := hbT_23.next hBT; clear T_23 hbT_23 hBT; have hB_24 : Below w23.heap.size w23 w24 := (by first | exact hB | exact below_drew hB | exact bel_alloc hB); have X_24 := X_23.next hB_24; have cX_24_0 : _ = some (Value.bool s) := X_24.cell 0; have fX_24_0 := X_24.free 0; have cX_24_1 : _ = some (Value.slice a n1 c) := X_24.cell 1; have fX_24_1 := X_24.free 1; have cX_24_2 : _ = some (Value.slice b m1 d) := X_24.cell 2; have fX_24_2 := X_24.free 2; have Y_24 := Y_23.next hB_24; have cY_24_0 : _ = some (Value.bool t) := Y_24.cell 0; have fY_24_0 := Y_24.free 0; have cY_24_1 : _ = some (Value.slice a' n2 c') := Y_24.cell 1; have fY_24_1 := Y_24.free 1; have cY_24_2 : _ = some (Value.slice b' m2 d') := Y_24.cell 2; have fY_24_2 := Y_24.free 2; have P_24 := P_23.next hB_24; have cP_24_0 : _ = some (Value.bool s) := P_24.cell 0; have cP_24_1 : _ = some (Value.slice pa n1 pc) := P_24.cell 1; have cP_24_2 : _ = some (Value.slice pb m1 pd) := P_24.cell 2; have R_24 := R_23.next hB_24; have cR_24_0 : _ = some (Value.bool t) := R_24.cell 0; have cR_24_1 : _ = some (Value.slice ra n2 rc) := R_24.cell 1; have cR_24_2 : _ = some (Value.slice rb m2 rd) := R_24.cell 2; have U_24 := U_23.next hB_24; have cU_24_0 : _ = some (Value.bool (qsg en er)) := U_24.cell 0; have cU_24_1 : _ = some (Value.slice ua un uc) := U_24.cell 1; have cU_24_2 : _ = some (Value.slice ub um ud) := U_24.cell 2; have V_24 := V_23.next hB_24; have cV_24_0 : _ = some (Value.bool (qsg en er)) := V_24.cell 0; have cV_24_1 : _ = some (Value.slice va vn vc) := V_24.cell 1; have cV_24_2 : _ = some (Value.slice vb vm vd) := V_24.cell 2; have E_24 := E_23.next hB_24; have cE_24_0 : _ = some (Value.bool (qsg ed es)) := E_24.cell 0; have cE_24_1 : _ = some (Value.slice xa xn xc) := E_24.cell 1; have cE_24_2 : _ = some (Value.slice xb xm xd) := E_24.cell 2; have G_24 := G_23.next hB_24; have cG_24_0 : _ = some (Value.bool (qsg ed es)) := G_24.cell 0; have cG_24_1 : _ = some (Value.slice ya yn yc) := G_24.cell 1; have cG_24_2 : _ = some (Value.slice yb ym yd) := G_24.cell 2; have hbM_24 := hbM_23.next hB_24; have QX_24 := QX_23.below hB_24; have QP_24 := QP_23.below hB_24; have QY_24 := QY_23.below hB_24; have QR_24 := QR_23.below hB_24; have Ou_24 := Ou_23.below hB_24; have Pu_24 := Pu_23.below hB_24; have Ov_24 := Ov_23.below hB_24; have Pv_24 := Pv_23.below hB_24; have Ox_24 := Ox_23.below hB_24; have Px_24 := Px_23.below hB_24; have Oy_24 := Oy_23.below hB_24; have Py_24 := Py_23.below hB_24; have Og1_24 := Og1_23.below hB_24; have Pg1_24 := Pg1_23.below hB_24; have Og2_24 := Og2_23.below hB_24; have Pg2_24 := Pg2_23.below hB_24; have Og3_24 := Og3_23.below hB_24; have Pg3_24 := Pg3_23.below hB_24; have Og4_24 := Og4_23.below hB_24; have Pg4_24 := Pg4_23.below hB_24; have Og5_24 := Og5_23.below hB_24; have Pg5_24 := Pg5_23.below hB_24; have Og6_24 := Og6_23.below hB_24; have Pg6_24 := Pg6_23.below hB_24; have hbel_24 := hbel_23.next hB_24; have hsz_24 := hB_24.size; clear X_23 cX_23_0 fX_23_0 cX_23_1 fX_23_1 cX_23_2 fX_23_2 Y_23 cY_23_0 fY_23_0 cY_23_1 fY_23_1 cY_23_2 fY_23_2 P_23 cP_23_0 cP_23_1 cP_23_2 R_23 cR_23_0 cR_23_1 cR_23_2 U_23 cU_23_0 cU_23_1 cU_23_2 V_23 cV_23_0 cV_23_1 cV_23_2 E_23 cE_23_0 cE_23_1 cE_23_2 G_23 cG_23_0 cG_23_1 cG_23_2 hbM_23 QX_23 QP_23 QY_23 QR_23 Ou_23 Pu_23 Ov_23 Pv_23 Ox_23 Px_23 Oy_23 Py_23 Og1_23 Pg1_23 Og2_23 Pg2_23 Og3_23 Pg3_23 Og4_23 Pg4_23 Og5_23 Pg5_23 Og6_23 Pg6_23 hbel_23 hB_24; have Og7_24 := hO; have ltOg7 := hO.ltB; have Pg7_24 := hO'; have ltPg7 := hO'.ltB; clear hO hO' hD; try clear hB)))
      | (go_at_call 19; ((with_reducible refine (qsub (QR_24.below (by first | exact Below.refl _ _ | exact (Below.refl _ _).drew | exact (Below.refl _ _).alloc (Nat.le_refl _) _)) (by omega) (QR_24.below (by first | exact Below.refl _ _ | exact (Below.refl _ _).drew | exact (Below.refl _ _).alloc (Nat.le_refl _) _)) (by omega)).mono ?_); (rw [ho8.out]; rintro e w25 ⟨g8a, g8n, g8c, g8b, g8m, g8d, rfl, hO, hO', hD, hB⟩; have hBT : Below w24.heap.size w24 w25 := (by first | exact hB | exact below_drew hB | exact bel_alloc hB); have T_25 := hid (T_24.out.cons2 (by have := hbT_24.size; omega) (show Own w24.heap.size w25 _ _ _ _ from by first | exact hO | exact hO.mono (by simp)) (show Own w24.heap.size w25 _ _ _ _ from by first | exact hO' | exact hO'.mono (by simp)) hD hBT (Nat.le_trans qo8.out.len1 (by omega)) (Nat.le_trans qo8.out.len2 (by omega))); have hbT_25 := hbT_24.next hBT; clear T_24 hbT_24 hBT; have hB_25 : Below w24.heap.size w24 w25 := (by first | exact hB | exact below_drew hB | exact bel_alloc hB); have X_25 := X_24.next hB_25; have cX_25_0 : _ = some (Value.bool s) := X_25.cell 0; have fX_25_0 := X_25.free 0; have cX_25_1 : _ = some (Value.slice a n1 c) := X_25.cell 1; have fX_25_1 := X_25.free 1; have cX_25_2 : _ = some (Value.slice b m1 d) := X_25.cell 2; have fX_25_2 := X_25.free 2; have Y_25 := Y_24.next hB_25; have cY_25_0 : _ = some (Value.bool t) := Y_25.cell 0; have fY_25_0 := Y_25.free 0; have cY_25_1 : _ = some (Value.slice a' n2 c') := Y_25.cell 1; have fY_25_1 := Y_25.free 1; have cY_25_2 : _ = some (Value.slice b' m2 d') := Y_25.cell 2; have fY_25_2 := Y_25.free 2; have P_25 := P_24.next hB_25; have cP_25_0 : _ = some (Value.bool s) := P_25.cell 0; have cP_25_1 : _ = some (Value.slice pa n1 pc) := P_25.cell 1; have cP_25_2 : _ = some (Value.slice pb m1 pd) := P_25.cell 2; have R_25 := R_24.next hB_25; have cR_25_0 : _ = some (Value.bool t) := R_25.cell 0; have cR_25_1 : _ = some (Value.slice ra n2 rc) := R_25.cell 1; have cR_25_2 : _ = some (Value.slice rb m2 rd) := R_25.cell 2; have U_25 := U_24.next hB_25; have cU_25_0 : _ = some (Value.bool (qsg en er)) := U_25.cell 0; have cU_25_1 : _ = some (Value.slice ua un uc) := U_25.cell 1; have cU_25_2 : _ = some (Value.slice ub um ud) := U_25.cell 2; have V_25 := V_24.next hB_25; have cV_25_0 : _ = some (Value.bool (qsg en er)) := V_25.cell 0; have cV_25_1 : _ = some (Value.slice va vn vc) := V_25.cell 1; have cV_25_2 : _ = some (Value.slice vb vm vd) := V_25.cell 2; have E_25 := E_24.next hB_25; have cE_25_0 : _ = some (Value.bool (qsg ed es)) := E_25.cell 0; have cE_25_1 : _ = some (Value.slice xa xn xc) := E_25.cell 1; have cE_25_2 : _ = some (Value.slice xb xm xd) := E_25.cell 2; have G_25 := G_24.next hB_25; have cG_25_0 : _ = some (Value.bool (qsg ed es)) := G_25.cell 0; have cG_25_1 : _ = some (Value.slice ya yn yc) := G_25.cell 1; have cG_25_2 : _ = some (Value.slice yb ym yd) := G_25.cell 2; have hbM_25 := hbM_24.next hB_25; have QX_25 := QX_24.below hB_25; have QP_25 := QP_24.below hB_25; have QY_25 := QY_24.below hB_25; have QR_25 := QR_24.below hB_25; have Ou_25 := Ou_24.below hB_25; have Pu_25 := Pu_24.below hB_25; have Ov_25 := Ov_24.below hB_25; have Pv_25 := Pv_24.below hB_25; have Ox_25 := Ox_24.below hB_25; have Px_25 := Px_24.below hB_25; have Oy_25 := Oy_24.below hB_25; have Py_25 := Py_24.below hB_25; have Og1_25 := Og1_24.below hB_25; have Pg1_25 := Pg1_24.below hB_25; have Og2_25 := Og2_24.below hB_25; have Pg2_25 := Pg2_24.below hB_25; have Og3_25 := Og3_24.below hB_25; have Pg3_25 := Pg3_24.below hB_25; have Og4_25 := Og4_24.below hB_25; have Pg4_25 := Pg4_24.below hB_25; have Og5_25 := Og5_24.below hB_25; have Pg5_25 := Pg5_24.below hB_25; have Og6_25 := Og6_24.below hB_25; have Pg6_25 := Pg6_24.below hB_25; have Og7_25 := Og7_24.below hB_25; have Pg7_25 := Pg7_24.below hB_25; have hbel_25 := hbel_24.next hB_25; have hsz_25 := hB_25.size; clear X_24 cX_24_0 fX_24_0 cX_24_1 fX_24_1 cX_24_2 fX_24_2 Y_24 cY_24_0 fY_24_0 cY_24_1 fY_24_1 cY_24_2 fY_24_2 P_24 cP_24_0 cP_24_1 cP_24_2 R_24 cR_24_0 cR_24_1 cR_24_2 U_24 cU_24_0 cU_24_1 cU_24_2 V_24 cV_24_0 cV_24_1 cV_24_2 E_24 cE_24_0 cE_24_1 cE_24_2 G_24 cG_24_0 cG_24_1 cG_24_2 hbM_24 QX_24 QP_24 QY_24 QR_24 Ou_24 Pu_24 Ov_24 Pv_24 Ox_24 Px_24 Oy_24 Py_24 Og1_24 Pg1_24 Og2_24 Pg2_24 Og3_24 Pg3_24 Og4_24 Pg4_24 Og5_24 Pg5_24 Og6_24 Pg6_24 Og7_24 Pg7_24 hbel_24 hB_25; have Og8_25 := hO; have ltOg8 := hO.ltB; have Pg8_25 := hO'; have ltPg8 := hO'.ltB; clear hO hO' hD; try clear hB))))
  have hbx := blk_new w25 #[Value.bool (qsg en er), Value.slice ua un uc, Value.slice ub um ud, Value.bool (decide ((o1).num < 0)), Value.slice g1a g1n g1c, Value.slice g1b g1m g1d, Value.bool (decide ((o2).num < 0)), Value.slice g2a g2n g2c, Value.slice g2b g2m g2d, Value.bool (decide ((o3).num < 0)), Value.slice g3a g3n g3c, Value.slice g3b g3m g3d, Value.bool (decide ((o4).num < 0)), Value.slice g4a g4n g4c, Value.slice g4b g4m g4d, Value.bool (qsg ed es), Value.slice xa xn xc, Value.slice xb xm xd, Value.bool (decide ((o5).num < 0)), Value.slice g5a g5n g5c, Value.slice g5b g5m g5d, Value.bool (decide ((o6).num < 0)), Value.slice g6a g6n g6c, Value.slice g6b g6m g6d, Value.bool (decide ((o7).num < 0)), Value.slice g7a g7n g7c, Value.slice g7b g7m g7d, Value.bool (decide ((o8).num < 0)), Value.slice g8a g8n g8c, Value.slice g8b g8m g8d] 27
  have hbB := (Below.refl w25.heap.size w25).alloc (Nat.le_refl _) (.cells #[Value.bool (qsg en er), Value.slice ua un uc, Value.slice ub um ud, Value.bool (decide ((o1).num < 0)), Value.slice g1a g1n g1c, Value.slice g1b g1m g1d, Value.bool (decide ((o2).num < 0)), Value.slice g2a g2n g2c, Value.slice g2b g2m g2d, Value.bool (decide ((o3).num < 0)), Value.slice g3a g3n g3c, Value.slice g3b g3m g3d, Value.bool (decide ((o4).num < 0)), Value.slice g4a g4n g4c, Value.slice g4b g4m g4d, Value.bool (qsg ed es), Value.slice xa xn xc, Value.slice xb xm xd, Value.bool (decide ((o5).num < 0)), Value.slice g5a g5n g5c, Value.slice g5b g5m g5d, Value.bool (decide ((o6).num < 0)), Value.slice g6a g6n g6c, Value.slice g6b g6m g6d, Value.bool (decide ((o7).num < 0)), Value.slice g7a g7n g7c, Value.slice g7b g7m g7d, Value.bool (decide ((o8).num < 0)), Value.slice g8a g8n g8c, Value.slice g8b g8m g8d] 27)
  have hltGOT := hbx.lt
  have hBT : Below w25.heap.size w25 (w25.alloc (.cells #[Value.bool (qsg en er), Value.slice ua un uc, Value.slice ub um ud, Value.bool (decide ((o1).num < 0)), Value.slice g1a g1n g1c, Value.slice g1b g1m g1d, Value.bool (decide ((o2).num < 0)), Value.slice g2a g2n g2c, Value.slice g2b g2m g2d, Value.bool (decide ((o3).num < 0)), Value.slice g3a g3n g3c, Value.slice g3b g3m g3d, Value.bool (decide ((o4).num < 0)), Value.slice g4a g4n g4c, Value.slice g4b g4m g4d, Value.bool (qsg ed es), Value.slice xa xn xc, Value.slice xb xm xd, Value.bool (decide ((o5).num < 0)), Value.slice g5a g5n g5c, Value.slice g5b g5m g5d, Value.bool (decide ((o6).num < 0)), Value.slice g6a g6n g6c, Value.slice g6b g6m g6d, Value.bool (decide ((o7).num < 0)), Value.slice g7a g7n g7c, Value.slice g7b g7m g7d, Value.bool (decide ((o8).num < 0)), Value.slice g8a g8n g8c, Value.slice g8b g8m g8d] 27)) := hbB
  have T_26 := hid (T_25.out.below hBT)
  have hbT_26 := hbT_25.next hBT
  clear T_25 hbT_25 hBT
  have hB_26 : Below w25.heap.size w25 (w25.alloc (.cells #[Value.bool (qsg en er), Value.slice ua un uc, Value.slice ub um ud, Value.bool (decide ((o1).num < 0)), Value.slice g1a g1n g1c, Value.slice g1b g1m g1d, Value.bool (decide ((o2).num < 0)), Value.slice g2a g2n g2c, Value.slice g2b g2m g2d, Value.bool (decide ((o3).num < 0)), Value.slice g3a g3n g3c, Value.slice g3b g3m g3d, Value.bool (decide ((o4).num < 0)), Value.slice g4a g4n g4c, Value.slice g4b g4m g4d, Value.bool (qsg ed es), Value.slice xa xn xc, Value.slice xb xm xd, Value.bool (decide ((o5).num < 0)), Value.slice g5a g5n g5c, Value.slice g5b g5m g5d, Value.bool (decide ((o6).num < 0)), Value.slice g6a g6n g6c, Value.slice g6b g6m g6d, Value.bool (decide ((o7).num < 0)), Value.slice g7a g7n g7c, Value.slice g7b g7m g7d, Value.bool (decide ((o8).num < 0)), Value.slice g8a g8n g8c, Value.slice g8b g8m g8d] 27)) := hbB
  have X_26 := X_25.next hB_26
  have cX_26_0 : _ = some (Value.bool s) := X_26.cell 0
  have fX_26_0 := X_26.free 0
  have cX_26_1 : _ = some (Value.slice a n1 c) := X_26.cell 1
  have fX_26_1 := X_26.free 1
  have cX_26_2 : _ = some (Value.slice b m1 d) := X_26.cell 2
  have fX_26_2 := X_26.free 2
  have Y_26 := Y_25.next hB_26
  have cY_26_0 : _ = some (Value.bool t) := Y_26.cell 0
  have fY_26_0 := Y_26.free 0
  have cY_26_1 : _ = some (Value.slice a' n2 c') := Y_26.cell 1
  have fY_26_1 := Y_26.free 1
  have cY_26_2 : _ = some (Value.slice b' m2 d') := Y_26.cell 2
  have fY_26_2 := Y_26.free 2
  have P_26 := P_25.next hB_26
  have cP_26_0 : _ = some (Value.bool s) := P_26.cell 0
  have cP_26_1 : _ = some (Value.slice pa n1 pc) := P_26.cell 1
  have cP_26_2 : _ = some (Value.slice pb m1 pd) := P_26.cell 2
  have R_26 := R_25.next hB_26
  have cR_26_0 : _ = some (Value.bool t) := R_26.cell 0
  have cR_26_1 : _ = some (Value.slice ra n2 rc) := R_26.cell 1
  have cR_26_2 : _ = some (Value.slice rb m2 rd) := R_26.cell 2
  have U_26 := U_25.next hB_26
  have cU_26_0 : _ = some (Value.bool (qsg en er)) := U_26.cell 0
  have cU_26_1 : _ = some (Value.slice ua un uc) := U_26.cell 1
  have cU_26_2 : _ = some (Value.slice ub um ud) := U_26.cell 2
  have V_26 := V_25.next hB_26
  have cV_26_0 : _ = some (Value.bool (qsg en er)) := V_26.cell 0
  have cV_26_1 : _ = some (Value.slice va vn vc) := V_26.cell 1
  have cV_26_2 : _ = some (Value.slice vb vm vd) := V_26.cell 2
  have E_26 := E_25.next hB_26
  have cE_26_0 : _ = some (Value.bool (qsg ed es)) := E_26.cell 0
  have cE_26_1 : _ = some (Value.slice xa xn xc) := E_26.cell 1
  have cE_26_2 : _ = some (Value.slice xb xm xd) := E_26.cell 2
  have G_26 := G_25.next hB_26
  have cG_26_0 : _ = some (Value.bool (qsg ed es)) := G_26.cell 0
  have cG_26_1 : _ = some (Value.slice ya yn yc) := G_26.cell 1
  have cG_26_2 : _ = some (Value.slice yb ym yd) := G_26.cell 2
  have hbM_26 := hbM_25.next hB_26
  have QX_26 := QX_25.below hB_26
  have QP_26 := QP_25.below hB_26
  have QY_26 := QY_25.below hB_26
  have QR_26 := QR_25.below hB_26
  have Ou_26 := Ou_25.below hB_26
  have Pu_26 := Pu_25.below hB_26
  have Ov_26 := Ov_25.below hB_26
  have Pv_26 := Pv_25.below hB_26
  have Ox_26 := Ox_25.below hB_26
  have Px_26 := Px_25.below hB_26
  have Oy_26 := Oy_25.below hB_26
  have Py_26 := Py_25.below hB_26
  have Og1_26 := Og1_25.below hB_26
  have Pg1_26 := Pg1_25.below hB_26
  have Og2_26 := Og2_25.below hB_26
  have Pg2_26 := Pg2_25.below hB_26
  have Og3_26 := Og3_25.below hB_26
  have Pg3_26 := Pg3_25.below hB_26
  have Og4_26 := Og4_25.below hB_26
  have Pg4_26 := Pg4_25.below hB_26
  have Og5_26 := Og5_25.below hB_26
  have Pg5_26 := Pg5_25.below hB_26
  have Og6_26 := Og6_25.below hB_26
  have Pg6_26 := Pg6_25.below hB_26
  have Og7_26 := Og7_25.below hB_26
  have Pg7_26 := Pg7_25.below hB_26
  have Og8_26 := Og8_25.below hB_26
  have Pg8_26 := Pg8_25.below hB_26
  have hbel_26 := hbel_25.next hB_26
  have hsz_26 := hB_26.size
  clear hB_26
  have GOT_26 := hbx
  clear hbx hbB
  have cGOT_26_0 : _ = some (Value.bool (qsg en er)) := GOT_26.cell 0
  have cGOT_26_1 : _ = some (Value.slice ua un uc) := GOT_26.cell 1
  have cGOT_26_2 : _ = some (Value.slice ub um ud) := GOT_26.cell 2
  have cGOT_26_3 : _ = some (Value.bool (decide ((o1).num < 0))) := GOT_26.cell 3
  have cGOT_26_4 : _ = some (Value.slice g1a g1n g1c) := GOT_26.cell 4
  have cGOT_26_5 : _ = some (Value.slice g1b g1m g1d) := GOT_26.cell 5
  have cGOT_26_6 : _ = some (Value.bool (decide ((o2).num < 0))) := GOT_26.cell 6
  have cGOT_26_7 : _ = some (Value.slice g2a g2n g2c) := GOT_26.cell 7
  have cGOT_26_8 : _ = some (Value.slice g2b g2m g2d) := GOT_26.cell 8
  have cGOT_26_9 : _ = some (Value.bool (decide ((o3).num < 0))) := GOT_26.cell 9
  have cGOT_26_10 : _ = some (Value.slice g3a g3n g3c) := GOT_26.cell 10
  have cGOT_26_11 : _ = some (Value.slice g3b g3m g3d) := GOT_26.cell 11
  have cGOT_26_12 : _ = some (Value.bool (decide ((o4).num < 0))) := GOT_26.cell 12
  have cGOT_26_13 : _ = some (Value.slice g4a g4n g4c) := GOT_26.cell 13
  have cGOT_26_14 : _ = some (Value.slice g4b g4m g4d) := GOT_26.cell 14
  have cGOT_26_15 : _ = some (Value.bool (qsg ed es)) := GOT_26.cell 15
  have cGOT_26_16 : _ = some (Value.slice xa xn xc) := GOT_26.cell 16
  have cGOT_26_17 : _ = some (Value.slice xb xm xd) := GOT_26.cell 17
  have cGOT_26_18 : _ = some (Value.bool (decide ((o5).num < 0))) := GOT_26.cell 18
  have cGOT_26_19 : _ = some (Value.slice g5a g5n g5c) := GOT_26.cell 19
  have cGOT_26_20 : _ = some (Value.slice g5b g5m g5d) := GOT_26.cell 20
  have cGOT_26_21 : _ = some (Value.bool (decide ((o6).num < 0))) := GOT_26.cell 21
  have cGOT_26_22 : _ = some (Value.slice g6a g6n g6c) := GOT_26.cell 22
  have cGOT_26_23 : _ = some (Value.slice g6b g6m g6d) := GOT_26.cell 23
  have cGOT_26_24 : _ = some (Value.bool (decide ((o7).num < 0))) := GOT_26.cell 24
  have cGOT_26_25 : _ = some (Value.slice g7a g7n g7c) := GOT_26.cell 25
  have cGOT_26_26 : _ = some (Value.slice g7b g7m g7d) := GOT_26.cell 26
  have cGOT_26_27 : _ = some (Value.bool (decide ((o8).num < 0))) := GOT_26.cell 27
  have cGOT_26_28 : _ = some (Value.slice g8a g8n g8c) := GOT_26.cell 28
  have cGOT_26_29 : _ = some (Value.slice g8b g8m g8d) := GOT_26.cell 29
  go_wp2_with fail
  clear X_25 cX_25_0 fX_25_0 cX_25_1 fX_25_1 cX_25_2 fX_25_2 Y_25 cY_25_0 fY_25_0 cY_25_1 fY_25_1 cY_25_2 fY_25_2 P_25 cP_25_0 cP_25_1 cP_25_2 R_25 cR_25_0 cR_25_1 cR_25_2 U_25 cU_25_0 cU_25_1 cU_25_2 V_25 cV_25_0 cV_25_1 cV_25_2 E_25 cE_25_0 cE_25_1 cE_25_2 G_25 cG_25_0 cG_25_1 cG_25_2 hbM_25 QX_25 QP_25 QY_25 QR_25 Ou_25 Pu_25 Ov_25 Pv_25 Ox_25 Px_25 Oy_25 Py_25 Og1_25 Pg1_25 Og2_25 Pg2_25 Og3_25 Pg3_25 Og4_25 Pg4_25 Og5_25 Pg5_25 Og6_25 Pg6_25 Og7_25 Pg7_25 Og8_25 Pg8_25 hbel_25
  generalize (w25.alloc (.cells #[Value.bool (qsg en er), Value.slice ua un uc, Value.slice ub um ud, Value.bool (decide ((o1).num < 0)), Value.slice g1a g1n g1c, Value.slice g1b g1m g1d, Value.bool (decide ((o2).num < 0)), Value.slice g2a g2n g2c, Value.slice g2b g2m g2d, Value.bool (decide ((o3).num < 0)), Value.slice g3a g3n g3c, Value.slice g3b g3m g3d, Value.bool (decide ((o4).num < 0)), Value.slice g4a g4n g4c, Value.slice g4b g4m g4d, Value.bool (qsg ed es), Value.slice xa xn xc, Value.slice xb xm xd, Value.bool (decide ((o5).num < 0)), Value.slice g5a g5n g5c, Value.slice g5b g5m g5d, Value.bool (decide ((o6).num < 0)), Value.slice g6a g6n g6c, Value.slice g6b g6m g6d, Value.bool (decide ((o7).num < 0)), Value.slice g7a g7n g7c, Value.slice g7b g7m g7d, Value.bool (decide ((o8).num < 0)), Value.slice g8a g8n g8c, Value.slice g8b g8m g8d] 27)) = v26 at *
  go_wp2_with fail
  go_region_held3 (fun w' => w'.cell? ⟨w.heap.size, 0, none⟩ = some (Value.bool s) ∧ w'.cell? ⟨w.heap.size, 1, none⟩ = some (Value.slice a n1 c) ∧ w'.cell? ⟨w.heap.size, 2, none⟩ = some (Value.slice b m1 d) ∧ w'.cell? ⟨w.heap.size + 1, 0, none⟩ = some (Value.bool t) ∧ w'.cell? ⟨w.heap.size + 1, 1, none⟩ = some (Value.slice a' n2 c') ∧ w'.cell? ⟨w.heap.size + 1, 2, none⟩ = some (Value.slice b' m2 d') ∧ w'.cell? ⟨w12.heap.size, 0, none⟩ = some (Value.bool (qsg en er)) ∧ w'.cell? ⟨w12.heap.size, 1, none⟩ = some (Value.slice va vn vc) ∧ w'.cell? ⟨w12.heap.size, 2, none⟩ = some (Value.slice vb vm vd) ∧ w'.cell? ⟨w16.heap.size, 0, none⟩ = some (Value.bool (qsg ed es)) ∧ w'.cell? ⟨w16.heap.size, 1, none⟩ = some (Value.slice ya yn yc) ∧ w'.cell? ⟨w16.heap.size, 2, none⟩ = some (Value.slice yb ym yd))
    (first | exact ⟨cX_26_0, cX_26_1, cX_26_2, cY_26_0, cY_26_1, cY_26_2, cV_26_0, cV_26_1, cV_26_2, cG_26_0, cG_26_1, cG_26_2⟩ | exact ⟨cX_27_0, cX_27_1, cX_27_2, cY_27_0, cY_27_1, cY_27_2, cV_27_0, cV_27_1, cV_27_2, cG_27_0, cG_27_1, cG_27_2⟩ | exact ⟨cX_28_0, cX_28_1, cX_28_2, cY_28_0, cY_28_1, cY_28_2, cV_28_0, cV_28_1, cV_28_2, cG_28_0, cG_28_1, cG_28_2⟩ | exact ⟨cX_29_0, cX_29_1, cX_29_2, cY_29_0, cY_29_1, cY_29_2, cV_29_0, cV_29_1, cV_29_2, cG_29_0, cG_29_1, cG_29_2⟩ | exact ⟨cX_30_0, cX_30_1, cX_30_2, cY_30_0, cY_30_1, cY_30_2, cV_30_0, cV_30_1, cV_30_2, cG_30_0, cG_30_1, cG_30_2⟩ | exact ⟨cX_31_0, cX_31_1, cX_31_2, cY_31_0, cY_31_1, cY_31_2, cV_31_0, cV_31_1, cV_31_2, cG_31_0, cG_31_1, cG_31_2⟩ | exact ⟨cX_32_0, cX_32_1, cX_32_2, cY_32_0, cY_32_1, cY_32_2, cV_32_0, cV_32_1, cV_32_2, cG_32_0, cG_32_1, cG_32_2⟩ | exact ⟨cX_33_0, cX_33_1, cX_33_2, cY_33_0, cY_33_1, cY_33_2, cV_33_0, cV_33_1, cV_33_2, cG_33_0, cG_33_1, cG_33_2⟩ | exact ⟨cX_34_0, cX_34_1, cX_34_2, cY_34_0, cY_34_1, cY_34_2, cV_34_0, cV_34_1, cV_34_2, cG_34_0, cG_34_1, cG_34_2⟩ | go_keep)
    (first
      | (go_at_call 21; ((with_reducible refine (rqneg (QX_26.below (by first | exact Below.refl _ _ | exact (Below.refl _ _).drew | exact (Below.refl _ _).alloc (Nat.le_refl _) _)) (by omega)).mono ?_); (rw [ho1.out]; rintro e w27 ⟨h1a, h1n, h1c, h1b, h1m, h1d, rfl, hO, hO', hD, hB⟩; have hBT : Below v26.heap.size v26 w27 := (by first | exact hB | exact below_drew hB | exact bel_alloc hB); have T_27 := hid (T_26.out.below hBT); have hbT_27 := hbT_26.next hBT; clear T_26 hbT_26 hBT; have hB_27 : Below v26.heap.size v26 w27 := (by first | exact hB | exact below_drew hB | exact bel_alloc hB); have X_27 := X_26.next hB_27; have cX_27_0 : _ = some (Value.bool s) := X_27.cell 0; have fX_27_0 := X_27.free 0; have cX_27_1 : _ = some (Value.slice a n1 c) := X_27.cell 1; have fX_27_1 := X_27.free 1; have cX_27_2 : _ = some (Value.slice b m1 d) := X_27.cell 2; have fX_27_2 := X_27.free 2; have Y_27 := Y_26.next hB_27; have cY_27_0 : _ = some (Value.bool t) := Y_27.cell 0; have fY_27_0 := Y_27.free 0; have cY_27_1 : _ = some (Value.slice a' n2 c') := Y_27.cell 1; have fY_27_1 := Y_27.free 1; have cY_27_2 : _ = some (Value.slice b' m2 d') := Y_27.cell 2; have fY_27_2 := Y_27.free 2; have P_27 := P_26.next hB_27; have cP_27_0 : _ = some (Value.bool s) := P_27.cell 0; have cP_27_1 : _ = some (Value.slice pa n1 pc) := P_27.cell 1; have cP_27_2 : _ = some (Value.slice pb m1 pd) := P_27.cell 2; have R_27 := R_26.next hB_27; have cR_27_0 : _ = some (Value.bool t) := R_27.cell 0; have cR_27_1 : _ = some (Value.slice ra n2 rc) := R_27.cell 1; have cR_27_2 : _ = some (Value.slice rb m2 rd) := R_27.cell 2; have U_27 := U_26.next hB_27; have cU_27_0 : _ = some (Value.bool (qsg en er)) := U_27.cell 0; have cU_27_1 : _ = some (Value.slice ua un uc) := U_27.cell 1; have cU_27_2 : _ = some (Value.slice ub um ud) := U_27.cell 2; have V_27 := V_26.next hB_27; have cV_27_0 : _ = some (Value.bool (qsg en er)) := V_27.cell 0; have cV_27_1 : _ = some (Value.slice va vn vc) := V_27.cell 1; have cV_27_2 : _ = some (Value.slice vb vm vd) := V_27.cell 2; have E_27 := E_26.next hB_27; have cE_27_0 : _ = some (Value.bool (qsg ed es)) := E_27.cell 0; have cE_27_1 : _ = some (Value.slice xa xn xc) := E_27.cell 1; have cE_27_2 : _ = some (Value.slice xb xm xd) := E_27.cell 2; have G_27 := G_26.next hB_27; have cG_27_0 : _ = some (Value.bool (qsg ed es)) := G_27.cell 0; have cG_27_1 : _ = some (Value.slice ya yn yc) := G_27.cell 1; have cG_27_2 : _ = some (Value.slice yb ym yd) := G_27.cell 2; have GOT_27 := GOT_26.next hB_27; have cGOT_27_0 : _ = some (Value.bool (qsg en er)) := GOT_27.cell 0; have cGOT_27_1 : _ = some (Value.slice ua un uc) := GOT_27.cell 1; have cGOT_27_2 : _ = some (Value.slice ub um ud) := GOT_27.cell 2; have cGOT_27_3 : _ = some (Value.bool (decide ((o1).num < 0))) := GOT_27.cell 3; have cGOT_27_4 : _ = some (Value.slice g1a g1n g1c) := GOT_27.cell 4; have cGOT_27_5 : _ = some (Value.slice g1b g1m g1d) := GOT_27.cell 5; have cGOT_27_6 : _ = some (Value.bool (decide ((o2).num < 0))) := GOT_27.cell 6; have cGOT_27_7 : _ = some (Value.slice g2a g2n g2c) := GOT_27.cell 7; have cGOT_27_8 : _ = some (Value.slice g2b g2m g2d) := GOT_27.cell 8; have cGOT_27_9 : _ = some (Value.bool (decide ((o3).num < 0))) := GOT_27.cell 9; have cGOT_27_10 : _ = some (Value.slice g3a g3n g3c) := GOT_27.cell 10; have cGOT_27_11 : _ = some (Value.slice g3b g3m g3d) := GOT_27.cell 11; have cGOT_27_12 : _ = some (Value.bool (decide ((o4).num < 0))) := GOT_27.cell 12; have cGOT_27_13 : _ = some (Value.slice g4a g4n g4c) := GOT_27.cell 13; have cGOT_27_14 : _ = some (Value.slice g4b g4m g4d) := GOT_27.cell 14; have cGOT_27_15 : _ = some (Value.bool (qsg ed es)) := GOT_27.cell 15; have cGOT_27_16 : _ = some (Value.slice xa xn xc) := GOT_27.cell 16; have cGOT_27_17 : _ = some (Value.slice xb xm xd) := GOT_27.cell 17; have cGOT_27_18 : _ = some (Value.bool (decide ((o5).num < 0))) := GOT_27.cell 18; have cGOT_27_19 : _ = some (Value.slice g5a g5n g5c) := GOT_27.cell 19; have cGOT_27_20 : _ = some (Value.slice g5b g5m g5d) := GOT_27.cell 20; have cGOT_27_21 : _ = some (Value.bool (decide ((o6).num < 0))) := GOT_27.cell 21; have cGOT_27_22 : _ = some (Value.slice g6a g6n g6c) := GOT_27.cell 22; have cGOT_27_23 : _ = some (Value.slice g6b g6m g6d) := GOT_27.cell 23; have cGOT_27_24 : _ = some (Value.bool (decide ((o7).num < 0))) := GOT_27.cell 24; have cGOT_27_25 : _ = some (Value.slice g7a g7n g7c) := GOT_27.cell 25; have cGOT_27_26 : _ = some (Value.slice g7b g7m g7d) := GOT_27.cell 26; have cGOT_27_27 : _ = some (Value.bool (decide ((o8).num < 0))) := GOT_27.cell 27; have cGOT_27_28 : _ = some (Value.slice g8a g8n g8c) := GOT_27.cell 28; have cGOT_27_29 : _ = some (Value.slice g8b g8m g8d) := GOT_27.cell 29; have hbM_27 := hbM_26.next hB_27; have QX_27 := QX_26.below hB_27; have QP_27 := QP_26.below hB_27; have QY_27 := QY_26.below hB_27; have QR_27 := QR_26.below hB_27; have Ou_27 := Ou_26.below hB_27; have Pu_27 := Pu_26.below hB_27; have Ov_27 := Ov_26.below hB_27; have Pv_27 := Pv_26.below hB_27; have Ox_27 := Ox_26.below hB_27; have Px_27 := Px_26.below hB_27; have Oy_27 := Oy_26.below hB_27; have Py_27 := Py_26.below hB_27; have Og1_27 := Og1_26.below hB_27; have Pg1_27 := Pg1_26.below hB_27; have Og2_27 := Og2_26.below hB_27; have Pg2_27 := Pg2_26.below hB_27; have Og3_27 := Og3_26.below hB_27; have Pg3_27 := Pg3_26.below hB_27; have Og4_27 := Og4_26.below hB_27; have Pg4_27 := Pg4_26.below hB_27; have Og5_27 := Og5_26.below hB_27; have Pg5_27 := Pg5_26.below hB_27; have Og6_27 := Og6_26.below hB_27; have Pg6_27 := Pg6_26.below hB_27; have Og7_27 := Og7_26.below hB_27; have Pg7_27 := Pg7_26.below hB_27; have Og8_27 := Og8_26.below hB_27; have Pg8_27 := Pg8_26.below hB_27; have hbel_27 := hbel_26.next hB_27; have hsz_27 := hB_27.size; clear X_26 cX_26_0 fX_26_0 cX_26_1 fX_26_1 cX_26_2 fX_26_2 Y_26 cY_26_0 fY_26_0 cY_26_1 fY_26_1 cY_26_2 fY_26_2 P_26 cP_26_0 cP_26_1 cP_26_2 R_26 cR_26_0 cR_26_1 cR_26_2 U_26 cU_26_0 cU_26_1 cU_26_2 V_26 cV_26_0 cV_26_1 cV_26_2 E_26 cE_26_0 cE_26_1 cE_26_2 G_26 cG_26_0 cG_26_1 cG_26_2 GOT_26 cGOT_26_0 cGOT_26_1 cGOT_26_2 cGOT_26_3 cGOT_26_4 cGOT_26_5 cGOT_26_6 cGOT_26_7 cGOT_26_8 cGOT_26_9 cGOT_26_10 cGOT_26_11 cGOT_26_12 cGOT_26_13 cGOT_26_14 cGOT_26_15 cGOT_26_16 cGOT_26_17 cGOT_26_18 cGOT_26_19 cGOT_26_20 cGOT_26_21 cGOT_26_22 cGOT_26_23 cGOT_26_24 cGOT_26_25 cGOT_26_26 cGOT_26_27 cGOT_26_28 cGOT_26_29 hbM_26 QX_26 QP_26 QY_26 QR_26 Ou_26 Pu_26 Ov_26 Pv_26 Ox_26 Px_26 Oy_26 Py_26 Og1_26 Pg1_26 Og2_26 Pg2_26 Og3_26 Pg3_26 Og4_26 Pg4_26 Og5_26 Pg5_26 Og6_26 Pg6_26 Og7_26 Pg7_26 Og8_26 Pg8_26 hbel_26 hB_27; have Oh1_27 := hO; have ltOh1 := hO.ltB; have Ph1_27 := hO'; have ltPh1 := hO'.ltB; clear hO hO' hD; try clear hB)))
      | (go_at_call 22; ((with_reducible refine (rqadd (QX_27.below (by first | exact Below.refl _ _ | exact (Below.refl _ _).drew | exact (Below.refl _ _).alloc (Nat.le_refl _) _)) (by omega) (QY_27.below (by first | exact Below.refl _ _ | exact (Below.refl _ _).drew | exact (Below.refl _ _).alloc (Nat.le_refl _) _)) (by omega)).mono ?_); (rw [ho2.out]; rintro e w28 ⟨h2a, h2n, h2c, h2b, h2m, h2d, rfl, hO, hO', hD, hB⟩; have hBT : Below w27.heap.size w27 w28 := (by first | exact hB | exact below_drew hB | exact bel_alloc hB); have T_28 := hid (T_27.out.below hBT); have hbT_28 := hbT_27.next hBT; clear T_27 hbT_27 hBT; have hB_28 : Below w27.heap.size w27 w28 := (by first | exact hB | exact below_drew hB | exact bel_alloc hB); have X_28 := X_27.next hB_28; have cX_28_0 : _ = some (Value.bool s) := X_28.cell 0; have fX_28_0 := X_28.free 0; have cX_28_1 : _ = some (Value.slice a n1 c) := X_28.cell 1; have fX_28_1 := X_28.free 1; have cX_28_2 : _ = some (Value.slice b m1 d) := X_28.cell 2; have fX_28_2 := X_28.free 2; have Y_28 := Y_27.next hB_28; have cY_28_0 : _ = some (Value.bool t) := Y_28.cell 0; have fY_28_0 := Y_28.free 0; have cY_28_1 : _ = some (Value.slice a' n2 c') := Y_28.cell 1; have fY_28_1 := Y_28.free 1; have cY_28_2 : _ = some (Value.slice b' m2 d') := Y_28.cell 2; have fY_28_2 := Y_28.free 2; have P_28 := P_27.next hB_28; have cP_28_0 : _ = some (Value.bool s) := P_28.cell 0; have cP_28_1 : _ = some (Value.slice pa n1 pc) := P_28.cell 1; have cP_28_2 : _ = some (Value.slice pb m1 pd) := P_28.cell 2; have R_28 := R_27.next hB_28; have cR_28_0 : _ = some (Value.bool t) := R_28.cell 0; have cR_28_1 : _ = some (Value.slice ra n2 rc) := R_28.cell 1; have cR_28_2 : _ = some (Value.slice rb m2 rd) := R_28.cell 2; have U_28 := U_27.next hB_28; have cU_28_0 : _ = some (Value.bool (qsg en er)) := U_28.cell 0; have cU_28_1 : _ = some (Value.slice ua un uc) := U_28.cell 1; have cU_28_2 : _ = some (Value.slice ub um ud) := U_28.cell 2; have V_28 := V_27.next hB_28; have cV_28_0 : _ = some (Value.bool (qsg en er)) := V_28.cell 0; have cV_28_1 : _ = some (Value.slice va vn vc) := V_28.cell 1; have cV_28_2 : _ = some (Value.slice vb vm vd) := V_28.cell 2; have E_28 := E_27.next hB_28; have cE_28_0 : _ = some (Value.bool (qsg ed es)) := E_28.cell 0; have cE_28_1 : _ = some (Value.slice xa xn xc) := E_28.cell 1; have cE_28_2 : _ = some (Value.slice xb xm xd) := E_28.cell 2; have G_28 := G_27.next hB_28; have cG_28_0 : _ = some (Value.bool (qsg ed es)) := G_28.cell 0; have cG_28_1 : _ = some (Value.slice ya yn yc) := G_28.cell 1; have cG_28_2 : _ = some (Value.slice yb ym yd) := G_28.cell 2; have GOT_28 := GOT_27.next hB_28; have cGOT_28_0 : _ = some (Value.bool (qsg en er)) := GOT_28.cell 0; have cGOT_28_1 : _ = some (Value.slice ua un uc) := GOT_28.cell 1; have cGOT_28_2 : _ = some (Value.slice ub um ud) := GOT_28.cell 2; have cGOT_28_3 : _ = some (Value.bool (decide ((o1).num < 0))) := GOT_28.cell 3; have cGOT_28_4 : _ = some (Value.slice g1a g1n g1c) := GOT_28.cell 4; have cGOT_28_5 : _ = some (Value.slice g1b g1m g1d) := GOT_28.cell 5; have cGOT_28_6 : _ = some (Value.bool (decide ((o2).num < 0))) := GOT_28.cell 6; have cGOT_28_7 : _ = some (Value.slice g2a g2n g2c) := GOT_28.cell 7; have cGOT_28_8 : _ = some (Value.slice g2b g2m g2d) := GOT_28.cell 8; have cGOT_28_9 : _ = some (Value.bool (decide ((o3).num < 0))) := GOT_28.cell 9; have cGOT_28_10 : _ = some (Value.slice g3a g3n g3c) := GOT_28.cell 10; have cGOT_28_11 : _ = some (Value.slice g3b g3m g3d) := GOT_28.cell 11; have cGOT_28_12 : _ = some (Value.bool (decide ((o4).num < 0))) := GOT_28.cell 12; have cGOT_28_13 : _ = some (Value.slice g4a g4n g4c) := GOT_28.cell 13; have cGOT_28_14 : _ = some (Value.slice g4b g4m g4d) := GOT_28.cell 14; have cGOT_28_15 : _ = some (Value.bool (qsg ed es)) := GOT_28.cell 15; have cGOT_28_16 : _ = some (Value.slice xa xn xc) := GOT_28.cell 16; have cGOT_28_17 : _ = some (Value.slice xb xm xd) := GOT_28.cell 17; have cGOT_28_18 : _ = some (Value.bool (decide ((o5).num < 0))) := GOT_28.cell 18; have cGOT_28_19 : _ = some (Value.slice g5a g5n g5c) := GOT_28.cell 19; have cGOT_28_20 : _ = some (Value.slice g5b g5m g5d) := GOT_28.cell 20; have cGOT_28_21 : _ = some (Value.bool (decide ((o6).num < 0))) := GOT_28.cell 21; have cGOT_28_22 : _ = some (Value.slice g6a g6n g6c) := GOT_28.cell 22; have cGOT_28_23 : _ = some (Value.slice g6b g6m g6d) := GOT_28.cell 23; have cGOT_28_24 : _ = some (Value.bool (decide ((o7).num < 0))) := GOT_28.cell 24; have cGOT_28_25 : _ = some (Value.slice g7a g7n g7c) := GOT_28.cell 25; have cGOT_28_26 : _ = some (Value.slice g7b g7m g7d) := GOT_28.cell 26; have cGOT_28_27 : _ = some (Value.bool (decide ((o8).num < 0))) := GOT_28.cell 27; have cGOT_28_28 : _ = some (Value.slice g8a g8n g8c) := GOT_28.cell 28; have cGOT_28_29 : _ = some (Value.slice g8b g8m g8d) := GOT_28.cell 29; have hbM_28 := hbM_27.next hB_28; have QX_28 := QX_27.below hB_28; have QP_28 := QP_27.below hB_28; have QY_28 := QY_27.below hB_28; have QR_28 := QR_27.below hB_28; have Ou_28 := Ou_27.below hB_28; have Pu_28 := Pu_27.below hB_28; have Ov_28 := Ov_27.below hB_28; have Pv_28 := Pv_27.below hB_28; have Ox_28 := Ox_27.below hB_28; have Px_28 := Px_27.below hB_28; have Oy_28 := Oy_27.below hB_28; have Py_28 := Py_27.below hB_28; have Og1_28 := Og1_27.below hB_28; have Pg1_28 := Pg1_27.below hB_28; have Og2_28 := Og2_27.below hB_28; have Pg2_28 := Pg2_27.below hB_28; have Og3_28 := Og3_27.below hB_28; have Pg3_28 := Pg3_27.below hB_28; have Og4_28 := Og4_27.below hB_28; have Pg4_28 := Pg4_27.below hB_28; have Og5_28 := Og5_27.below hB_28; have Pg5_28 := Pg5_27.below hB_28; have Og6_28 := Og6_27.below hB_28; have Pg6_28 := Pg6_27.below hB_28; have Og7_28 := Og7_27.below hB_28; have Pg7_28 := Pg7_27.below hB_28; have Og8_28 := Og8_27.below hB_28; have Pg8_28 := Pg8_27.below hB_28; have Oh1_28 := Oh1_27.below hB_28; have Ph1_28 := Ph1_27.below hB_28; have hbel_28 := hbel_27.next hB_28; have hsz_28 := hB_28.size; clear X_27 cX_27_0 fX_27_0 cX_27_1 fX_27_1 cX_27_2 fX_27_2 Y_27 cY_27_0 fY_27_0 cY_27_1 fY_27_1 cY_27_2 fY_27_2 P_27 cP_27_0 cP_27_1 cP_27_2 R_27 cR_27_0 cR_27_1 cR_27_2 U_27 cU_27_0 cU_27_1 cU_27_2 V_27 cV_27_0 cV_27_1 cV_27_2 E_27 cE_27_0 cE_27_1 cE_27_2 G_27 cG_27_0 cG_27_1 cG_27_2 GOT_27 cGOT_27_0 cGOT_27_1 cGOT_27_2 cGOT_27_3 cGOT_27_4 cGOT_27_5 cGOT_27_6 cGOT_27_7 cGOT_27_8 cGOT_27_9 cGOT_27_10 cGOT_27_11 cGOT_27_12 cGOT_27_13 cGOT_27_14 cGOT_27_15 cGOT_27_16 cGOT_27_17 cGOT_27_18 cGOT_27_19 cGOT_27_20 cGOT_27_21 cGOT_27_22 cGOT_27_23 cGOT_27_24 cGOT_27_25 cGOT_27_26 cGOT_27_27 cGOT_27_28 cGOT_27_29 hbM_27 QX_27 QP_27 QY_27 QR_27 Ou_27 Pu_27 Ov_27 Pv_27 Ox_27 Px_27 Oy_27 Py_27 Og1_27 Pg1_27 Og2_27 Pg2_27 Og3_27 Pg3_27 Og4_27 Pg4_27 Og5_27 Pg5_27 Og6_27 Pg6_27 Og7_27 Pg7_27 Og8_27 Pg8_27 Oh1_27 Ph1_27 hbel_27 hB_28; have Oh2_28 := hO; have ltOh2 := hO.ltB; have Ph2_28 := hO'; have ltPh2 := hO'.ltB; clear hO hO' hD; try clear hB)))
      | (go_at_call 23; ((with_reducible refine (rqsub (QX_28.below (by first | exact Below.refl _ _ | exact (Below.refl _ _).drew | exact (Below.refl _ _).alloc (Nat.le_refl _) _)) (by omega) (QY_28.below (by first | exact Below.refl _ _ | exact (Below.refl _ _).drew | exact (Below.refl _ _).alloc (Nat.le_refl _) _)) (by omega)).mono ?_); (rw [ho3.out]; rintro e w29 ⟨h3a, h3n, h3c, h3b, h3m, h3d, rfl, hO, hO', hD, hB⟩; have hBT : Below w28.heap.size w28 w29 := (by first | exact hB | exact below_drew hB | exact bel_alloc hB); have T_29 := hid (T_28.out.below hBT); have hbT_29 := hbT_28.next hBT; clear T_28 hbT_28 hBT; have hB_29 : Below w28.heap.size w28 w29 := (by first | exact hB | exact below_drew hB | exact bel_alloc hB); have X_29 := X_28.next hB_29; have cX_29_0 : _ = some (Value.bool s) := X_29.cell 0; have fX_29_0 := X_29.free 0; have cX_29_1 : _ = some (Value.slice a n1 c) := X_29.cell 1; have fX_29_1 := X_29.free 1; have cX_29_2 : _ = some (Value.slice b m1 d) := X_29.cell 2; have fX_29_2 := X_29.free 2; have Y_29 := Y_28.next hB_29; have cY_29_0 : _ = some (Value.bool t) := Y_29.cell 0; have fY_29_0 := Y_29.free 0; have cY_29_1 : _ = some (Value.slice a' n2 c') := Y_29.cell 1; have fY_29_1 := Y_29.free 1; have cY_29_2 : _ = some (Value.slice b' m2 d') := Y_29.cell 2; have fY_29_2 := Y_29.free 2; have P_29 := P_28.next hB_29; have cP_29_0 : _ = some (Value.bool s) := P_29.cell 0; have cP_29_1 : _ = some (Value.slice pa n1 pc) := P_29.cell 1; have cP_29_2 : _ = some (Value.slice pb m1 pd) := P_29.cell 2; have R_29 := R_28.next hB_29; have cR_29_0 : _ = some (Value.bool t) := R_29.cell 0; have cR_29_1 : _ = some (Value.slice ra n2 rc) := R_29.cell 1; have cR_29_2 : _ = some (Value.slice rb m2 rd) := R_29.cell 2; have U_29 := U_28.next hB_29; have cU_29_0 : _ = some (Value.bool (qsg en er)) := U_29.cell 0; have cU_29_1 : _ = some (Value.slice ua un uc) := U_29.cell 1; have cU_29_2 : _ = some (Value.slice ub um ud) := U_29.cell 2; have V_29 := V_28.next hB_29; have cV_29_0 : _ = some (Value.bool (qsg en er)) := V_29.cell 0; have cV_29_1 : _ = some (Value.slice va vn vc) := V_29.cell 1; have cV_29_2 : _ = some (Value.slice vb vm vd) := V_29.cell 2; have E_29 := E_28.next hB_29; have cE_29_0 : _ = some (Value.bool (qsg ed es)) := E_29.cell 0; have cE_29_1 : _ = some (Value.slice xa xn xc) := E_29.cell 1; have cE_29_2 : _ = some (Value.slice xb xm xd) := E_29.cell 2; have G_29 := G_28.next hB_29; have cG_29_0 : _ = some (Value.bool (qsg ed es)) := G_29.cell 0; have cG_29_1 : _ = some (Value.slice ya yn yc) := G_29.cell 1; have cG_29_2 : _ = some (Value.slice yb ym yd) := G_29.cell 2; have GOT_29 := GOT_28.next hB_29; have cGOT_29_0 : _ = some (Value.bool (qsg en er)) := GOT_29.cell 0; have cGOT_29_1 : _ = some (Value.slice ua un uc) := GOT_29.cell 1; have cGOT_29_2 : _ = some (Value.slice ub um ud) := GOT_29.cell 2; have cGOT_29_3 : _ = some (Value.bool (decide ((o1).num < 0))) := GOT_29.cell 3; have cGOT_29_4 : _ = some (Value.slice g1a g1n g1c) := GOT_29.cell 4; have cGOT_29_5 : _ = some (Value.slice g1b g1m g1d) := GOT_29.cell 5; have cGOT_29_6 : _ = some (Value.bool (decide ((o2).num < 0))) := GOT_29.cell 6; have cGOT_29_7 : _ = some (Value.slice g2a g2n g2c) := GOT_29.cell 7; have cGOT_29_8 : _ = some (Value.slice g2b g2m g2d) := GOT_29.cell 8; have cGOT_29_9 : _ = some (Value.bool (decide ((o3).num < 0))) := GOT_29.cell 9; have cGOT_29_10 : _ = some (Value.slice g3a g3n g3c) := GOT_29.cell 10; have cGOT_29_11 : _ = some (Value.slice g3b g3m g3d) := GOT_29.cell 11; have cGOT_29_12 : _ = some (Value.bool (decide ((o4).num < 0))) := GOT_29.cell 12; have cGOT_29_13 : _ = some (Value.slice g4a g4n g4c) := GOT_29.cell 13; have cGOT_29_14 : _ = some (Value.slice g4b g4m g4d) := GOT_29.cell 14; have cGOT_29_15 : _ = some (Value.bool (qsg ed es)) := GOT_29.cell 15; have cGOT_29_16 : _ = some (Value.slice xa xn xc) := GOT_29.cell 16; have cGOT_29_17 : _ = some (Value.slice xb xm xd) := GOT_29.cell 17; have cGOT_29_18 : _ = some (Value.bool (decide ((o5).num < 0))) := GOT_29.cell 18; have cGOT_29_19 : _ = some (Value.slice g5a g5n g5c) := GOT_29.cell 19; have cGOT_29_20 : _ = some (Value.slice g5b g5m g5d) := GOT_29.cell 20; have cGOT_29_21 : _ = some (Value.bool (decide ((o6).num < 0))) := GOT_29.cell 21; have cGOT_29_22 : _ = some (Value.slice g6a g6n g6c) := GOT_29.cell 22; have cGOT_29_23 : _ = some (Value.slice g6b g6m g6d) := GOT_29.cell 23; have cGOT_29_24 : _ = some (Value.bool (decide ((o7).num < 0))) := GOT_29.cell 24; have cGOT_29_25 : _ = some (Value.slice g7a g7n g7c) := GOT_29.cell 25; have cGOT_29_26 : _ = some (Value.slice g7b g7m g7d) := GOT_29.cell 26; have cGOT_29_27 : _ = some (Value.bool (decide ((o8).num < 0))) := GOT_29.cell 27; have cGOT_29_28 : _ = some (Value.slice g8a g8n g8c) := GOT_29.cell 28; have cGOT_29_29 : _ = some (Value.slice g8b g8m g8d) := GOT_29.cell 29; have hbM_29 := hbM_28.next hB_29; have QX_29 := QX_28.below hB_29; have QP_29 := QP_28.below hB_29; have QY_29 := QY_28.below hB_29; have QR_29 := QR_28.below hB_29; have Ou_29 := Ou_28.below hB_29; have Pu_29 := Pu_28.below hB_29; have Ov_29 := Ov_28.below hB_29; have Pv_29 := Pv_28.below hB_29; have Ox_29 := Ox_28.below hB_29; have Px_29 := Px_28.below hB_29; have Oy_29 := Oy_28.below hB_29; have Py_29 := Py_28.below hB_29; have Og1_29 := Og1_28.below hB_29; have Pg1_29 := Pg1_28.below hB_29; have Og2_29 := Og2_28.below hB_29; have Pg2_29 := Pg2_28.below hB_29; have Og3_29 := Og3_28.below hB_29; have Pg3_29 := Pg3_28.below hB_29; have Og4_29 := Og4_28.below hB_29; have Pg4_29 := Pg4_28.below hB_29; have Og5_29 := Og5_28.below hB_29; have Pg5_29 := Pg5_28.below hB_29; have Og6_29 := Og6_28.below hB_29; have Pg6_29 := Pg6_28.below hB_29; have Og7_29 := Og7_28.below hB_29; have Pg7_29 := Pg7_28.below hB_29; have Og8_29 := Og8_28.below hB_29; have Pg8_29 := Pg8_28.below hB_29; have Oh1_29 := Oh1_28.below hB_29; have Ph1_29 := Ph1_28.below hB_29; have Oh2_29 := Oh2_28.below hB_29; have Ph2_29 := Ph2_28.below hB_29; have hbel_29 := hbel_28.next hB_29; have hsz_29 := hB_29.size; clear X_28 cX_28_0 fX_28_0 cX_28_1 fX_28_1 cX_28_2 fX_28_2 Y_28 cY_28_0 fY_28_0 cY_28_1 fY_28_1 cY_28_2 fY_28_2 P_28 cP_28_0 cP_28_1 cP_28_2 R_28 cR_28_0 cR_28_1 cR_28_2 U_28 cU_28_0 cU_28_1 cU_28_2 V_28 cV_28_0 cV_28_1 cV_28_2 E_28 cE_28_0 cE_28_1 cE_28_2 G_28 cG_28_0 cG_28_1 cG_28_2 GOT_28 cGOT_28_0 cGOT_28_1 cGOT_28_2 cGOT_28_3 cGOT_28_4 cGOT_28_5 cGOT_28_6 cGOT_28_7 cGOT_28_8 cGOT_28_9 cGOT_28_10 cGOT_28_11 cGOT_28_12 cGOT_28_13 cGOT_28_14 cGOT_28_15 cGOT_28_16 cGOT_28_17 cGOT_28_18 cGOT_28_19 cGOT_28_20 cGOT_28_21 cGOT_28_22 cGOT_28_23 cGOT_28_24 cGOT_28_25 cGOT_28_26 cGOT_28_27 cGOT_28_28 cGOT_28_29 hbM_28 QX_28 QP_28 QY_28 QR_28 Ou_28 Pu_28 Ov_28 Pv_28 Ox_28 Px_28 Oy_28 Py_28 Og1_28 Pg1_28 Og2_28 Pg2_28 Og3_28 Pg3_28 Og4_28 Pg4_28 Og5_28 Pg5_28 Og6_28 Pg6_28 Og7_28 Pg7_28 Og8_28 Pg8_28 Oh1_28 Ph1_28 Oh2_28 Ph2_28 hbel_28 hB_29; have Oh3_29 := hO; have ltOh3 := hO.ltB; have Ph3_29 := hO'; have ltPh3 := hO'.ltB; clear hO hO' hD; try clear hB)))
      | (go_at_call 24; ((with_reducible refine (rqmul (QX_29.below (by first | exact Below.refl _ _ | exact (Below.refl _ _).drew | exact (Below.refl _ _).alloc (Nat.le_refl _) _)) (by omega) (QY_29.below (by first | exact Below.refl _ _ | exact (Below.refl _ _).drew | exact (Below.refl _ _).alloc (Nat.le_refl _) _)) (by omega)).mono ?_); (rw [ho4.out]; rintro e w30 ⟨h4a, h4n, h4c, h4b, h4m, h4d, rfl, hO, hO', hD, hB⟩; have hBT : Below w29.heap.size w29 w30 := (by first | exact hB | exact below_drew hB | exact bel_alloc hB); have T_30 := hid (T_29.out.below hBT); have hbT_30 := hbT_29.next hBT; clear T_29 hbT_29 hBT; have hB_30 : Below w29.heap.size w29 w30 := (by first | exact hB | exact below_drew hB | exact bel_alloc hB); have X_30 := X_29.next hB_30; have cX_30_0 : _ = some (Value.bool s) := X_30.cell 0; have fX_30_0 := X_30.free 0; have cX_30_1 : _ = some (Value.slice a n1 c) := X_30.cell 1; have fX_30_1 := X_30.free 1; have cX_30_2 : _ = some (Value.slice b m1 d) := X_30.cell 2; have fX_30_2 := X_30.free 2; have Y_30 := Y_29.next hB_30; have cY_30_0 : _ = some (Value.bool t) := Y_30.cell 0; have fY_30_0 := Y_30.free 0; have cY_30_1 : _ = some (Value.slice a' n2 c') := Y_30.cell 1; have fY_30_1 := Y_30.free 1; have cY_30_2 : _ = some (Value.slice b' m2 d') := Y_30.cell 2; have fY_30_2 := Y_30.free 2; have P_30 := P_29.next hB_30; have cP_30_0 : _ = some (Value.bool s) := P_30.cell 0; have cP_30_1 : _ = some (Value.slice pa n1 pc) := P_30.cell 1; have cP_30_2 : _ = some (Value.slice pb m1 pd) := P_30.cell 2; have R_30 := R_29.next hB_30; have cR_30_0 : _ = some (Value.bool t) := R_30.cell 0; have cR_30_1 : _ = some (Value.slice ra n2 rc) := R_30.cell 1; have cR_30_2 : _ = some (Value.slice rb m2 rd) := R_30.cell 2; have U_30 := U_29.next hB_30; have cU_30_0 : _ = some (Value.bool (qsg en er)) := U_30.cell 0; have cU_30_1 : _ = some (Value.slice ua un uc) := U_30.cell 1; have cU_30_2 : _ = some (Value.slice ub um ud) := U_30.cell 2; have V_30 := V_29.next hB_30; have cV_30_0 : _ = some (Value.bool (qsg en er)) := V_30.cell 0; have cV_30_1 : _ = some (Value.slice va vn vc) := V_30.cell 1; have cV_30_2 : _ = some (Value.slice vb vm vd) := V_30.cell 2; have E_30 := E_29.next hB_30; have cE_30_0 : _ = some (Value.bool (qsg ed es)) := E_30.cell 0; have cE_30_1 : _ = some (Value.slice xa xn xc) := E_30.cell 1; have cE_30_2 : _ = some (Value.slice xb xm xd) := E_30.cell 2; have G_30 := G_29.next hB_30; have cG_30_0 : _ = some (Value.bool (qsg ed es)) := G_30.cell 0; have cG_30_1 : _ = some (Value.slice ya yn yc) := G_30.cell 1; have cG_30_2 : _ = some (Value.slice yb ym yd) := G_30.cell 2; have GOT_30 := GOT_29.next hB_30; have cGOT_30_0 : _ = some (Value.bool (qsg en er)) := GOT_30.cell 0; have cGOT_30_1 : _ = some (Value.slice ua un uc) := GOT_30.cell 1; have cGOT_30_2 : _ = some (Value.slice ub um ud) := GOT_30.cell 2; have cGOT_30_3 : _ = some (Value.bool (decide ((o1).num < 0))) := GOT_30.cell 3; have cGOT_30_4 : _ = some (Value.slice g1a g1n g1c) := GOT_30.cell 4; have cGOT_30_5 : _ = some (Value.slice g1b g1m g1d) := GOT_30.cell 5; have cGOT_30_6 : _ = some (Value.bool (decide ((o2).num < 0))) := GOT_30.cell 6; have cGOT_30_7 : _ = some (Value.slice g2a g2n g2c) := GOT_30.cell 7; have cGOT_30_8 : _ = some (Value.slice g2b g2m g2d) := GOT_30.cell 8; have cGOT_30_9 : _ = some (Value.bool (decide ((o3).num < 0))) := GOT_30.cell 9; have cGOT_30_10 : _ = some (Value.slice g3a g3n g3c) := GOT_30.cell 10; have cGOT_30_11 : _ = some (Value.slice g3b g3m g3d) := GOT_30.cell 11; have cGOT_30_12 : _ = some (Value.bool (decide ((o4).num < 0))) := GOT_30.cell 12; have cGOT_30_13 : _ = some (Value.slice g4a g4n g4c) := GOT_30.cell 13; have cGOT_30_14 : _ = some (Value.slice g4b g4m g4d) := GOT_30.cell 14; have cGOT_30_15 : _ = some (Value.bool (qsg ed es)) := GOT_30.cell 15; have cGOT_30_16 : _ = some (Value.slice xa xn xc) := GOT_30.cell 16; have cGOT_30_17 : _ = some (Value.slice xb xm xd) := GOT_30.cell 17; have cGOT_30_18 : _ = some (Value.bool (decide ((o5).num < 0))) := GOT_30.cell 18; have cGOT_30_19 : _ = some (Value.slice g5a g5n g5c) := GOT_30.cell 19; have cGOT_30_20 : _ = some (Value.slice g5b g5m g5d) := GOT_30.cell 20; have cGOT_30_21 : _ = some (Value.bool (decide ((o6).num < 0))) := GOT_30.cell 21; have cGOT_30_22 : _ = some (Value.slice g6a g6n g6c) := GOT_30.cell 22; have cGOT_30_23 : _ = some (Value.slice g6b g6m g6d) := GOT_30.cell 23; have cGOT_30_24 : _ = some (Value.bool (decide ((o7).num < 0))) := GOT_30.cell 24; have cGOT_30_25 : _ = some (Value.slice g7a g7n g7c) := GOT_30.cell 25; have cGOT_30_26 : _ = some (Value.slice g7b g7m g7d) := GOT_30.cell 26; have cGOT_30_27 : _ = some (Value.bool (decide ((o8).num < 0))) := GOT_30.cell 27; have cGOT_30_28 : _ = some (Value.slice g8a g8n g8c) := GOT_30.cell 28; have cGOT_30_29 : _ = some (Value.slice g8b g8m g8d) := GOT_30.cell 29; have hbM_30 := hbM_29.next hB_30; have QX_30 := QX_29.below hB_30; have QP_30 := QP_29.below hB_30; have QY_30 := QY_29.below hB_30; have QR_30 := QR_29.below hB_30; have Ou_30 := Ou_29.below hB_30; have Pu_30 := Pu_29.below hB_30; have Ov_30 := Ov_29.below hB_30; have Pv_30 := Pv_29.below hB_30; have Ox_30 := Ox_29.below hB_30; have Px_30 := Px_29.below hB_30; have Oy_30 := Oy_29.below hB_30; have Py_30 := Py_29.below hB_30; have Og1_30 := Og1_29.below hB_30; have Pg1_30 := Pg1_29.below hB_30; have Og2_30 := Og2_29.below hB_30; have Pg2_30 := Pg2_29.below hB_30; have Og3_30 := Og3_29.below hB_30; have Pg3_30 := Pg3_29.below hB_30; have Og4_30 := Og4_29.below hB_30; have Pg4_30 := Pg4_29.below hB_30; have Og5_30 := Og5_29.below hB_30; have Pg5_30 := Pg5_29.below hB_30; have Og6_30 := Og6_29.below hB_30; have Pg6_30 := Pg6_29.below hB_30; have Og7_30 := Og7_29.below hB_30; have Pg7_30 := Pg7_29.below hB_30; have Og8_30 := Og8_29.below hB_30; have Pg8_30 := Pg8_29.below hB_30; have Oh1_30 := Oh1_29.below hB_30; have Ph1_30 := Ph1_29.below hB_30; have Oh2_30 := Oh2_29.below hB_30; have Ph2_30 := Ph2_29.below hB_30; have Oh3_30 := Oh3_29.below hB_30; have Ph3_30 := Ph3_29.below hB_30; have hbel_30 := hbel_29.next hB_30; have hsz_30 := hB_30.size; clear X_29 cX_29_0 fX_29_0 cX_29_1 fX_29_1 cX_29_2 fX_29_2 Y_29 cY_29_0 fY_29_0 cY_29_1 fY_29_1 cY_29_2 fY_29_2 P_29 cP_29_0 cP_29_1 cP_29_2 R_29 cR_29_0 cR_29_1 cR_29_2 U_29 cU_29_0 cU_29_1 cU_29_2 V_29 cV_29_0 cV_29_1 cV_29_2 E_29 cE_29_0 cE_29_1 cE_29_2 G_29 cG_29_0 cG_29_1 cG_29_2 GOT_29 cGOT_29_0 cGOT_29_1 cGOT_29_2 cGOT_29_3 cGOT_29_4 cGOT_29_5 cGOT_29_6 cGOT_29_7 cGOT_29_8 cGOT_29_9 cGOT_29_10 cGOT_29_11 cGOT_29_12 cGOT_29_13 cGOT_29_14 cGOT_29_15 cGOT_29_16 cGOT_29_17 cGOT_29_18 cGOT_29_19 cGOT_29_20 cGOT_29_21 cGOT_29_22 cGOT_29_23 cGOT_29_24 cGOT_29_25 cGOT_29_26 cGOT_29_27 cGOT_29_28 cGOT_29_29 hbM_29 QX_29 QP_29 QY_29 QR_29 Ou_29 Pu_29 Ov_29 Pv_29 Ox_29 Px_29 Oy_29 Py_29 Og1_29 Pg1_29 Og2_29 Pg2_29 Og3_29 Pg3_29 Og4_29 Pg4_29 Og5_29 Pg5_29 Og6_29 Pg6_29 Og7_29 Pg7_29 Og8_29 Pg8_29 Oh1_29 Ph1_29 Oh2_29 Ph2_29 Oh3_29 Ph3_29 hbel_29 hB_30; have Oh4_30 := hO; have ltOh4 := hO.ltB; have Ph4_30 := hO'; have ltPh4 := hO'.ltB; clear hO hO' hD; try clear hB)))
      | (go_at_call 22; ((with_reducible refine (rqadd (QY_30.below (by first | exact Below.refl _ _ | exact (Below.refl _ _).drew | exact (Below.refl _ _).alloc (Nat.le_refl _) _)) (by omega) (QX_30.below (by first | exact Below.refl _ _ | exact (Below.refl _ _).drew | exact (Below.refl _ _).alloc (Nat.le_refl _) _)) (by omega)).mono ?_); (rw [ho5.out]; rintro e w31 ⟨h5a, h5n, h5c, h5b, h5m, h5d, rfl, hO, hO', hD, hB⟩; have hBT : Below w30.heap.size w30 w31 := (by first | exact hB | exact below_drew hB | exact bel_alloc hB); have T_31 := hid (T_30.out.below hBT); have hbT_31 := hbT_30.next hBT; clear T_30 hbT_30 hBT; have hB_31 : Below w30.heap.size w30 w31 := (by first | exact hB | exact below_drew hB | exact bel_alloc hB); have X_31 := X_30.next hB_31; have cX_31_0 : _ = some (Value.bool s) := X_31.cell 0; have fX_31_0 := X_31.free 0; have cX_31_1 : _ = some (Value.slice a n1 c) := X_31.cell 1; have fX_31_1 := X_31.free 1; have cX_31_2 : _ = some (Value.slice b m1 d) := X_31.cell 2; have fX_31_2 := X_31.free 2; have Y_31 := Y_30.next hB_31; have cY_31_0 : _ = some (Value.bool t) := Y_31.cell 0; have fY_31_0 := Y_31.free 0; have cY_31_1 : _ = some (Value.slice a' n2 c') := Y_31.cell 1; have fY_31_1 := Y_31.free 1; have cY_31_2 : _ = some (Value.slice b' m2 d') := Y_31.cell 2; have fY_31_2 := Y_31.free 2; have P_31 := P_30.next hB_31; have cP_31_0 : _ = some (Value.bool s) := P_31.cell 0; have cP_31_1 : _ = some (Value.slice pa n1 pc) := P_31.cell 1; have cP_31_2 : _ = some (Value.slice pb m1 pd) := P_31.cell 2; have R_31 := R_30.next hB_31; have cR_31_0 : _ = some (Value.bool t) := R_31.cell 0; have cR_31_1 : _ = some (Value.slice ra n2 rc) := R_31.cell 1; have cR_31_2 : _ = some (Value.slice rb m2 rd) := R_31.cell 2; have U_31 := U_30.next hB_31; have cU_31_0 : _ = some (Value.bool (qsg en er)) := U_31.cell 0; have cU_31_1 : _ = some (Value.slice ua un uc) := U_31.cell 1; have cU_31_2 : _ = some (Value.slice ub um ud) := U_31.cell 2; have V_31 := V_30.next hB_31; have cV_31_0 : _ = some (Value.bool (qsg en er)) := V_31.cell 0; have cV_31_1 : _ = some (Value.slice va vn vc) := V_31.cell 1; have cV_31_2 : _ = some (Value.slice vb vm vd) := V_31.cell 2; have E_31 := E_30.next hB_31; have cE_31_0 : _ = some (Value.bool (qsg ed es)) := E_31.cell 0; have cE_31_1 : _ = some (Value.slice xa xn xc) := E_31.cell 1; have cE_31_2 : _ = some (Value.slice xb xm xd) := E_31.cell 2; have G_31 := G_30.next hB_31; have cG_31_0 : _ = some (Value.bool (qsg ed es)) := G_31.cell 0; have cG_31_1 : _ = some (Value.slice ya yn yc) := G_31.cell 1; have cG_31_2 : _ = some (Value.slice yb ym yd) := G_31.cell 2; have GOT_31 := GOT_30.next hB_31; have cGOT_31_0 : _ = some (Value.bool (qsg en er)) := GOT_31.cell 0; have cGOT_31_1 : _ = some (Value.slice ua un uc) := GOT_31.cell 1; have cGOT_31_2 : _ = some (Value.slice ub um ud) := GOT_31.cell 2; have cGOT_31_3 : _ = some (Value.bool (decide ((o1).num < 0))) := GOT_31.cell 3; have cGOT_31_4 : _ = some (Value.slice g1a g1n g1c) := GOT_31.cell 4; have cGOT_31_5 : _ = some (Value.slice g1b g1m g1d) := GOT_31.cell 5; have cGOT_31_6 : _ = some (Value.bool (decide ((o2).num < 0))) := GOT_31.cell 6; have cGOT_31_7 : _ = some (Value.slice g2a g2n g2c) := GOT_31.cell 7; have cGOT_31_8 : _ = some (Value.slice g2b g2m g2d) := GOT_31.cell 8; have cGOT_31_9 : _ = some (Value.bool (decide ((o3).num < 0))) := GOT_31.cell 9; have cGOT_31_10 : _ = some (Value.slice g3a g3n g3c) := GOT_31.cell 10; have cGOT_31_11 : _ = some (Value.slice g3b g3m g3d) := GOT_31.cell 11; have cGOT_31_12 : _ = some (Value.bool (decide ((o4).num < 0))) := GOT_31.cell 12; have cGOT_31_13 : _ = some (Value.slice g4a g4n g4c) := GOT_31.cell 13; have cGOT_31_14 : _ = some (Value.slice g4b g4m g4d) := GOT_31.cell 14; have cGOT_31_15 : _ = some (Value.bool (qsg ed es)) := GOT_31.cell 15; have cGOT_31_16 : _ = some (Value.slice xa xn xc) := GOT_31.cell 16; have cGOT_31_17 : _ = some (Value.slice xb xm xd) := GOT_31.cell 17; have cGOT_31_18 : _ = some (Value.bool (decide ((o5).num < 0))) := GOT_31.cell 18; have cGOT_31_19 : _ = some (Value.slice g5a g5n g5c) := GOT_31.cell 19; have cGOT_31_20 : _ = some (Value.slice g5b g5m g5d) := GOT_31.cell 20; have cGOT_31_21 : _ = some (Value.bool (decide ((o6).num < 0))) := GOT_31.cell 21; have cGOT_31_22 : _ = some (Value.slice g6a g6n g6c) := GOT_31.cell 22; have cGOT_31_23 : _ = some (Value.slice g6b g6m g6d) := GOT_31.cell 23; have cGOT_31_24 : _ = some (Value.bool (decide ((o7).num < 0))) := GOT_31.cell 24; have cGOT_31_25 : _ = some (Value.slice g7a g7n g7c) := GOT_31.cell 25; have cGOT_31_26 : _ = some (Value.slice g7b g7m g7d) := GOT_31.cell 26; have cGOT_31_27 : _ = some (Value.bool (decide ((o8).num < 0))) := GOT_31.cell 27; have cGOT_31_28 : _ = some (Value.slice g8a g8n g8c) := GOT_31.cell 28; have cGOT_31_29 : _ = some (Value.slice g8b g8m g8d) := GOT_31.cell 29; have hbM_31 := hbM_30.next hB_31; have QX_31 := QX_30.below hB_31; have QP_31 := QP_30.below hB_31; have QY_31 := QY_30.below hB_31; have QR_31 := QR_30.below hB_31; have Ou_31 := Ou_30.below hB_31; have Pu_31 := Pu_30.below hB_31; have Ov_31 := Ov_30.below hB_31; have Pv_31 := Pv_30.below hB_31; have Ox_31 := Ox_30.below hB_31; have Px_31 := Px_30.below hB_31; have Oy_31 := Oy_30.below hB_31; have Py_31 := Py_30.below hB_31; have Og1_31 := Og1_30.below hB_31; have Pg1_31 := Pg1_30.below hB_31; have Og2_31 := Og2_30.below hB_31; have Pg2_31 := Pg2_30.below hB_31; have Og3_31 := Og3_30.below hB_31; have Pg3_31 := Pg3_30.below hB_31; have Og4_31 := Og4_30.below hB_31; have Pg4_31 := Pg4_30.below hB_31; have Og5_31 := Og5_30.below hB_31; have Pg5_31 := Pg5_30.below hB_31; have Og6_31 := Og6_30.below hB_31; have Pg6_31 := Pg6_30.below hB_31; have Og7_31 := Og7_30.below hB_31; have Pg7_31 := Pg7_30.below hB_31; have Og8_31 := Og8_30.below hB_31; have Pg8_31 := Pg8_30.below hB_31; have Oh1_31 := Oh1_30.below hB_31; have Ph1_31 := Ph1_30.below hB_31; have Oh2_31 := Oh2_30.below hB_31; have Ph2_31 := Ph2_30.below hB_31; have Oh3_31 := Oh3_30.below hB_31; have Ph3_31 := Ph3_30.below hB_31; have Oh4_31 := Oh4_30.below hB_31; have Ph4_31 := Ph4_30.below hB_31; have hbel_31 := hbel_30.next hB_31; have hsz_31 := hB_31.size; clear X_30 cX_30_0 fX_30_0 cX_30_1 fX_30_1 cX_30_2 fX_30_2 Y_30 cY_30_0 fY_30_0 cY_30_1 fY_30_1 cY_30_2 fY_30_2 P_30 cP_30_0 cP_30_1 cP_30_2 R_30 cR_30_0 cR_30_1 cR_30_2 U_30 cU_30_0 cU_30_1 cU_30_2 V_30 cV_30_0 cV_30_1 cV_30_2 E_30 cE_30_0 cE_30_1 cE_30_2 G_30 cG_30_0 cG_30_1 cG_30_2 GOT_30 cGOT_30_0 cGOT_30_1 cGOT_30_2 cGOT_30_3 cGOT_30_4 cGOT_30_5 cGOT_30_6 cGOT_30_7 cGOT_30_8 cGOT_30_9 cGOT_30_10 cGOT_30_11 cGOT_30_12 cGOT_30_13 cGOT_30_14 cGOT_30_15 cGOT_30_16 cGOT_30_17 cGOT_30_18 cGOT_30_19 cGOT_30_20 cGOT_30_21 cGOT_30_22 cGOT_30_23 cGOT_30_24 cGOT_30_25 cGOT_30_26 cGOT_30_27 cGOT_30_28 cGOT_30_29 hbM_30 QX_30 QP_30 QY_30 QR_30 Ou_30 Pu_30 Ov_30 Pv_30 Ox_30 Px_30 Oy_30 Py_30 Og1_30 Pg1_30 Og2_30 Pg2_30 Og3_30 Pg3_30 Og4_30 Pg4_30 Og5_30 Pg5_30 Og6_30 Pg6_30 Og7_30 Pg7_30 Og8_30 Pg8_30 Oh1_30 Ph1_30 Oh2_30 Ph2_30 Oh3_30 Ph3_30 Oh4_30 Ph4_30 hbel_30 hB_31; have Oh5_31 := hO; have ltOh5 := hO.ltB; have Ph5_31 := hO'; have ltPh5 := hO'.ltB; clear hO hO' hD; try clear hB)))
      | (go_at_call 21; ((with_reducible refine (rqneg (QY_31.below (by first | exact Below.refl _ _ | exact (Below.refl _ _).drew | exact (Below.refl _ _).alloc (Nat.le_refl _) _)) (by omega)).mono ?_); (rw [ho6.out]; rintro e w32 ⟨h6a, h6n, h6c, h6b, h6m, h6d, rfl, hO, hO', hD, hB⟩; have hBT : Below w31.heap.size w31 w32 := (by first | exact hB | exact below_drew hB | exact bel_alloc hB); have T_32 := hid (T_31.out.below hBT); have hbT_32 := hbT_31.next hBT; clear T_31 hbT_31 hBT; have hB_32 : Below w31.heap.size w31 w32 := (by first | exact hB | exact below_drew hB | exact bel_alloc hB); have X_32 := X_31.next hB_32; have cX_32_0 : _ = some (Value.bool s) := X_32.cell 0; have fX_32_0 := X_32.free 0; have cX_32_1 : _ = some (Value.slice a n1 c) := X_32.cell 1; have fX_32_1 := X_32.free 1; have cX_32_2 : _ = some (Value.slice b m1 d) := X_32.cell 2; have fX_32_2 := X_32.free 2; have Y_32 := Y_31.next hB_32; have cY_32_0 : _ = some (Value.bool t) := Y_32.cell 0; have fY_32_0 := Y_32.free 0; have cY_32_1 : _ = some (Value.slice a' n2 c') := Y_32.cell 1; have fY_32_1 := Y_32.free 1; have cY_32_2 : _ = some (Value.slice b' m2 d') := Y_32.cell 2; have fY_32_2 := Y_32.free 2; have P_32 := P_31.next hB_32; have cP_32_0 : _ = some (Value.bool s) := P_32.cell 0; have cP_32_1 : _ = some (Value.slice pa n1 pc) := P_32.cell 1; have cP_32_2 : _ = some (Value.slice pb m1 pd) := P_32.cell 2; have R_32 := R_31.next hB_32; have cR_32_0 : _ = some (Value.bool t) := R_32.cell 0; have cR_32_1 : _ = some (Value.slice ra n2 rc) := R_32.cell 1; have cR_32_2 : _ = some (Value.slice rb m2 rd) := R_32.cell 2; have U_32 := U_31.next hB_32; have cU_32_0 : _ = some (Value.bool (qsg en er)) := U_32.cell 0; have cU_32_1 : _ = some (Value.slice ua un uc) := U_32.cell 1; have cU_32_2 : _ = some (Value.slice ub um ud) := U_32.cell 2; have V_32 := V_31.next hB_32; have cV_32_0 : _ = some (Value.bool (qsg en er)) := V_32.cell 0; have cV_32_1 : _ = some (Value.slice va vn vc) := V_32.cell 1; have cV_32_2 : _ = some (Value.slice vb vm vd) := V_32.cell 2; have E_32 := E_31.next hB_32; have cE_32_0 : _ = some (Value.bool (qsg ed es)) := E_32.cell 0; have cE_32_1 : _ = some (Value.slice xa xn xc) := E_32.cell 1; have cE_32_2 : _ = some (Value.slice xb xm xd) := E_32.cell 2; have G_32 := G_31.next hB_32; have cG_32_0 : _ = some (Value.bool (qsg ed es)) := G_32.cell 0; have cG_32_1 : _ = some (Value.slice ya yn yc) := G_32.cell 1; have cG_32_2 : _ = some (Value.slice yb ym yd) := G_32.cell 2; have GOT_32 := GOT_31.next hB_32; have cGOT_32_0 : _ = some (Value.bool (qsg en er)) := GOT_32.cell 0; have cGOT_32_1 : _ = some (Value.slice ua un uc) := GOT_32.cell 1; have cGOT_32_2 : _ = some (Value.slice ub um ud) := GOT_32.cell 2; have cGOT_32_3 : _ = some (Value.bool (decide ((o1).num < 0))) := GOT_32.cell 3; have cGOT_32_4 : _ = some (Value.slice g1a g1n g1c) := GOT_32.cell 4; have cGOT_32_5 : _ = some (Value.slice g1b g1m g1d) := GOT_32.cell 5; have cGOT_32_6 : _ = some (Value.bool (decide ((o2).num < 0))) := GOT_32.cell 6; have cGOT_32_7 : _ = some (Value.slice g2a g2n g2c) := GOT_32.cell 7; have cGOT_32_8 : _ = some (Value.slice g2b g2m g2d) := GOT_32.cell 8; have cGOT_32_9 : _ = some (Value.bool (decide ((o3).num < 0))) := GOT_32.cell 9; have cGOT_32_10 : _ = some (Value.slice g3a g3n g3c) := GOT_32.cell 10; have cGOT_32_11 : _ = some (Value.slice g3b g3m g3d) := GOT_32.cell 11; have cGOT_32_12 : _ = some (Value.bool (decide ((o4).num < 0))) := GOT_32.cell 12; have cGOT_32_13 : _ = some (Value.slice g4a g4n g4c) := GOT_32.cell 13; have cGOT_32_14 : _ = some (Value.slice g4b g4m g4d) := GOT_32.cell 14; have cGOT_32_15 : _ = some (Value.bool (qsg ed es)) := GOT_32.cell 15; have cGOT_32_16 : _ = some (Value.slice xa xn xc) := GOT_32.cell 16; have cGOT_32_17 : _ = some (Value.slice xb xm xd) := GOT_32.cell 17; have cGOT_32_18 : _ = some (Value.bool (decide ((o5).num < 0))) := GOT_32.cell 18; have cGOT_32_19 : _ = some (Value.slice g5a g5n g5c) := GOT_32.cell 19; have cGOT_32_20 : _ = some (Value.slice g5b g5m g5d) := GOT_32.cell 20; have cGOT_32_21 : _ = some (Value.bool (decide ((o6).num < 0))) := GOT_32.cell 21; have cGOT_32_22 : _ = some (Value.slice g6a g6n g6c) := GOT_32.cell 22; have cGOT_32_23 : _ = some (Value.slice g6b g6m g6d) := GOT_32.cell 23; have cGOT_32_24 : _ = some (Value.bool (decide ((o7).num < 0))) := GOT_32.cell 24; have cGOT_32_25 : _ = some (Value.slice g7a g7n g7c) := GOT_32.cell 25; have cGOT_32_26 : _ = some (Value.slice g7b g7m g7d) := GOT_32.cell 26; have cGOT_32_27 : _ = some (Value.bool (decide ((o8).num < 0))) := GOT_32.cell 27; have cGOT_32_28 : _ = some (Value.slice g8a g8n g8c) := GOT_32.cell 28; have cGOT_32_29 : _ = some (Value.slice g8b g8m g8d) := GOT_32.cell 29; have hbM_32 := hbM_31.next hB_32; have QX_32 := QX_31.below hB_32; have QP_32 := QP_31.below hB_32; have QY_32 := QY_31.below hB_32; have QR_32 := QR_31.below hB_32; have Ou_32 := Ou_31.below hB_32; have Pu_32 := Pu_31.below hB_32; have Ov_32 := Ov_31.below hB_32; have Pv_32 := Pv_31.below hB_32; have Ox_32 := Ox_31.below hB_32; have Px_32 := Px_31.below hB_32; have Oy_32 := Oy_31.below hB_32; have Py_32 := Py_31.below hB_32; have Og1_32 := Og1_31.below hB_32; have Pg1_32 := Pg1_31.below hB_32; have Og2_32 := Og2_31.below hB_32; have Pg2_32 := Pg2_31.below hB_32; have Og3_32 := Og3_31.below hB_32; have Pg3_32 := Pg3_31.below hB_32; have Og4_32 := Og4_31.below hB_32; have Pg4_32 := Pg4_31.below hB_32; have Og5_32 := Og5_31.below hB_32; have Pg5_32 := Pg5_31.below hB_32; have Og6_32 := Og6_31.below hB_32; have Pg6_32 := Pg6_31.below hB_32; have Og7_32 := Og7_31.below hB_32; have Pg7_32 := Pg7_31.below hB_32; have Og8_32 := Og8_31.below hB_32; have Pg8_32 := Pg8_31.below hB_32; have Oh1_32 := Oh1_31.below hB_32; have Ph1_32 := Ph1_31.below hB_32; have Oh2_32 := Oh2_31.below hB_32; have Ph2_32 := Ph2_31.below hB_32; have Oh3_32 := Oh3_31.below hB_32; have Ph3_32 := Ph3_31.below hB_32; have Oh4_32 := Oh4_31.below hB_32; have Ph4_32 := Ph4_31.below hB_32; have Oh5_32 := Oh5_31.below hB_32; have Ph5_32 := Ph5_31.below hB_32; have hbel_32 := hbel_31.next hB_32; have hsz_32 := hB_32.size; clear X_31 cX_31_0 fX_31_0 cX_31_1 fX_31_1 cX_31_2 fX_31_2 Y_31 cY_31_0 fY_31_0 cY_31_1 fY_31_1 cY_31_2 fY_31_2 P_31 cP_31_0 cP_31_1 cP_31_2 R_31 cR_31_0 cR_31_1 cR_31_2 U_31 cU_31_0 cU_31_1 cU_31_2 V_31 cV_31_0 cV_31_1 cV_31_2 E_31 cE_31_0 cE_31_1 cE_31_2 G_31 cG_31_0 cG_31_1 cG_31_2 GOT_31 cGOT_31_0 cGOT_31_1 cGOT_31_2 cGOT_31_3 cGOT_31_4 cGOT_31_5 cGOT_31_6 cGOT_31_7 cGOT_31_8 cGOT_31_9 cGOT_31_10 cGOT_31_11 cGOT_31_12 cGOT_31_13 cGOT_31_14 cGOT_31_15 cGOT_31_16 cGOT_31_17 cGOT_31_18 cGOT_31_19 cGOT_31_20 cGOT_31_21 cGOT_31_22 cGOT_31_23 cGOT_31_24 cGOT_31_25 cGOT_31_26 cGOT_31_27 cGOT_31_28 cGOT_31_29 hbM_31 QX_31 QP_31 QY_31 QR_31 Ou_31 Pu_31 Ov_31 Pv_31 Ox_31 Px_31 Oy_31 Py_31 Og1_31 Pg1_31 Og2_31 Pg2_31 Og3_31 Pg3_31 Og4_31 Pg4_31 Og5_31 Pg5_31 Og6_31 Pg6_31 Og7_31 Pg7_31 Og8_31 Pg8_31 Oh1_31 Ph1_31 Oh2_31 Ph2_31 Oh3_31 Ph3_31 Oh4_31 Ph4_31 Oh5_31 Ph5_31 hbel_31 hB_32; have Oh6_32 := hO; have ltOh6 := hO.ltB; have Ph6_32 := hO'; have ltPh6 := hO'.ltB; clear hO hO' hD; try clear hB)))
      | (go_at_call 24; ((with_reducible refine (rqmul (QY_32.below (by first | exact Below.refl _ _ | exact (Below.refl _ _).drew | exact (Below.refl _ _).alloc (Nat.le_refl _) _)) (by omega) (QX_32.below (by first | exact Below.refl _ _ | exact (Below.refl _ _).drew | exact (Below.refl _ _).alloc (Nat.le_refl _) _)) (by omega)).mono ?_); (rw [ho7.out]; rintro e w33 ⟨h7a, h7n, h7c, h7b, h7m, h7d, rfl, hO, hO', hD, hB⟩; have hBT : Below w32.heap.size w32 w33 := (by first | exact hB | exact below_drew hB | exact bel_alloc hB); have T_33 := hid (T_32.out.below hBT); have hbT_33 := hbT_32.next hBT; clear T_32 hbT_32 hBT; have hB_33 : Below w32.heap.size w32 w33 := (by first | exact hB | exact below_drew hB | exact bel_alloc hB); have X_33 := X_32.next hB_33; have cX_33_0 : _ = some (Value.bool s) := X_33.cell 0; have fX_33_0 := X_33.free 0; have cX_33_1 : _ = some (Value.slice a n1 c) := X_33.cell 1; have fX_33_1 := X_33.free 1; have cX_33_2 : _ = some (Value.slice b m1 d) := X_33.cell 2; have fX_33_2 := X_33.free 2; have Y_33 := Y_32.next hB_33; have cY_33_0 : _ = some (Value.bool t) := Y_33.cell 0; have fY_33_0 := Y_33.free 0; have cY_33_1 : _ = some (Value.slice a' n2 c') := Y_33.cell 1; have fY_33_1 := Y_33.free 1; have cY_33_2 : _ = some (Value.slice b' m2 d') := Y_33.cell 2; have fY_33_2 := Y_33.free 2; have P_33 := P_32.next hB_33; have cP_33_0 : _ = some (Value.bool s) := P_33.cell 0; have cP_33_1 : _ = some (Value.slice pa n1 pc) := P_33.cell 1; have cP_33_2 : _ = some (Value.slice pb m1 pd) := P_33.cell 2; have R_33 := R_32.next hB_33; have cR_33_0 : _ = some (Value.bool t) := R_33.cell 0; have cR_33_1 : _ = some (Value.slice ra n2 rc) := R_33.cell 1; have cR_33_2 : _ = some (Value.slice rb m2 rd) := R_33.cell 2; have U_33 := U_32.next hB_33; have cU_33_0 : _ = some (Value.bool (qsg en er)) := U_33.cell 0; have cU_33_1 : _ = some (Value.slice ua un uc) := U_33.cell 1; have cU_33_2 : _ = some (Value.slice ub um ud) := U_33.cell 2; have V_33 := V_32.next hB_33; have cV_33_0 : _ = some (Value.bool (qsg en er)) := V_33.cell 0; have cV_33_1 : _ = some (Value.slice va vn vc) := V_33.cell 1; have cV_33_2 : _ = some (Value.slice vb vm vd) := V_33.cell 2; have E_33 := E_32.next hB_33; have cE_33_0 : _ = some (Value.bool (qsg ed es)) := E_33.cell 0; have cE_33_1 : _ = some (Value.slice xa xn xc) := E_33.cell 1; have cE_33_2 : _ = some (Value.slice xb xm xd) := E_33.cell 2; have G_33 := G_32.next hB_33; have cG_33_0 : _ = some (Value.bool (qsg ed es)) := G_33.cell 0; have cG_33_1 : _ = some (Value.slice ya yn yc) := G_33.cell 1; have cG_33_2 : _ = some (Value.slice yb ym yd) := G_33.cell 2; have GOT_33 := GOT_32.next hB_33; have cGOT_33_0 : _ = some (Value.bool (qsg en er)) := GOT_33.cell 0; have cGOT_33_1 : _ = some (Value.slice ua un uc) := GOT_33.cell 1; have cGOT_33_2 : _ = some (Value.slice ub um ud) := GOT_33.cell 2; have cGOT_33_3 : _ = some (Value.bool (decide ((o1).num < 0))) := GOT_33.cell 3; have cGOT_33_4 : _ = some (Value.slice g1a g1n g1c) := GOT_33.cell 4; have cGOT_33_5 : _ = some (Value.slice g1b g1m g1d) := GOT_33.cell 5; have cGOT_33_6 : _ = some (Value.bool (decide ((o2).num < 0))) := GOT_33.cell 6; have cGOT_33_7 : _ = some (Value.slice g2a g2n g2c) := GOT_33.cell 7; have cGOT_33_8 : _ = some (Value.slice g2b g2m g2d) := GOT_33.cell 8; have cGOT_33_9 : _ = some (Value.bool (decide ((o3).num < 0))) := GOT_33.cell 9; have cGOT_33_10 : _ = some (Value.slice g3a g3n g3c) := GOT_33.cell 10; have cGOT_33_11 : _ = some (Value.slice g3b g3m g3d) := GOT_33.cell 11; have cGOT_33_12 : _ = some (Value.bool (decide ((o4).num < 0))) := GOT_33.cell 12; have cGOT_33_13 : _ = some (Value.slice g4a g4n g4c) := GOT_33.cell 13; have cGOT_33_14 : _ = some (Value.slice g4b g4m g4d) := GOT_33.cell 14; have cGOT_33_15 : _ = some (Value.bool (qsg ed es)) := GOT_33.cell 15; have cGOT_33_16 : _ = some (Value.slice xa xn xc) := GOT_33.cell 16; have cGOT_33_17 : _ = some (Value.slice xb xm xd) := GOT_33.cell 17; have cGOT_33_18 : _ = some (Value.bool (decide ((o5).num < 0))) := GOT_33.cell 18; have cGOT_33_19 : _ = some (Value.slice g5a g5n g5c) := GOT_33.cell 19; have cGOT_33_20 : _ = some (Value.slice g5b g5m g5d) := GOT_33.cell 20; have cGOT_33_21 : _ = some (Value.bool (decide ((o6).num < 0))) := GOT_33.cell 21; have cGOT_33_22 : _ = some (Value.slice g6a g6n g6c) := GOT_33.cell 22; have cGOT_33_23 : _ = some (Value.slice g6b g6m g6d) := GOT_33.cell 23; have cGOT_33_24 : _ = some (Value.bool (decide ((o7).num < 0))) := GOT_33.cell 24; have cGOT_33_25 : _ = some (Value.slice g7a g7n g7c) := GOT_33.cell 25; have cGOT_33_26 : _ = some (Value.slice g7b g7m g7d) := GOT_33.cell 26; have cGOT_33_27 : _ = some (Value.bool (decide ((o8).num < 0))) := GOT_33.cell 27; have cGOT_33_28 : _ = some (Value.slice g8a g8n g8c) := GOT_33.cell 28; have cGOT_33_29 : _ = some (Value.slice g8b g8m g8d) := GOT_33.cell 29; have hbM_33 := hbM_32.next hB_33; have QX_33 := QX_32.below hB_33; have QP_33 := QP_32.below hB_33; have QY_33 := QY_32.below hB_33; have QR_33 := QR_32.below hB_33; have Ou_33 := Ou_32.below hB_33; have Pu_33 := Pu_32.below hB_33; have Ov_33 := Ov_32.below hB_33; have Pv_33 := Pv_32.below hB_33; have Ox_33 := Ox_32.below hB_33; have Px_33 := Px_32.below hB_33; have Oy_33 := Oy_32.below hB_33; have Py_33 := Py_32.below hB_33; have Og1_33 := Og1_32.below hB_33; have Pg1_33 := Pg1_32.below hB_33; have Og2_33 := Og2_32.below hB_33; have Pg2_33 := Pg2_32.below hB_33; have Og3_33 := Og3_32.below hB_33; have Pg3_33 := Pg3_32.below hB_33; have Og4_33 := Og4_32.below hB_33; have Pg4_33 := Pg4_32.below hB_33; have Og5_33 := Og5_32.below hB_33; have Pg5_33 := Pg5_32.below hB_33; have Og6_33 := Og6_32.below hB_33; have Pg6_33 := Pg6_32.below hB_33; have Og7_33 := Og7_32.below hB_33; have Pg7_33 := Pg7_32.below hB_33; have Og8_33 := Og8_32.below hB_33; have Pg8_33 := Pg8_32.below hB_33; have Oh1_33 := Oh1_32.below hB_33; have Ph1_33 := Ph1_32.below hB_33; have Oh2_33 := Oh2_32.below hB_33; have Ph2_33 := Ph2_32.below hB_33; have Oh3_33 := Oh3_32.below hB_33; have Ph3_33 := Ph3_32.below hB_33; have Oh4_33 := Oh4_32.below hB_33; have Ph4_33 := Ph4_32.below hB_33; have Oh5_33 := Oh5_32.below hB_33; have Ph5_33 := Ph5_32.below hB_33; have Oh6_33 := Oh6_32.below hB_33; have Ph6_33 := Ph6_32.below hB_33; have hbel_33 := hbel_32.next hB_33; have hsz_33 := hB_33.size; clear X_32 cX_32_0 fX_32_0 cX_32_1 fX_32_1 cX_32_2 fX_32_2 Y_32 cY_32_0 fY_32_0 cY_32_1 fY_32_1 cY_32_2 fY_32_2 P_32 cP_32_0 cP_32_1 cP_32_2 R_32 cR_32_0 cR_32_1 cR_32_2 U_32 cU_32_0 cU_32_1 cU_32_2 V_32 cV_32_0 cV_32_1 cV_32_2 E_32 cE_32_0 cE_32_1 cE_32_2 G_32 cG_32_0 cG_32_1 cG_32_2 GOT_32 cGOT_32_0 cGOT_32_1 cGOT_32_2 cGOT_32_3 cGOT_32_4 cGOT_32_5 cGOT_32_6 cGOT_32_7 cGOT_32_8 cGOT_32_9 cGOT_32_10 cGOT_32_11 cGOT_32_12 cGOT_32_13 cGOT_32_14 cGOT_32_15 cGOT_32_16 cGOT_32_17 cGOT_32_18 cGOT_32_19 cGOT_32_20 cGOT_32_21 cGOT_32_22 cGOT_32_23 cGOT_32_24 cGOT_32_25 cGOT_32_26 cGOT_32_27 cGOT_32_28 cGOT_32_29 hbM_32 QX_32 QP_32 QY_32 QR_32 Ou_32 Pu_32 Ov_32 Pv_32 Ox_32 Px_32 Oy_32 Py_32 Og1_32 Pg1_32 Og2_32 Pg2_32 Og3_32 Pg3_32 Og4_32 Pg4_32 Og5_32 Pg5_32 Og6_32 Pg6_32 Og7_32 Pg7_32 Og8_32 Pg8_32 Oh1_32 Ph1_32 Oh2_32 Ph2_32 Oh3_32 Ph3_32 Oh4_32 Ph4_32 Oh5_32 Ph5_32 Oh6_32 Ph6_32 hbel_32 hB_33; have Oh7_33 := hO; have ltOh7 := hO.ltB; have Ph7_33 := hO'; have ltPh7 := hO'.ltB; clear hO hO' hD; try clear hB)))
      | (go_at_call 23; ((with_reducible refine (rqsub (QY_33.below (by first | exact Below.refl _ _ | exact (Below.refl _ _).drew | exact (Below.refl _ _).alloc (Nat.le_refl _) _)) (by omega) (QY_33.below (by first | exact Below.refl _ _ | exact (Below.refl _ _).drew | exact (Below.refl _ _).alloc (Nat.le_refl _) _)) (by omega)).mono ?_); (rw [ho8.out]; rintro e w34 ⟨h8a, h8n, h8c, h8b, h8m, h8d, rfl, hO, hO', hD, hB⟩; have hBT : Below w33.heap.size w33 w34 := (by first | exact hB | exact below_drew hB | exact bel_alloc hB); have T_34 := hid (T_33.out.below hBT); have hbT_34 := hbT_33.next hBT; clear T_33 hbT_33 hBT; have hB_34 : Below w33.heap.size w33 w34 := (by first | exact hB | exact below_drew hB | exact bel_alloc hB); have X_34 := X_33.next hB_34; have cX_34_0 : _ = some (Value.bool s) := X_34.cell 0; have fX_34_0 := X_34.free 0; have cX_34_1 : _ = some (Value.slice a n1 c) := X_34.cell 1; have fX_34_1 := X_34.free 1; have cX_34_2 : _ = some (Value.slice b m1 d) := X_34.cell 2; have fX_34_2 := X_34.free 2; have Y_34 := Y_33.next hB_34; have cY_34_0 : _ = some (Value.bool t) := Y_34.cell 0; have fY_34_0 := Y_34.free 0; have cY_34_1 : _ = some (Value.slice a' n2 c') := Y_34.cell 1; have fY_34_1 := Y_34.free 1; have cY_34_2 : _ = some (Value.slice b' m2 d') := Y_34.cell 2; have fY_34_2 := Y_34.free 2; have P_34 := P_33.next hB_34; have cP_34_0 : _ = some (Value.bool s) := P_34.cell 0; have cP_34_1 : _ = some (Value.slice pa n1 pc) := P_34.cell 1; have cP_34_2 : _ = some (Value.slice pb m1 pd) := P_34.cell 2; have R_34 := R_33.next hB_34; have cR_34_0 : _ = some (Value.bool t) := R_34.cell 0; have cR_34_1 : _ = some (Value.slice ra n2 rc) := R_34.cell 1; have cR_34_2 : _ = some (Value.slice rb m2 rd) := R_34.cell 2; have U_34 := U_33.next hB_34; have cU_34_0 : _ = some (Value.bool (qsg en er)) := U_34.cell 0; have cU_34_1 : _ = some (Value.slice ua un uc) := U_34.cell 1; have cU_34_2 : _ = some (Value.slice ub um ud) := U_34.cell 2; have V_34 := V_33.next hB_34; have cV_34_0 : _ = some (Value.bool (qsg en er)) := V_34.cell 0; have cV_34_1 : _ = some (Value.slice va vn vc) := V_34.cell 1; have cV_34_2 : _ = some (Value.slice vb vm vd) := V_34.cell 2; have E_34 := E_33.next hB_34; have cE_34_0 : _ = some (Value.bool (qsg ed es)) := E_34.cell 0; have cE_34_1 : _ = some (Value.slice xa xn xc) := E_34.cell 1; have cE_34_2 : _ = some (Value.slice xb xm xd) := E_34.cell 2; have G_34 := G_33.next hB_34; have cG_34_0 : _ = some (Value.bool (qsg ed es)) := G_34.cell 0; have cG_34_1 : _ = some (Value.slice ya yn yc) := G_34.cell 1; have cG_34_2 : _ = some (Value.slice yb ym yd) := G_34.cell 2; have GOT_34 := GOT_33.next hB_34; have cGOT_34_0 : _ = some (Value.bool (qsg en er)) := GOT_34.cell 0; have cGOT_34_1 : _ = some (Value.slice ua un uc) := GOT_34.cell 1; have cGOT_34_2 : _ = some (Value.slice ub um ud) := GOT_34.cell 2; have cGOT_34_3 : _ = some (Value.bool (decide ((o1).num < 0))) := GOT_34.cell 3; have cGOT_34_4 : _ = some (Value.slice g1a g1n g1c) := GOT_34.cell 4; have cGOT_34_5 : _ = some (Value.slice g1b g1m g1d) := GOT_34.cell 5; have cGOT_34_6 : _ = some (Value.bool (decide ((o2).num < 0))) := GOT_34.cell 6; have cGOT_34_7 : _ = some (Value.slice g2a g2n g2c) := GOT_34.cell 7; have cGOT_34_8 : _ = some (Value.slice g2b g2m g2d) := GOT_34.cell 8; have cGOT_34_9 : _ = some (Value.bool (decide ((o3).num < 0))) := GOT_34.cell 9; have cGOT_34_10 : _ = some (Value.slice g3a g3n g3c) := GOT_34.cell 10; have cGOT_34_11 : _ = some (Value.slice g3b g3m g3d) := GOT_34.cell 11; have cGOT_34_12 : _ = some (Value.bool (decide ((o4).num < 0))) := GOT_34.cell 12; have cGOT_34_13 : _ = some (Value.slice g4a g4n g4c) := GOT_34.cell 13; have cGOT_34_14 : _ = some (Value.slice g4b g4m g4d) := GOT_34.cell 14; have cGOT_34_15 : _ = some (Value.bool (qsg ed es)) := GOT_34.cell 15; have cGOT_34_16 : _ = some (Value.slice xa xn xc) := GOT_34.cell 16; have cGOT_34_17 : _ = some (Value.slice xb xm xd) := GOT_34.cell 17; have cGOT_34_18 : _ = some (Value.bool (decide ((o5).num < 0))) := GOT_34.cell 18; have cGOT_34_19 : _ = some (Value.slice g5a g5n g5c) := GOT_34.cell 19; have cGOT_34_20 : _ = some (Value.slice g5b g5m g5d) := GOT_34.cell 20; have cGOT_34_21 : _ = some (Value.bool (decide ((o6).num < 0))) := GOT_34.cell 21; have cGOT_34_22 : _ = some (Value.slice g6a g6n g6c) := GOT_34.cell 22; have cGOT_34_23 : _ = some (Value.slice g6b g6m g6d) := GOT_34.cell 23; have cGOT_34_24 : _ = some (Value.bool (decide ((o7).num < 0))) := GOT_34.cell 24; have cGOT_34_25 : _ = some (Value.slice g7a g7n g7c) := GOT_34.cell 25; have cGOT_34_26 : _ = some (Value.slice g7b g7m g7d) := GOT_34.cell 26; have cGOT_34_27 : _ = some (Value.bool (decide ((o8).num < 0))) := GOT_34.cell 27; have cGOT_34_28 : _ = some (Value.slice g8a g8n g8c) := GOT_34.cell 28; have cGOT_34_29 : _ = some (Value.slice g8b g8m g8d) := GOT_34.cell 29; have hbM_34 := hbM_33.next hB_34; have QX_34 := QX_33.below hB_34; have QP_34 := QP_33.below hB_34; have QY_34 := QY_33.below hB_34; have QR_34 := QR_33.below hB_34; have Ou_34 := Ou_33.below hB_34; have Pu_34 := Pu_33.below hB_34; have Ov_34 := Ov_33.below hB_34; have Pv_34 := Pv_33.below hB_34; have Ox_34 := Ox_33.below hB_34; have Px_34 := Px_33.below hB_34; have Oy_34 := Oy_33.below hB_34; have Py_34 := Py_33.below hB_34; have Og1_34 := Og1_33.below hB_34; have Pg1_34 := Pg1_33.below hB_34; have Og2_34 := Og2_33.below hB_34; have Pg2_34 := Pg2_33.below hB_34; have Og3_34 := Og3_33.below hB_34; have Pg3_34 := Pg3_33.below hB_34; have Og4_34 := Og4_33.below hB_34; have Pg4_34 := Pg4_33.below hB_34; have Og5_34 := Og5_33.below hB_34; have Pg5_34 := Pg5_33.below hB_34; have Og6_34 := Og6_33.below hB_34; have Pg6_34 := Pg6_33.below hB_34; have Og7_34 := Og7_33.below hB_34; have Pg7_34 := Pg7_33.below hB_34; have Og8_34 := Og8_33.below hB_34; have Pg8_34 := Pg8_33.below hB_34; have Oh1_34 := Oh1_33.below hB_34; have Ph1_34 := Ph1_33.below hB_34; have Oh2_34 := Oh2_33.below hB_34; have Ph2_34 := Ph2_33.below hB_34; have Oh3_34 := Oh3_33.below hB_34; have Ph3_34 := Ph3_33.below hB_34; have Oh4_34 := Oh4_33.below hB_34; have Ph4_34 := Ph4_33.below hB_34; have Oh5_34 := Oh5_33.below hB_34; have Ph5_34 := Ph5_33.below hB_34; have Oh6_34 := Oh6_33.below hB_34; have Ph6_34 := Ph6_33.below hB_34; have Oh7_34 := Oh7_33.below hB_34; have Ph7_34 := Ph7_33.below hB_34; have hbel_34 := hbel_33.next hB_34; have hsz_34 := hB_34.size; clear X_33 cX_33_0 fX_33_0 cX_33_1 fX_33_1 cX_33_2 fX_33_2 Y_33 cY_33_0 fY_33_0 cY_33_1 fY_33_1 cY_33_2 fY_33_2 P_33 cP_33_0 cP_33_1 cP_33_2 R_33 cR_33_0 cR_33_1 cR_33_2 U_33 cU_33_0 cU_33_1 cU_33_2 V_33 cV_33_0 cV_33_1 cV_33_2 E_33 cE_33_0 cE_33_1 cE_33_2 G_33 cG_33_0 cG_33_1 cG_33_2 GOT_33 cGOT_33_0 cGOT_33_1 cGOT_33_2 cGOT_33_3 cGOT_33_4 cGOT_33_5 cGOT_33_6 cGOT_33_7 cGOT_33_8 cGOT_33_9 cGOT_33_10 cGOT_33_11 cGOT_33_12 cGOT_33_13 cGOT_33_14 cGOT_33_15 cGOT_33_16 cGOT_33_17 cGOT_33_18 cGOT_33_19 cGOT_33_20 cGOT_33_21 cGOT_33_22 cGOT_33_23 cGOT_33_24 cGOT_33_25 cGOT_33_26 cGOT_33_27 cGOT_33_28 cGOT_33_29 hbM_33 QX_33 QP_33 QY_33 QR_33 Ou_33 Pu_33 Ov_33 Pv_33 Ox_33 Px_33 Oy_33 Py_33 Og1_33 Pg1_33 Og2_33 Pg2_33 Og3_33 Pg3_33 Og4_33 Pg4_33 Og5_33 Pg5_33 Og6_33 Pg6_33 Og7_33 Pg7_33 Og8_33 Pg8_33 Oh1_33 Ph1_33 Oh2_33 Ph2_33 Oh3_33 Ph3_33 Oh4_33 Ph4_33 Oh5_33 Ph5_33 Oh6_33 Ph6_33 Oh7_33 Ph7_33 hbel_33 hB_34; have Oh8_34 := hO; have ltOh8 := hO.ltB; have Ph8_34 := hO'; have ltPh8 := hO'.ltB; clear hO hO' hD; try clear hB))))
  have hbx := blk_new w34 #[Value.bool (qsg en er), Value.slice va vn vc, Value.slice vb vm vd, Value.bool (decide ((o1).num < 0)), Value.slice h1a h1n h1c, Value.slice h1b h1m h1d, Value.bool (decide ((o2).num < 0)), Value.slice h2a h2n h2c, Value.slice h2b h2m h2d, Value.bool (decide ((o3).num < 0)), Value.slice h3a h3n h3c, Value.slice h3b h3m h3d, Value.bool (decide ((o4).num < 0)), Value.slice h4a h4n h4c, Value.slice h4b h4m h4d, Value.bool (qsg ed es), Value.slice ya yn yc, Value.slice yb ym yd, Value.bool (decide ((o5).num < 0)), Value.slice h5a h5n h5c, Value.slice h5b h5m h5d, Value.bool (decide ((o6).num < 0)), Value.slice h6a h6n h6c, Value.slice h6b h6m h6d, Value.bool (decide ((o7).num < 0)), Value.slice h7a h7n h7c, Value.slice h7b h7m h7d, Value.bool (decide ((o8).num < 0)), Value.slice h8a h8n h8c, Value.slice h8b h8m h8d] 27
  have hbB := (Below.refl w34.heap.size w34).alloc (Nat.le_refl _) (.cells #[Value.bool (qsg en er), Value.slice va vn vc, Value.slice vb vm vd, Value.bool (decide ((o1).num < 0)), Value.slice h1a h1n h1c, Value.slice h1b h1m h1d, Value.bool (decide ((o2).num < 0)), Value.slice h2a h2n h2c, Value.slice h2b h2m h2d, Value.bool (decide ((o3).num < 0)), Value.slice h3a h3n h3c, Value.slice h3b h3m h3d, Value.bool (decide ((o4).num < 0)), Value.slice h4a h4n h4c, Value.slice h4b h4m h4d, Value.bool (qsg ed es), Value.slice ya yn yc, Value.slice yb ym yd, Value.bool (decide ((o5).num < 0)), Value.slice h5a h5n h5c, Value.slice h5b h5m h5d, Value.bool (decide ((o6).num < 0)), Value.slice h6a h6n h6c, Value.slice h6b h6m h6d, Value.bool (decide ((o7).num < 0)), Value.slice h7a h7n h7c, Value.slice h7b h7m h7d, Value.bool (decide ((o8).num < 0)), Value.slice h8a h8n h8c, Value.slice h8b h8m h8d] 27)
  have hltWANT := hbx.lt
  have hBT : Below w34.heap.size w34 (w34.alloc (.cells #[Value.bool (qsg en er), Value.slice va vn vc, Value.slice vb vm vd, Value.bool (decide ((o1).num < 0)), Value.slice h1a h1n h1c, Value.slice h1b h1m h1d, Value.bool (decide ((o2).num < 0)), Value.slice h2a h2n h2c, Value.slice h2b h2m h2d, Value.bool (decide ((o3).num < 0)), Value.slice h3a h3n h3c, Value.slice h3b h3m h3d, Value.bool (decide ((o4).num < 0)), Value.slice h4a h4n h4c, Value.slice h4b h4m h4d, Value.bool (qsg ed es), Value.slice ya yn yc, Value.slice yb ym yd, Value.bool (decide ((o5).num < 0)), Value.slice h5a h5n h5c, Value.slice h5b h5m h5d, Value.bool (decide ((o6).num < 0)), Value.slice h6a h6n h6c, Value.slice h6b h6m h6d, Value.bool (decide ((o7).num < 0)), Value.slice h7a h7n h7c, Value.slice h7b h7m h7d, Value.bool (decide ((o8).num < 0)), Value.slice h8a h8n h8c, Value.slice h8b h8m h8d] 27)) := hbB
  have T_35 := hid (T_34.out.below hBT)
  have hbT_35 := hbT_34.next hBT
  clear T_34 hbT_34 hBT
  have hB_35 : Below w34.heap.size w34 (w34.alloc (.cells #[Value.bool (qsg en er), Value.slice va vn vc, Value.slice vb vm vd, Value.bool (decide ((o1).num < 0)), Value.slice h1a h1n h1c, Value.slice h1b h1m h1d, Value.bool (decide ((o2).num < 0)), Value.slice h2a h2n h2c, Value.slice h2b h2m h2d, Value.bool (decide ((o3).num < 0)), Value.slice h3a h3n h3c, Value.slice h3b h3m h3d, Value.bool (decide ((o4).num < 0)), Value.slice h4a h4n h4c, Value.slice h4b h4m h4d, Value.bool (qsg ed es), Value.slice ya yn yc, Value.slice yb ym yd, Value.bool (decide ((o5).num < 0)), Value.slice h5a h5n h5c, Value.slice h5b h5m h5d, Value.bool (decide ((o6).num < 0)), Value.slice h6a h6n h6c, Value.slice h6b h6m h6d, Value.bool (decide ((o7).num < 0)), Value.slice h7a h7n h7c, Value.slice h7b h7m h7d, Value.bool (decide ((o8).num < 0)), Value.slice h8a h8n h8c, Value.slice h8b h8m h8d] 27)) := hbB
  have X_35 := X_34.next hB_35
  have cX_35_0 : _ = some (Value.bool s) := X_35.cell 0
  have fX_35_0 := X_35.free 0
  have cX_35_1 : _ = some (Value.slice a n1 c) := X_35.cell 1
  have fX_35_1 := X_35.free 1
  have cX_35_2 : _ = some (Value.slice b m1 d) := X_35.cell 2
  have fX_35_2 := X_35.free 2
  have Y_35 := Y_34.next hB_35
  have cY_35_0 : _ = some (Value.bool t) := Y_35.cell 0
  have fY_35_0 := Y_35.free 0
  have cY_35_1 : _ = some (Value.slice a' n2 c') := Y_35.cell 1
  have fY_35_1 := Y_35.free 1
  have cY_35_2 : _ = some (Value.slice b' m2 d') := Y_35.cell 2
  have fY_35_2 := Y_35.free 2
  have P_35 := P_34.next hB_35
  have cP_35_0 : _ = some (Value.bool s) := P_35.cell 0
  have cP_35_1 : _ = some (Value.slice pa n1 pc) := P_35.cell 1
  have cP_35_2 : _ = some (Value.slice pb m1 pd) := P_35.cell 2
  have R_35 := R_34.next hB_35
  have cR_35_0 : _ = some (Value.bool t) := R_35.cell 0
  have cR_35_1 : _ = some (Value.slice ra n2 rc) := R_35.cell 1
  have cR_35_2 : _ = some (Value.slice rb m2 rd) := R_35.cell 2
  have U_35 := U_34.next hB_35
  have cU_35_0 : _ = some (Value.bool (qsg en er)) := U_35.cell 0
  have cU_35_1 : _ = some (Value.slice ua un uc) := U_35.cell 1
  have cU_35_2 : _ = some (Value.slice ub um ud) := U_35.cell 2
  have V_35 := V_34.next hB_35
  have cV_35_0 : _ = some (Value.bool (qsg en er)) := V_35.cell 0
  have cV_35_1 : _ = some (Value.slice va vn vc) := V_35.cell 1
  have cV_35_2 : _ = some (Value.slice vb vm vd) := V_35.cell 2
  have E_35 := E_34.next hB_35
  have cE_35_0 : _ = some (Value.bool (qsg ed es)) := E_35.cell 0
  have cE_35_1 : _ = some (Value.slice xa xn xc) := E_35.cell 1
  have cE_35_2 : _ = some (Value.slice xb xm xd) := E_35.cell 2
  have G_35 := G_34.next hB_35
  have cG_35_0 : _ = some (Value.bool (qsg ed es)) := G_35.cell 0
  have cG_35_1 : _ = some (Value.slice ya yn yc) := G_35.cell 1
  have cG_35_2 : _ = some (Value.slice yb ym yd) := G_35.cell 2
  have GOT_35 := GOT_34.next hB_35
  have cGOT_35_0 : _ = some (Value.bool (qsg en er)) := GOT_35.cell 0
  have cGOT_35_1 : _ = some (Value.slice ua un uc) := GOT_35.cell 1
  have cGOT_35_2 : _ = some (Value.slice ub um ud) := GOT_35.cell 2
  have cGOT_35_3 : _ = some (Value.bool (decide ((o1).num < 0))) := GOT_35.cell 3
  have cGOT_35_4 : _ = some (Value.slice g1a g1n g1c) := GOT_35.cell 4
  have cGOT_35_5 : _ = some (Value.slice g1b g1m g1d) := GOT_35.cell 5
  have cGOT_35_6 : _ = some (Value.bool (decide ((o2).num < 0))) := GOT_35.cell 6
  have cGOT_35_7 : _ = some (Value.slice g2a g2n g2c) := GOT_35.cell 7
  have cGOT_35_8 : _ = some (Value.slice g2b g2m g2d) := GOT_35.cell 8
  have cGOT_35_9 : _ = some (Value.bool (decide ((o3).num < 0))) := GOT_35.cell 9
  have cGOT_35_10 : _ = some (Value.slice g3a g3n g3c) := GOT_35.cell 10
  have cGOT_35_11 : _ = some (Value.slice g3b g3m g3d) := GOT_35.cell 11
  have cGOT_35_12 : _ = some (Value.bool (decide ((o4).num < 0))) := GOT_35.cell 12
  have cGOT_35_13 : _ = some (Value.slice g4a g4n g4c) := GOT_35.cell 13
  have cGOT_35_14 : _ = some (Value.slice g4b g4m g4d) := GOT_35.cell 14
  have cGOT_35_15 : _ = some (Value.bool (qsg ed es)) := GOT_35.cell 15
  have cGOT_35_16 : _ = some (Value.slice xa xn xc) := GOT_35.cell 16
  have cGOT_35_17 : _ = some (Value.slice xb xm xd) := GOT_35.cell 17
  have cGOT_35_18 : _ = some (Value.bool (decide ((o5).num < 0))) := GOT_35.cell 18
  have cGOT_35_19 : _ = some (Value.slice g5a g5n g5c) := GOT_35.cell 19
  have cGOT_35_20 : _ = some (Value.slice g5b g5m g5d) := GOT_35.cell 20
  have cGOT_35_21 : _ = some (Value.bool (decide ((o6).num < 0))) := GOT_35.cell 21
  have cGOT_35_22 : _ = some (Value.slice g6a g6n g6c) := GOT_35.cell 22
  have cGOT_35_23 : _ = some (Value.slice g6b g6m g6d) := GOT_35.cell 23
  have cGOT_35_24 : _ = some (Value.bool (decide ((o7).num < 0))) := GOT_35.cell 24
  have cGOT_35_25 : _ = some (Value.slice g7a g7n g7c) := GOT_35.cell 25
  have cGOT_35_26 : _ = some (Value.slice g7b g7m g7d) := GOT_35.cell 26
  have cGOT_35_27 : _ = some (Value.bool (decide ((o8).num < 0))) := GOT_35.cell 27
  have cGOT_35_28 : _ = some (Value.slice g8a g8n g8c) := GOT_35.cell 28
  have cGOT_35_29 : _ = some (Value.slice g8b g8m g8d) := GOT_35.cell 29
  have hbM_35 := hbM_34.next hB_35
  have QX_35 := QX_34.below hB_35
  have QP_35 := QP_34.below hB_35
  have QY_35 := QY_34.below hB_35
  have QR_35 := QR_34.below hB_35
  have Ou_35 := Ou_34.below hB_35
  have Pu_35 := Pu_34.below hB_35
  have Ov_35 := Ov_34.below hB_35
  have Pv_35 := Pv_34.below hB_35
  have Ox_35 := Ox_34.below hB_35
  have Px_35 := Px_34.below hB_35
  have Oy_35 := Oy_34.below hB_35
  have Py_35 := Py_34.below hB_35
  have Og1_35 := Og1_34.below hB_35
  have Pg1_35 := Pg1_34.below hB_35
  have Og2_35 := Og2_34.below hB_35
  have Pg2_35 := Pg2_34.below hB_35
  have Og3_35 := Og3_34.below hB_35
  have Pg3_35 := Pg3_34.below hB_35
  have Og4_35 := Og4_34.below hB_35
  have Pg4_35 := Pg4_34.below hB_35
  have Og5_35 := Og5_34.below hB_35
  have Pg5_35 := Pg5_34.below hB_35
  have Og6_35 := Og6_34.below hB_35
  have Pg6_35 := Pg6_34.below hB_35
  have Og7_35 := Og7_34.below hB_35
  have Pg7_35 := Pg7_34.below hB_35
  have Og8_35 := Og8_34.below hB_35
  have Pg8_35 := Pg8_34.below hB_35
  have Oh1_35 := Oh1_34.below hB_35
  have Ph1_35 := Ph1_34.below hB_35
  have Oh2_35 := Oh2_34.below hB_35
  have Ph2_35 := Ph2_34.below hB_35
  have Oh3_35 := Oh3_34.below hB_35
  have Ph3_35 := Ph3_34.below hB_35
  have Oh4_35 := Oh4_34.below hB_35
  have Ph4_35 := Ph4_34.below hB_35
  have Oh5_35 := Oh5_34.below hB_35
  have Ph5_35 := Ph5_34.below hB_35
  have Oh6_35 := Oh6_34.below hB_35
  have Ph6_35 := Ph6_34.below hB_35
  have Oh7_35 := Oh7_34.below hB_35
  have Ph7_35 := Ph7_34.below hB_35
  have Oh8_35 := Oh8_34.below hB_35
  have Ph8_35 := Ph8_34.below hB_35
  have hbel_35 := hbel_34.next hB_35
  have hsz_35 := hB_35.size
  clear hB_35
  have WANT_35 := hbx
  clear hbx hbB
  have cWANT_35_0 : _ = some (Value.bool (qsg en er)) := WANT_35.cell 0
  have cWANT_35_1 : _ = some (Value.slice va vn vc) := WANT_35.cell 1
  have cWANT_35_2 : _ = some (Value.slice vb vm vd) := WANT_35.cell 2
  have cWANT_35_3 : _ = some (Value.bool (decide ((o1).num < 0))) := WANT_35.cell 3
  have cWANT_35_4 : _ = some (Value.slice h1a h1n h1c) := WANT_35.cell 4
  have cWANT_35_5 : _ = some (Value.slice h1b h1m h1d) := WANT_35.cell 5
  have cWANT_35_6 : _ = some (Value.bool (decide ((o2).num < 0))) := WANT_35.cell 6
  have cWANT_35_7 : _ = some (Value.slice h2a h2n h2c) := WANT_35.cell 7
  have cWANT_35_8 : _ = some (Value.slice h2b h2m h2d) := WANT_35.cell 8
  have cWANT_35_9 : _ = some (Value.bool (decide ((o3).num < 0))) := WANT_35.cell 9
  have cWANT_35_10 : _ = some (Value.slice h3a h3n h3c) := WANT_35.cell 10
  have cWANT_35_11 : _ = some (Value.slice h3b h3m h3d) := WANT_35.cell 11
  have cWANT_35_12 : _ = some (Value.bool (decide ((o4).num < 0))) := WANT_35.cell 12
  have cWANT_35_13 : _ = some (Value.slice h4a h4n h4c) := WANT_35.cell 13
  have cWANT_35_14 : _ = some (Value.slice h4b h4m h4d) := WANT_35.cell 14
  have cWANT_35_15 : _ = some (Value.bool (qsg ed es)) := WANT_35.cell 15
  have cWANT_35_16 : _ = some (Value.slice ya yn yc) := WANT_35.cell 16
  have cWANT_35_17 : _ = some (Value.slice yb ym yd) := WANT_35.cell 17
  have cWANT_35_18 : _ = some (Value.bool (decide ((o5).num < 0))) := WANT_35.cell 18
  have cWANT_35_19 : _ = some (Value.slice h5a h5n h5c) := WANT_35.cell 19
  have cWANT_35_20 : _ = some (Value.slice h5b h5m h5d) := WANT_35.cell 20
  have cWANT_35_21 : _ = some (Value.bool (decide ((o6).num < 0))) := WANT_35.cell 21
  have cWANT_35_22 : _ = some (Value.slice h6a h6n h6c) := WANT_35.cell 22
  have cWANT_35_23 : _ = some (Value.slice h6b h6m h6d) := WANT_35.cell 23
  have cWANT_35_24 : _ = some (Value.bool (decide ((o7).num < 0))) := WANT_35.cell 24
  have cWANT_35_25 : _ = some (Value.slice h7a h7n h7c) := WANT_35.cell 25
  have cWANT_35_26 : _ = some (Value.slice h7b h7m h7d) := WANT_35.cell 26
  have cWANT_35_27 : _ = some (Value.bool (decide ((o8).num < 0))) := WANT_35.cell 27
  have cWANT_35_28 : _ = some (Value.slice h8a h8n h8c) := WANT_35.cell 28
  have cWANT_35_29 : _ = some (Value.slice h8b h8m h8d) := WANT_35.cell 29
  go_wp2_with fail
  clear X_34 cX_34_0 fX_34_0 cX_34_1 fX_34_1 cX_34_2 fX_34_2 Y_34 cY_34_0 fY_34_0 cY_34_1 fY_34_1 cY_34_2 fY_34_2 P_34 cP_34_0 cP_34_1 cP_34_2 R_34 cR_34_0 cR_34_1 cR_34_2 U_34 cU_34_0 cU_34_1 cU_34_2 V_34 cV_34_0 cV_34_1 cV_34_2 E_34 cE_34_0 cE_34_1 cE_34_2 G_34 cG_34_0 cG_34_1 cG_34_2 GOT_34 cGOT_34_0 cGOT_34_1 cGOT_34_2 cGOT_34_3 cGOT_34_4 cGOT_34_5 cGOT_34_6 cGOT_34_7 cGOT_34_8 cGOT_34_9 cGOT_34_10 cGOT_34_11 cGOT_34_12 cGOT_34_13 cGOT_34_14 cGOT_34_15 cGOT_34_16 cGOT_34_17 cGOT_34_18 cGOT_34_19 cGOT_34_20 cGOT_34_21 cGOT_34_22 cGOT_34_23 cGOT_34_24 cGOT_34_25 cGOT_34_26 cGOT_34_27 cGOT_34_28 cGOT_34_29 hbM_34 QX_34 QP_34 QY_34 QR_34 Ou_34 Pu_34 Ov_34 Pv_34 Ox_34 Px_34 Oy_34 Py_34 Og1_34 Pg1_34 Og2_34 Pg2_34 Og3_34 Pg3_34 Og4_34 Pg4_34 Og5_34 Pg5_34 Og6_34 Pg6_34 Og7_34 Pg7_34 Og8_34 Pg8_34 Oh1_34 Ph1_34 Oh2_34 Ph2_34 Oh3_34 Ph3_34 Oh4_34 Ph4_34 Oh5_34 Ph5_34 Oh6_34 Ph6_34 Oh7_34 Ph7_34 Oh8_34 Ph8_34 hbel_34
  generalize (w34.alloc (.cells #[Value.bool (qsg en er), Value.slice va vn vc, Value.slice vb vm vd, Value.bool (decide ((o1).num < 0)), Value.slice h1a h1n h1c, Value.slice h1b h1m h1d, Value.bool (decide ((o2).num < 0)), Value.slice h2a h2n h2c, Value.slice h2b h2m h2d, Value.bool (decide ((o3).num < 0)), Value.slice h3a h3n h3c, Value.slice h3b h3m h3d, Value.bool (decide ((o4).num < 0)), Value.slice h4a h4n h4c, Value.slice h4b h4m h4d, Value.bool (qsg ed es), Value.slice ya yn yc, Value.slice yb ym yd, Value.bool (decide ((o5).num < 0)), Value.slice h5a h5n h5c, Value.slice h5b h5m h5d, Value.bool (decide ((o6).num < 0)), Value.slice h6a h6n h6c, Value.slice h6b h6m h6d, Value.bool (decide ((o7).num < 0)), Value.slice h7a h7n h7c, Value.slice h7b h7m h7d, Value.bool (decide ((o8).num < 0)), Value.slice h8a h8n h8c, Value.slice h8b h8m h8d] 27)) = v35 at *
  have RG_35 := qrow_of (xs := ([⟨qsg en er, ua, un, uc, qnl en er, ub, um, ud, qdl en er⟩, ⟨decide (o1.num < 0), g1a, g1n, g1c, lm o1.num.natAbs, g1b, g1m, g1d, lm o1.den⟩, ⟨decide (o2.num < 0), g2a, g2n, g2c, lm o2.num.natAbs, g2b, g2m, g2d, lm o2.den⟩, ⟨decide (o3.num < 0), g3a, g3n, g3c, lm o3.num.natAbs, g3b, g3m, g3d, lm o3.den⟩, ⟨decide (o4.num < 0), g4a, g4n, g4c, lm o4.num.natAbs, g4b, g4m, g4d, lm o4.den⟩, ⟨qsg ed es, xa, xn, xc, qnl ed es, xb, xm, xd, qdl ed es⟩, ⟨decide (o5.num < 0), g5a, g5n, g5c, lm o5.num.natAbs, g5b, g5m, g5d, lm o5.den⟩, ⟨decide (o6.num < 0), g6a, g6n, g6c, lm o6.num.natAbs, g6b, g6m, g6d, lm o6.den⟩, ⟨decide (o7.num < 0), g7a, g7n, g7c, lm o7.num.natAbs, g7b, g7m, g7d, lm o7.den⟩, ⟨decide (o8.num < 0), g8a, g8n, g8c, lm o8.num.natAbs, g8b, g8m, g8d, lm o8.den⟩] : List QA)) (N := 10) GOT_35 rfl rfl (List.forall_mem_cons.2 ⟨⟨Ou_35.rd, Pu_35.rd⟩, List.forall_mem_cons.2 ⟨⟨Og1_35.rd, Pg1_35.rd⟩, List.forall_mem_cons.2 ⟨⟨Og2_35.rd, Pg2_35.rd⟩, List.forall_mem_cons.2 ⟨⟨Og3_35.rd, Pg3_35.rd⟩, List.forall_mem_cons.2 ⟨⟨Og4_35.rd, Pg4_35.rd⟩, List.forall_mem_cons.2 ⟨⟨Ox_35.rd, Px_35.rd⟩, List.forall_mem_cons.2 ⟨⟨Og5_35.rd, Pg5_35.rd⟩, List.forall_mem_cons.2 ⟨⟨Og6_35.rd, Pg6_35.rd⟩, List.forall_mem_cons.2 ⟨⟨Og7_35.rd, Pg7_35.rd⟩, List.forall_mem_cons.2 ⟨⟨Og8_35.rd, Pg8_35.rd⟩, fun z hz => (by cases hz)⟩⟩⟩⟩⟩⟩⟩⟩⟩⟩)
  have RW_35 := qrow_of (xs := ([⟨qsg en er, va, vn, vc, qnl en er, vb, vm, vd, qdl en er⟩, ⟨decide (o1.num < 0), h1a, h1n, h1c, lm o1.num.natAbs, h1b, h1m, h1d, lm o1.den⟩, ⟨decide (o2.num < 0), h2a, h2n, h2c, lm o2.num.natAbs, h2b, h2m, h2d, lm o2.den⟩, ⟨decide (o3.num < 0), h3a, h3n, h3c, lm o3.num.natAbs, h3b, h3m, h3d, lm o3.den⟩, ⟨decide (o4.num < 0), h4a, h4n, h4c, lm o4.num.natAbs, h4b, h4m, h4d, lm o4.den⟩, ⟨qsg ed es, ya, yn, yc, qnl ed es, yb, ym, yd, qdl ed es⟩, ⟨decide (o5.num < 0), h5a, h5n, h5c, lm o5.num.natAbs, h5b, h5m, h5d, lm o5.den⟩, ⟨decide (o6.num < 0), h6a, h6n, h6c, lm o6.num.natAbs, h6b, h6m, h6d, lm o6.den⟩, ⟨decide (o7.num < 0), h7a, h7n, h7c, lm o7.num.natAbs, h7b, h7m, h7d, lm o7.den⟩, ⟨decide (o8.num < 0), h8a, h8n, h8c, lm o8.num.natAbs, h8b, h8m, h8d, lm o8.den⟩] : List QA)) (N := 10) WANT_35 rfl rfl (List.forall_mem_cons.2 ⟨⟨Ov_35.rd, Pv_35.rd⟩, List.forall_mem_cons.2 ⟨⟨Oh1_35.rd, Ph1_35.rd⟩, List.forall_mem_cons.2 ⟨⟨Oh2_35.rd, Ph2_35.rd⟩, List.forall_mem_cons.2 ⟨⟨Oh3_35.rd, Ph3_35.rd⟩, List.forall_mem_cons.2 ⟨⟨Oh4_35.rd, Ph4_35.rd⟩, List.forall_mem_cons.2 ⟨⟨Oy_35.rd, Py_35.rd⟩, List.forall_mem_cons.2 ⟨⟨Oh5_35.rd, Ph5_35.rd⟩, List.forall_mem_cons.2 ⟨⟨Oh6_35.rd, Ph6_35.rd⟩, List.forall_mem_cons.2 ⟨⟨Oh7_35.rd, Ph7_35.rd⟩, List.forall_mem_cons.2 ⟨⟨Oh8_35.rd, Ph8_35.rd⟩, fun z hz => (by cases hz)⟩⟩⟩⟩⟩⟩⟩⟩⟩⟩)
  have hQS : Hid (QSame 10 ([⟨qsg en er, ua, un, uc, qnl en er, ub, um, ud, qdl en er⟩, ⟨decide (o1.num < 0), g1a, g1n, g1c, lm o1.num.natAbs, g1b, g1m, g1d, lm o1.den⟩, ⟨decide (o2.num < 0), g2a, g2n, g2c, lm o2.num.natAbs, g2b, g2m, g2d, lm o2.den⟩, ⟨decide (o3.num < 0), g3a, g3n, g3c, lm o3.num.natAbs, g3b, g3m, g3d, lm o3.den⟩, ⟨decide (o4.num < 0), g4a, g4n, g4c, lm o4.num.natAbs, g4b, g4m, g4d, lm o4.den⟩, ⟨qsg ed es, xa, xn, xc, qnl ed es, xb, xm, xd, qdl ed es⟩, ⟨decide (o5.num < 0), g5a, g5n, g5c, lm o5.num.natAbs, g5b, g5m, g5d, lm o5.den⟩, ⟨decide (o6.num < 0), g6a, g6n, g6c, lm o6.num.natAbs, g6b, g6m, g6d, lm o6.den⟩, ⟨decide (o7.num < 0), g7a, g7n, g7c, lm o7.num.natAbs, g7b, g7m, g7d, lm o7.den⟩, ⟨decide (o8.num < 0), g8a, g8n, g8c, lm o8.num.natAbs, g8b, g8m, g8d, lm o8.den⟩] : List QA) ([⟨qsg en er, va, vn, vc, qnl en er, vb, vm, vd, qdl en er⟩, ⟨decide (o1.num < 0), h1a, h1n, h1c, lm o1.num.natAbs, h1b, h1m, h1d, lm o1.den⟩, ⟨decide (o2.num < 0), h2a, h2n, h2c, lm o2.num.natAbs, h2b, h2m, h2d, lm o2.den⟩, ⟨decide (o3.num < 0), h3a, h3n, h3c, lm o3.num.natAbs, h3b, h3m, h3d, lm o3.den⟩, ⟨decide (o4.num < 0), h4a, h4n, h4c, lm o4.num.natAbs, h4b, h4m, h4d, lm o4.den⟩, ⟨qsg ed es, ya, yn, yc, qnl ed es, yb, ym, yd, qdl ed es⟩, ⟨decide (o5.num < 0), h5a, h5n, h5c, lm o5.num.natAbs, h5b, h5m, h5d, lm o5.den⟩, ⟨decide (o6.num < 0), h6a, h6n, h6c, lm o6.num.natAbs, h6b, h6m, h6d, lm o6.den⟩, ⟨decide (o7.num < 0), h7a, h7n, h7c, lm o7.num.natAbs, h7b, h7m, h7d, lm o7.den⟩, ⟨decide (o8.num < 0), h8a, h8n, h8c, lm o8.num.natAbs, h8b, h8m, h8d, lm o8.den⟩] : List QA)) := by
    intro i hi
    rcases (by omega : i = 0 ∨ i = 1 ∨ i = 2 ∨ i = 3 ∨ i = 4 ∨ i = 5 ∨ i = 6 ∨ i = 7 ∨ i = 8 ∨ i = 9) with rfl | rfl | rfl | rfl | rfl | rfl | rfl | rfl | rfl | rfl <;> exact ⟨rfl, rfl, rfl⟩
  clear Ou_35
  clear Pu_35
  clear Ox_35
  clear Px_35
  clear Og1_35
  clear Pg1_35
  clear Og2_35
  clear Pg2_35
  clear Og3_35
  clear Pg3_35
  clear Og4_35
  clear Pg4_35
  clear Og5_35
  clear Pg5_35
  clear Og6_35
  clear Pg6_35
  clear Og7_35
  clear Pg7_35
  clear Og8_35
  clear Pg8_35
  clear Ov_35
  clear Pv_35
  clear Oy_35
  clear Py_35
  clear Oh1_35
  clear Ph1_35
  clear Oh2_35
  clear Ph2_35
  clear Oh3_35
  clear Ph3_35
  clear Oh4_35
  clear Ph4_35
  clear Oh5_35
  clear Ph5_35
  clear Oh6_35
  clear Ph6_35
  clear Oh7_35
  clear Ph7_35
  clear Oh8_35
  clear Ph8_35
  generalize hxs : ([⟨qsg en er, ua, un, uc, qnl en er, ub, um, ud, qdl en er⟩, ⟨decide (o1.num < 0), g1a, g1n, g1c, lm o1.num.natAbs, g1b, g1m, g1d, lm o1.den⟩, ⟨decide (o2.num < 0), g2a, g2n, g2c, lm o2.num.natAbs, g2b, g2m, g2d, lm o2.den⟩, ⟨decide (o3.num < 0), g3a, g3n, g3c, lm o3.num.natAbs, g3b, g3m, g3d, lm o3.den⟩, ⟨decide (o4.num < 0), g4a, g4n, g4c, lm o4.num.natAbs, g4b, g4m, g4d, lm o4.den⟩, ⟨qsg ed es, xa, xn, xc, qnl ed es, xb, xm, xd, qdl ed es⟩, ⟨decide (o5.num < 0), g5a, g5n, g5c, lm o5.num.natAbs, g5b, g5m, g5d, lm o5.den⟩, ⟨decide (o6.num < 0), g6a, g6n, g6c, lm o6.num.natAbs, g6b, g6m, g6d, lm o6.den⟩, ⟨decide (o7.num < 0), g7a, g7n, g7c, lm o7.num.natAbs, g7b, g7m, g7d, lm o7.den⟩, ⟨decide (o8.num < 0), g8a, g8n, g8c, lm o8.num.natAbs, g8b, g8m, g8d, lm o8.den⟩] : List QA) = xs at *
  generalize ([⟨qsg en er, va, vn, vc, qnl en er, vb, vm, vd, qdl en er⟩, ⟨decide (o1.num < 0), h1a, h1n, h1c, lm o1.num.natAbs, h1b, h1m, h1d, lm o1.den⟩, ⟨decide (o2.num < 0), h2a, h2n, h2c, lm o2.num.natAbs, h2b, h2m, h2d, lm o2.den⟩, ⟨decide (o3.num < 0), h3a, h3n, h3c, lm o3.num.natAbs, h3b, h3m, h3d, lm o3.den⟩, ⟨decide (o4.num < 0), h4a, h4n, h4c, lm o4.num.natAbs, h4b, h4m, h4d, lm o4.den⟩, ⟨qsg ed es, ya, yn, yc, qnl ed es, yb, ym, yd, qdl ed es⟩, ⟨decide (o5.num < 0), h5a, h5n, h5c, lm o5.num.natAbs, h5b, h5m, h5d, lm o5.den⟩, ⟨decide (o6.num < 0), h6a, h6n, h6c, lm o6.num.natAbs, h6b, h6m, h6d, lm o6.den⟩, ⟨decide (o7.num < 0), h7a, h7n, h7c, lm o7.num.natAbs, h7b, h7m, h7d, lm o7.den⟩, ⟨decide (o8.num < 0), h8a, h8n, h8c, lm o8.num.natAbs, h8b, h8m, h8d, lm o8.den⟩] : List QA) = ys at *
  go_wp2_with fail
  refine (qfloor QP_35 (by omega)).mono ?_
  rw [hfx.out]
  rintro e w36 ⟨fa, fn, fc, rfl, hO, hB⟩
  have hBT : Below v35.heap.size v35 w36 := (by first | exact hB | exact below_drew hB | exact bel_alloc hB)
  have T_36 := hid (T_35.out.cons1 (by have := hbT_35.size; omega) (show Own v35.heap.size w36 _ _ _ _ from by first | exact hO | exact hO.mono (by simp)) hBT (Nat.le_trans sfx.out.len (by omega)))
  have hbT_36 := hbT_35.next hBT
  clear T_35 hbT_35 hBT
  have hB_36 : Below v35.heap.size v35 w36 := (by first | exact hB | exact below_drew hB | exact bel_alloc hB)
  have X_36 := X_35.next hB_36
  have cX_36_0 : _ = some (Value.bool s) := X_36.cell 0
  have fX_36_0 := X_36.free 0
  have cX_36_1 : _ = some (Value.slice a n1 c) := X_36.cell 1
  have fX_36_1 := X_36.free 1
  have cX_36_2 : _ = some (Value.slice b m1 d) := X_36.cell 2
  have fX_36_2 := X_36.free 2
  have Y_36 := Y_35.next hB_36
  have cY_36_0 : _ = some (Value.bool t) := Y_36.cell 0
  have fY_36_0 := Y_36.free 0
  have cY_36_1 : _ = some (Value.slice a' n2 c') := Y_36.cell 1
  have fY_36_1 := Y_36.free 1
  have cY_36_2 : _ = some (Value.slice b' m2 d') := Y_36.cell 2
  have fY_36_2 := Y_36.free 2
  have P_36 := P_35.next hB_36
  have cP_36_0 : _ = some (Value.bool s) := P_36.cell 0
  have cP_36_1 : _ = some (Value.slice pa n1 pc) := P_36.cell 1
  have cP_36_2 : _ = some (Value.slice pb m1 pd) := P_36.cell 2
  have R_36 := R_35.next hB_36
  have cR_36_0 : _ = some (Value.bool t) := R_36.cell 0
  have cR_36_1 : _ = some (Value.slice ra n2 rc) := R_36.cell 1
  have cR_36_2 : _ = some (Value.slice rb m2 rd) := R_36.cell 2
  have U_36 := U_35.next hB_36
  have cU_36_0 : _ = some (Value.bool (qsg en er)) := U_36.cell 0
  have cU_36_1 : _ = some (Value.slice ua un uc) := U_36.cell 1
  have cU_36_2 : _ = some (Value.slice ub um ud) := U_36.cell 2
  have V_36 := V_35.next hB_36
  have cV_36_0 : _ = some (Value.bool (qsg en er)) := V_36.cell 0
  have cV_36_1 : _ = some (Value.slice va vn vc) := V_36.cell 1
  have cV_36_2 : _ = some (Value.slice vb vm vd) := V_36.cell 2
  have E_36 := E_35.next hB_36
  have cE_36_0 : _ = some (Value.bool (qsg ed es)) := E_36.cell 0
  have cE_36_1 : _ = some (Value.slice xa xn xc) := E_36.cell 1
  have cE_36_2 : _ = some (Value.slice xb xm xd) := E_36.cell 2
  have G_36 := G_35.next hB_36
  have cG_36_0 : _ = some (Value.bool (qsg ed es)) := G_36.cell 0
  have cG_36_1 : _ = some (Value.slice ya yn yc) := G_36.cell 1
  have cG_36_2 : _ = some (Value.slice yb ym yd) := G_36.cell 2
  have GOT_36 := GOT_35.next hB_36
  have cGOT_36_0 : _ = some (Value.bool (qsg en er)) := GOT_36.cell 0
  have cGOT_36_1 : _ = some (Value.slice ua un uc) := GOT_36.cell 1
  have cGOT_36_2 : _ = some (Value.slice ub um ud) := GOT_36.cell 2
  have cGOT_36_3 : _ = some (Value.bool (decide ((o1).num < 0))) := GOT_36.cell 3
  have cGOT_36_4 : _ = some (Value.slice g1a g1n g1c) := GOT_36.cell 4
  have cGOT_36_5 : _ = some (Value.slice g1b g1m g1d) := GOT_36.cell 5
  have cGOT_36_6 : _ = some (Value.bool (decide ((o2).num < 0))) := GOT_36.cell 6
  have cGOT_36_7 : _ = some (Value.slice g2a g2n g2c) := GOT_36.cell 7
  have cGOT_36_8 : _ = some (Value.slice g2b g2m g2d) := GOT_36.cell 8
  have cGOT_36_9 : _ = some (Value.bool (decide ((o3).num < 0))) := GOT_36.cell 9
  have cGOT_36_10 : _ = some (Value.slice g3a g3n g3c) := GOT_36.cell 10
  have cGOT_36_11 : _ = some (Value.slice g3b g3m g3d) := GOT_36.cell 11
  have cGOT_36_12 : _ = some (Value.bool (decide ((o4).num < 0))) := GOT_36.cell 12
  have cGOT_36_13 : _ = some (Value.slice g4a g4n g4c) := GOT_36.cell 13
  have cGOT_36_14 : _ = some (Value.slice g4b g4m g4d) := GOT_36.cell 14
  have cGOT_36_15 : _ = some (Value.bool (qsg ed es)) := GOT_36.cell 15
  have cGOT_36_16 : _ = some (Value.slice xa xn xc) := GOT_36.cell 16
  have cGOT_36_17 : _ = some (Value.slice xb xm xd) := GOT_36.cell 17
  have cGOT_36_18 : _ = some (Value.bool (decide ((o5).num < 0))) := GOT_36.cell 18
  have cGOT_36_19 : _ = some (Value.slice g5a g5n g5c) := GOT_36.cell 19
  have cGOT_36_20 : _ = some (Value.slice g5b g5m g5d) := GOT_36.cell 20
  have cGOT_36_21 : _ = some (Value.bool (decide ((o6).num < 0))) := GOT_36.cell 21
  have cGOT_36_22 : _ = some (Value.slice g6a g6n g6c) := GOT_36.cell 22
  have cGOT_36_23 : _ = some (Value.slice g6b g6m g6d) := GOT_36.cell 23
  have cGOT_36_24 : _ = some (Value.bool (decide ((o7).num < 0))) := GOT_36.cell 24
  have cGOT_36_25 : _ = some (Value.slice g7a g7n g7c) := GOT_36.cell 25
  have cGOT_36_26 : _ = some (Value.slice g7b g7m g7d) := GOT_36.cell 26
  have cGOT_36_27 : _ = some (Value.bool (decide ((o8).num < 0))) := GOT_36.cell 27
  have cGOT_36_28 : _ = some (Value.slice g8a g8n g8c) := GOT_36.cell 28
  have cGOT_36_29 : _ = some (Value.slice g8b g8m g8d) := GOT_36.cell 29
  have WANT_36 := WANT_35.next hB_36
  have cWANT_36_0 : _ = some (Value.bool (qsg en er)) := WANT_36.cell 0
  have cWANT_36_1 : _ = some (Value.slice va vn vc) := WANT_36.cell 1
  have cWANT_36_2 : _ = some (Value.slice vb vm vd) := WANT_36.cell 2
  have cWANT_36_3 : _ = some (Value.bool (decide ((o1).num < 0))) := WANT_36.cell 3
  have cWANT_36_4 : _ = some (Value.slice h1a h1n h1c) := WANT_36.cell 4
  have cWANT_36_5 : _ = some (Value.slice h1b h1m h1d) := WANT_36.cell 5
  have cWANT_36_6 : _ = some (Value.bool (decide ((o2).num < 0))) := WANT_36.cell 6
  have cWANT_36_7 : _ = some (Value.slice h2a h2n h2c) := WANT_36.cell 7
  have cWANT_36_8 : _ = some (Value.slice h2b h2m h2d) := WANT_36.cell 8
  have cWANT_36_9 : _ = some (Value.bool (decide ((o3).num < 0))) := WANT_36.cell 9
  have cWANT_36_10 : _ = some (Value.slice h3a h3n h3c) := WANT_36.cell 10
  have cWANT_36_11 : _ = some (Value.slice h3b h3m h3d) := WANT_36.cell 11
  have cWANT_36_12 : _ = some (Value.bool (decide ((o4).num < 0))) := WANT_36.cell 12
  have cWANT_36_13 : _ = some (Value.slice h4a h4n h4c) := WANT_36.cell 13
  have cWANT_36_14 : _ = some (Value.slice h4b h4m h4d) := WANT_36.cell 14
  have cWANT_36_15 : _ = some (Value.bool (qsg ed es)) := WANT_36.cell 15
  have cWANT_36_16 : _ = some (Value.slice ya yn yc) := WANT_36.cell 16
  have cWANT_36_17 : _ = some (Value.slice yb ym yd) := WANT_36.cell 17
  have cWANT_36_18 : _ = some (Value.bool (decide ((o5).num < 0))) := WANT_36.cell 18
  have cWANT_36_19 : _ = some (Value.slice h5a h5n h5c) := WANT_36.cell 19
  have cWANT_36_20 : _ = some (Value.slice h5b h5m h5d) := WANT_36.cell 20
  have cWANT_36_21 : _ = some (Value.bool (decide ((o6).num < 0))) := WANT_36.cell 21
  have cWANT_36_22 : _ = some (Value.slice h6a h6n h6c) := WANT_36.cell 22
  have cWANT_36_23 : _ = some (Value.slice h6b h6m h6d) := WANT_36.cell 23
  have cWANT_36_24 : _ = some (Value.bool (decide ((o7).num < 0))) := WANT_36.cell 24
  have cWANT_36_25 : _ = some (Value.slice h7a h7n h7c) := WANT_36.cell 25
  have cWANT_36_26 : _ = some (Value.slice h7b h7m h7d) := WANT_36.cell 26
  have cWANT_36_27 : _ = some (Value.bool (decide ((o8).num < 0))) := WANT_36.cell 27
  have cWANT_36_28 : _ = some (Value.slice h8a h8n h8c) := WANT_36.cell 28
  have cWANT_36_29 : _ = some (Value.slice h8b h8m h8d) := WANT_36.cell 29
  have hbM_36 := hbM_35.next hB_36
  have QX_36 := QX_35.below hB_36
  have QP_36 := QP_35.below hB_36
  have QY_36 := QY_35.below hB_36
  have QR_36 := QR_35.below hB_36
  have RG_36 := RG_35.below hB_36
  have RW_36 := RW_35.below hB_36
  have hbel_36 := hbel_35.next hB_36
  have hsz_36 := hB_36.size
  clear X_35 cX_35_0 fX_35_0 cX_35_1 fX_35_1 cX_35_2 fX_35_2 Y_35 cY_35_0 fY_35_0 cY_35_1 fY_35_1 cY_35_2 fY_35_2 P_35 cP_35_0 cP_35_1 cP_35_2 R_35 cR_35_0 cR_35_1 cR_35_2 U_35 cU_35_0 cU_35_1 cU_35_2 V_35 cV_35_0 cV_35_1 cV_35_2 E_35 cE_35_0 cE_35_1 cE_35_2 G_35 cG_35_0 cG_35_1 cG_35_2 GOT_35 cGOT_35_0 cGOT_35_1 cGOT_35_2 cGOT_35_3 cGOT_35_4 cGOT_35_5 cGOT_35_6 cGOT_35_7 cGOT_35_8 cGOT_35_9 cGOT_35_10 cGOT_35_11 cGOT_35_12 cGOT_35_13 cGOT_35_14 cGOT_35_15 cGOT_35_16 cGOT_35_17 cGOT_35_18 cGOT_35_19 cGOT_35_20 cGOT_35_21 cGOT_35_22 cGOT_35_23 cGOT_35_24 cGOT_35_25 cGOT_35_26 cGOT_35_27 cGOT_35_28 cGOT_35_29 WANT_35 cWANT_35_0 cWANT_35_1 cWANT_35_2 cWANT_35_3 cWANT_35_4 cWANT_35_5 cWANT_35_6 cWANT_35_7 cWANT_35_8 cWANT_35_9 cWANT_35_10 cWANT_35_11 cWANT_35_12 cWANT_35_13 cWANT_35_14 cWANT_35_15 cWANT_35_16 cWANT_35_17 cWANT_35_18 cWANT_35_19 cWANT_35_20 cWANT_35_21 cWANT_35_22 cWANT_35_23 cWANT_35_24 cWANT_35_25 cWANT_35_26 cWANT_35_27 cWANT_35_28 cWANT_35_29 hbM_35 QX_35 QP_35 QY_35 QR_35 RG_35 RW_35 hbel_35 hB_36
  have Of_36 := hO
  have ltOf := hO.ltB
  clear hO
  try clear hB
  have hbx := blk_new w36 #[Value.bool (decide (fx < 0)), Value.slice fa fn fc] 25
  have hbB := (Below.refl w36.heap.size w36).alloc (Nat.le_refl _) (.cells #[Value.bool (decide (fx < 0)), Value.slice fa fn fc] 25)
  have hltFL := hbx.lt
  have hBT : Below w36.heap.size w36 (w36.alloc (.cells #[Value.bool (decide (fx < 0)), Value.slice fa fn fc] 25)) := hbB
  have T_37 := hid (T_36.out.below hBT)
  have hbT_37 := hbT_36.next hBT
  clear T_36 hbT_36 hBT
  have hB_37 : Below w36.heap.size w36 (w36.alloc (.cells #[Value.bool (decide (fx < 0)), Value.slice fa fn fc] 25)) := hbB
  have X_37 := X_36.next hB_37
  have cX_37_0 : _ = some (Value.bool s) := X_37.cell 0
  have fX_37_0 := X_37.free 0
  have cX_37_1 : _ = some (Value.slice a n1 c) := X_37.cell 1
  have fX_37_1 := X_37.free 1
  have cX_37_2 : _ = some (Value.slice b m1 d) := X_37.cell 2
  have fX_37_2 := X_37.free 2
  have Y_37 := Y_36.next hB_37
  have cY_37_0 : _ = some (Value.bool t) := Y_37.cell 0
  have fY_37_0 := Y_37.free 0
  have cY_37_1 : _ = some (Value.slice a' n2 c') := Y_37.cell 1
  have fY_37_1 := Y_37.free 1
  have cY_37_2 : _ = some (Value.slice b' m2 d') := Y_37.cell 2
  have fY_37_2 := Y_37.free 2
  have P_37 := P_36.next hB_37
  have cP_37_0 : _ = some (Value.bool s) := P_37.cell 0
  have cP_37_1 : _ = some (Value.slice pa n1 pc) := P_37.cell 1
  have cP_37_2 : _ = some (Value.slice pb m1 pd) := P_37.cell 2
  have R_37 := R_36.next hB_37
  have cR_37_0 : _ = some (Value.bool t) := R_37.cell 0
  have cR_37_1 : _ = some (Value.slice ra n2 rc) := R_37.cell 1
  have cR_37_2 : _ = some (Value.slice rb m2 rd) := R_37.cell 2
  have U_37 := U_36.next hB_37
  have cU_37_0 : _ = some (Value.bool (qsg en er)) := U_37.cell 0
  have cU_37_1 : _ = some (Value.slice ua un uc) := U_37.cell 1
  have cU_37_2 : _ = some (Value.slice ub um ud) := U_37.cell 2
  have V_37 := V_36.next hB_37
  have cV_37_0 : _ = some (Value.bool (qsg en er)) := V_37.cell 0
  have cV_37_1 : _ = some (Value.slice va vn vc) := V_37.cell 1
  have cV_37_2 : _ = some (Value.slice vb vm vd) := V_37.cell 2
  have E_37 := E_36.next hB_37
  have cE_37_0 : _ = some (Value.bool (qsg ed es)) := E_37.cell 0
  have cE_37_1 : _ = some (Value.slice xa xn xc) := E_37.cell 1
  have cE_37_2 : _ = some (Value.slice xb xm xd) := E_37.cell 2
  have G_37 := G_36.next hB_37
  have cG_37_0 : _ = some (Value.bool (qsg ed es)) := G_37.cell 0
  have cG_37_1 : _ = some (Value.slice ya yn yc) := G_37.cell 1
  have cG_37_2 : _ = some (Value.slice yb ym yd) := G_37.cell 2
  have GOT_37 := GOT_36.next hB_37
  have cGOT_37_0 : _ = some (Value.bool (qsg en er)) := GOT_37.cell 0
  have cGOT_37_1 : _ = some (Value.slice ua un uc) := GOT_37.cell 1
  have cGOT_37_2 : _ = some (Value.slice ub um ud) := GOT_37.cell 2
  have cGOT_37_3 : _ = some (Value.bool (decide ((o1).num < 0))) := GOT_37.cell 3
  have cGOT_37_4 : _ = some (Value.slice g1a g1n g1c) := GOT_37.cell 4
  have cGOT_37_5 : _ = some (Value.slice g1b g1m g1d) := GOT_37.cell 5
  have cGOT_37_6 : _ = some (Value.bool (decide ((o2).num < 0))) := GOT_37.cell 6
  have cGOT_37_7 : _ = some (Value.slice g2a g2n g2c) := GOT_37.cell 7
  have cGOT_37_8 : _ = some (Value.slice g2b g2m g2d) := GOT_37.cell 8
  have cGOT_37_9 : _ = some (Value.bool (decide ((o3).num < 0))) := GOT_37.cell 9
  have cGOT_37_10 : _ = some (Value.slice g3a g3n g3c) := GOT_37.cell 10
  have cGOT_37_11 : _ = some (Value.slice g3b g3m g3d) := GOT_37.cell 11
  have cGOT_37_12 : _ = some (Value.bool (decide ((o4).num < 0))) := GOT_37.cell 12
  have cGOT_37_13 : _ = some (Value.slice g4a g4n g4c) := GOT_37.cell 13
  have cGOT_37_14 : _ = some (Value.slice g4b g4m g4d) := GOT_37.cell 14
  have cGOT_37_15 : _ = some (Value.bool (qsg ed es)) := GOT_37.cell 15
  have cGOT_37_16 : _ = some (Value.slice xa xn xc) := GOT_37.cell 16
  have cGOT_37_17 : _ = some (Value.slice xb xm xd) := GOT_37.cell 17
  have cGOT_37_18 : _ = some (Value.bool (decide ((o5).num < 0))) := GOT_37.cell 18
  have cGOT_37_19 : _ = some (Value.slice g5a g5n g5c) := GOT_37.cell 19
  have cGOT_37_20 : _ = some (Value.slice g5b g5m g5d) := GOT_37.cell 20
  have cGOT_37_21 : _ = some (Value.bool (decide ((o6).num < 0))) := GOT_37.cell 21
  have cGOT_37_22 : _ = some (Value.slice g6a g6n g6c) := GOT_37.cell 22
  have cGOT_37_23 : _ = some (Value.slice g6b g6m g6d) := GOT_37.cell 23
  have cGOT_37_24 : _ = some (Value.bool (decide ((o7).num < 0))) := GOT_37.cell 24
  have cGOT_37_25 : _ = some (Value.slice g7a g7n g7c) := GOT_37.cell 25
  have cGOT_37_26 : _ = some (Value.slice g7b g7m g7d) := GOT_37.cell 26
  have cGOT_37_27 : _ = some (Value.bool (decide ((o8).num < 0))) := GOT_37.cell 27
  have cGOT_37_28 : _ = some (Value.slice g8a g8n g8c) := GOT_37.cell 28
  have cGOT_37_29 : _ = some (Value.slice g8b g8m g8d) := GOT_37.cell 29
  have WANT_37 := WANT_36.next hB_37
  have cWANT_37_0 : _ = some (Value.bool (qsg en er)) := WANT_37.cell 0
  have cWANT_37_1 : _ = some (Value.slice va vn vc) := WANT_37.cell 1
  have cWANT_37_2 : _ = some (Value.slice vb vm vd) := WANT_37.cell 2
  have cWANT_37_3 : _ = some (Value.bool (decide ((o1).num < 0))) := WANT_37.cell 3
  have cWANT_37_4 : _ = some (Value.slice h1a h1n h1c) := WANT_37.cell 4
  have cWANT_37_5 : _ = some (Value.slice h1b h1m h1d) := WANT_37.cell 5
  have cWANT_37_6 : _ = some (Value.bool (decide ((o2).num < 0))) := WANT_37.cell 6
  have cWANT_37_7 : _ = some (Value.slice h2a h2n h2c) := WANT_37.cell 7
  have cWANT_37_8 : _ = some (Value.slice h2b h2m h2d) := WANT_37.cell 8
  have cWANT_37_9 : _ = some (Value.bool (decide ((o3).num < 0))) := WANT_37.cell 9
  have cWANT_37_10 : _ = some (Value.slice h3a h3n h3c) := WANT_37.cell 10
  have cWANT_37_11 : _ = some (Value.slice h3b h3m h3d) := WANT_37.cell 11
  have cWANT_37_12 : _ = some (Value.bool (decide ((o4).num < 0))) := WANT_37.cell 12
  have cWANT_37_13 : _ = some (Value.slice h4a h4n h4c) := WANT_37.cell 13
  have cWANT_37_14 : _ = some (Value.slice h4b h4m h4d) := WANT_37.cell 14
  have cWANT_37_15 : _ = some (Value.bool (qsg ed es)) := WANT_37.cell 15
  have cWANT_37_16 : _ = some (Value.slice ya yn yc) := WANT_37.cell 16
  have cWANT_37_17 : _ = some (Value.slice yb ym yd) := WANT_37.cell 17
  have cWANT_37_18 : _ = some (Value.bool (decide ((o5).num < 0))) := WANT_37.cell 18
  have cWANT_37_19 : _ = some (Value.slice h5a h5n h5c) := WANT_37.cell 19
  have cWANT_37_20 : _ = some (Value.slice h5b h5m h5d) := WANT_37.cell 20
  have cWANT_37_21 : _ = some (Value.bool (decide ((o6).num < 0))) := WANT_37.cell 21
  have cWANT_37_22 : _ = some (Value.slice h6a h6n h6c) := WANT_37.cell 22
  have cWANT_37_23 : _ = some (Value.slice h6b h6m h6d) := WANT_37.cell 23
  have cWANT_37_24 : _ = some (Value.bool (decide ((o7).num < 0))) := WANT_37.cell 24
  have cWANT_37_25 : _ = some (Value.slice h7a h7n h7c) := WANT_37.cell 25
  have cWANT_37_26 : _ = some (Value.slice h7b h7m h7d) := WANT_37.cell 26
  have cWANT_37_27 : _ = some (Value.bool (decide ((o8).num < 0))) := WANT_37.cell 27
  have cWANT_37_28 : _ = some (Value.slice h8a h8n h8c) := WANT_37.cell 28
  have cWANT_37_29 : _ = some (Value.slice h8b h8m h8d) := WANT_37.cell 29
  have hbM_37 := hbM_36.next hB_37
  have QX_37 := QX_36.below hB_37
  have QP_37 := QP_36.below hB_37
  have QY_37 := QY_36.below hB_37
  have QR_37 := QR_36.below hB_37
  have RG_37 := RG_36.below hB_37
  have RW_37 := RW_36.below hB_37
  have Of_37 := Of_36.below hB_37
  have hbel_37 := hbel_36.next hB_37
  have hsz_37 := hB_37.size
  clear hB_37
  have FL_37 := hbx
  clear hbx hbB
  have cFL_37_0 : _ = some (Value.bool (decide (fx < 0))) := FL_37.cell 0
  have cFL_37_1 : _ = some (Value.slice fa fn fc) := FL_37.cell 1
  go_wp2_with fail
  clear X_36 cX_36_0 fX_36_0 cX_36_1 fX_36_1 cX_36_2 fX_36_2 Y_36 cY_36_0 fY_36_0 cY_36_1 fY_36_1 cY_36_2 fY_36_2 P_36 cP_36_0 cP_36_1 cP_36_2 R_36 cR_36_0 cR_36_1 cR_36_2 U_36 cU_36_0 cU_36_1 cU_36_2 V_36 cV_36_0 cV_36_1 cV_36_2 E_36 cE_36_0 cE_36_1 cE_36_2 G_36 cG_36_0 cG_36_1 cG_36_2 GOT_36 cGOT_36_0 cGOT_36_1 cGOT_36_2 cGOT_36_3 cGOT_36_4 cGOT_36_5 cGOT_36_6 cGOT_36_7 cGOT_36_8 cGOT_36_9 cGOT_36_10 cGOT_36_11 cGOT_36_12 cGOT_36_13 cGOT_36_14 cGOT_36_15 cGOT_36_16 cGOT_36_17 cGOT_36_18 cGOT_36_19 cGOT_36_20 cGOT_36_21 cGOT_36_22 cGOT_36_23 cGOT_36_24 cGOT_36_25 cGOT_36_26 cGOT_36_27 cGOT_36_28 cGOT_36_29 WANT_36 cWANT_36_0 cWANT_36_1 cWANT_36_2 cWANT_36_3 cWANT_36_4 cWANT_36_5 cWANT_36_6 cWANT_36_7 cWANT_36_8 cWANT_36_9 cWANT_36_10 cWANT_36_11 cWANT_36_12 cWANT_36_13 cWANT_36_14 cWANT_36_15 cWANT_36_16 cWANT_36_17 cWANT_36_18 cWANT_36_19 cWANT_36_20 cWANT_36_21 cWANT_36_22 cWANT_36_23 cWANT_36_24 cWANT_36_25 cWANT_36_26 cWANT_36_27 cWANT_36_28 cWANT_36_29 hbM_36 QX_36 QP_36 QY_36 QR_36 RG_36 RW_36 Of_36 hbel_36
  generalize (w36.alloc (.cells #[Value.bool (decide (fx < 0)), Value.slice fa fn fc] 25)) = v37 at *
  go_wp2_with fail
  go_region_held3 (fun w' => w'.cell? ⟨w.heap.size, 0, none⟩ = some (Value.bool s) ∧ w'.cell? ⟨w.heap.size, 1, none⟩ = some (Value.slice a n1 c) ∧ w'.cell? ⟨w.heap.size, 2, none⟩ = some (Value.slice b m1 d) ∧ w'.cell? ⟨w36.heap.size, 0, none⟩ = some (Value.bool (decide (fx < 0))) ∧ w'.cell? ⟨w36.heap.size, 1, none⟩ = some (Value.slice fa fn fc))
    (first | exact ⟨cX_37_0, cX_37_1, cX_37_2, cFL_37_0, cFL_37_1⟩ | exact ⟨cX_38_0, cX_38_1, cX_38_2, cFL_38_0, cFL_38_1⟩ | exact ⟨cX_39_0, cX_39_1, cX_39_2, cFL_39_0, cFL_39_1⟩ | go_keep)
    (first
      | (go_at_call 26; ((with_reducible refine (rqfloor (QX_37.below (by first | exact Below.refl _ _ | exact (Below.refl _ _).drew | exact (Below.refl _ _).alloc (Nat.le_refl _) _)) (by omega)).mono ?_); (rw [hfx.out]; rintro e w38 ⟨ia, ik, ic, rfl, hO, hB⟩; have hBT : Below v37.heap.size v37 w38 := (by first | exact hB | exact below_drew hB | exact bel_alloc hB); have T_38 := hid (T_37.out.below hBT); have hbT_38 := hbT_37.next hBT; clear T_37 hbT_37 hBT; have hB_38 : Below v37.heap.size v37 w38 := (by first | exact hB | exact below_drew hB | exact bel_alloc hB); have X_38 := X_37.next hB_38; have cX_38_0 : _ = some (Value.bool s) := X_38.cell 0; have fX_38_0 := X_38.free 0; have cX_38_1 : _ = some (Value.slice a n1 c) := X_38.cell 1; have fX_38_1 := X_38.free 1; have cX_38_2 : _ = some (Value.slice b m1 d) := X_38.cell 2; have fX_38_2 := X_38.free 2; have Y_38 := Y_37.next hB_38; have cY_38_0 : _ = some (Value.bool t) := Y_38.cell 0; have fY_38_0 := Y_38.free 0; have cY_38_1 : _ = some (Value.slice a' n2 c') := Y_38.cell 1; have fY_38_1 := Y_38.free 1; have cY_38_2 : _ = some (Value.slice b' m2 d') := Y_38.cell 2; have fY_38_2 := Y_38.free 2; have P_38 := P_37.next hB_38; have cP_38_0 : _ = some (Value.bool s) := P_38.cell 0; have cP_38_1 : _ = some (Value.slice pa n1 pc) := P_38.cell 1; have cP_38_2 : _ = some (Value.slice pb m1 pd) := P_38.cell 2; have R_38 := R_37.next hB_38; have cR_38_0 : _ = some (Value.bool t) := R_38.cell 0; have cR_38_1 : _ = some (Value.slice ra n2 rc) := R_38.cell 1; have cR_38_2 : _ = some (Value.slice rb m2 rd) := R_38.cell 2; have U_38 := U_37.next hB_38; have cU_38_0 : _ = some (Value.bool (qsg en er)) := U_38.cell 0; have cU_38_1 : _ = some (Value.slice ua un uc) := U_38.cell 1; have cU_38_2 : _ = some (Value.slice ub um ud) := U_38.cell 2; have V_38 := V_37.next hB_38; have cV_38_0 : _ = some (Value.bool (qsg en er)) := V_38.cell 0; have cV_38_1 : _ = some (Value.slice va vn vc) := V_38.cell 1; have cV_38_2 : _ = some (Value.slice vb vm vd) := V_38.cell 2; have E_38 := E_37.next hB_38; have cE_38_0 : _ = some (Value.bool (qsg ed es)) := E_38.cell 0; have cE_38_1 : _ = some (Value.slice xa xn xc) := E_38.cell 1; have cE_38_2 : _ = some (Value.slice xb xm xd) := E_38.cell 2; have G_38 := G_37.next hB_38; have cG_38_0 : _ = some (Value.bool (qsg ed es)) := G_38.cell 0; have cG_38_1 : _ = some (Value.slice ya yn yc) := G_38.cell 1; have cG_38_2 : _ = some (Value.slice yb ym yd) := G_38.cell 2; have GOT_38 := GOT_37.next hB_38; have cGOT_38_0 : _ = some (Value.bool (qsg en er)) := GOT_38.cell 0; have cGOT_38_1 : _ = some (Value.slice ua un uc) := GOT_38.cell 1; have cGOT_38_2 : _ = some (Value.slice ub um ud) := GOT_38.cell 2; have cGOT_38_3 : _ = some (Value.bool (decide ((o1).num < 0))) := GOT_38.cell 3; have cGOT_38_4 : _ = some (Value.slice g1a g1n g1c) := GOT_38.cell 4; have cGOT_38_5 : _ = some (Value.slice g1b g1m g1d) := GOT_38.cell 5; have cGOT_38_6 : _ = some (Value.bool (decide ((o2).num < 0))) := GOT_38.cell 6; have cGOT_38_7 : _ = some (Value.slice g2a g2n g2c) := GOT_38.cell 7; have cGOT_38_8 : _ = some (Value.slice g2b g2m g2d) := GOT_38.cell 8; have cGOT_38_9 : _ = some (Value.bool (decide ((o3).num < 0))) := GOT_38.cell 9; have cGOT_38_10 : _ = some (Value.slice g3a g3n g3c) := GOT_38.cell 10; have cGOT_38_11 : _ = some (Value.slice g3b g3m g3d) := GOT_38.cell 11; have cGOT_38_12 : _ = some (Value.bool (decide ((o4).num < 0))) := GOT_38.cell 12; have cGOT_38_13 : _ = some (Value.slice g4a g4n g4c) := GOT_38.cell 13; have cGOT_38_14 : _ = some (Value.slice g4b g4m g4d) := GOT_38.cell 14; have cGOT_38_15 : _ = some (Value.bool (qsg ed es)) := GOT_38.cell 15; have cGOT_38_16 : _ = some (Value.slice xa xn xc) := GOT_38.cell 16; have cGOT_38_17 : _ = some (Value.slice xb xm xd) := GOT_38.cell 17; have cGOT_38_18 : _ = some (Value.bool (decide ((o5).num < 0))) := GOT_38.cell 18; have cGOT_38_19 : _ = some (Value.slice g5a g5n g5c) := GOT_38.cell 19; have cGOT_38_20 : _ = some (Value.slice g5b g5m g5d) := GOT_38.cell 20; have cGOT_38_21 : _ = some (Value.bool (decide ((o6).num < 0))) := GOT_38.cell 21; have cGOT_38_22 : _ = some (Value.slice g6a g6n g6c) := GOT_38.cell 22; have cGOT_38_23 : _ = some (Value.slice g6b g6m g6d) := GOT_38.cell 23; have cGOT_38_24 : _ = some (Value.bool (decide ((o7).num < 0))) := GOT_38.cell 24; have cGOT_38_25 : _ = some (Value.slice g7a g7n g7c) := GOT_38.cell 25; have cGOT_38_26 : _ = some (Value.slice g7b g7m g7d) := GOT_38.cell 26; have cGOT_38_27 : _ = some (Value.bool (decide ((o8).num < 0))) := GOT_38.cell 27; have cGOT_38_28 : _ = some (Value.slice g8a g8n g8c) := GOT_38.cell 28; have cGOT_38_29 : _ = some (Value.slice g8b g8m g8d) := GOT_38.cell 29; have WANT_38 := WANT_37.next hB_38; have cWANT_38_0 : _ = some (Value.bool (qsg en er)) := WANT_38.cell 0; have cWANT_38_1 : _ = some (Value.slice va vn vc) := WANT_38.cell 1; have cWANT_38_2 : _ = some (Value.slice vb vm vd) := WANT_38.cell 2; have cWANT_38_3 : _ = some (Value.bool (decide ((o1).num < 0))) := WANT_38.cell 3; have cWANT_38_4 : _ = some (Value.slice h1a h1n h1c) := WANT_38.cell 4; have cWANT_38_5 : _ = some (Value.slice h1b h1m h1d) := WANT_38.cell 5; have cWANT_38_6 : _ = some (Value.bool (decide ((o2).num < 0))) := WANT_38.cell 6; have cWANT_38_7 : _ = some (Value.slice h2a h2n h2c) := WANT_38.cell 7; have cWANT_38_8 : _ = some (Value.slice h2b h2m h2d) := WANT_38.cell 8; have cWANT_38_9 : _ = some (Value.bool (decide ((o3).num < 0))) := WANT_38.cell 9; have cWANT_38_10 : _ = some (Value.slice h3a h3n h3c) := WANT_38.cell 10; have cWANT_38_11 : _ = some (Value.slice h3b h3m h3d) := WANT_38.cell 11; have cWANT_38_12 : _ = some (Value.bool (decide ((o4).num < 0))) := WANT_38.cell 12; have cWANT_38_13 : _ = some (Value.slice h4a h4n h4c) := WANT_38.cell 13; have cWANT_38_14 : _ = some (Value.slice h4b h4m h4d) := WANT_38.cell 14; have cWANT_38_15 : _ = some (Value.bool (qsg ed es)) := WANT_38.cell 15; have cWANT_38_16 : _ = some (Value.slice ya yn yc) := WANT_38.cell 16; have cWANT_38_17 : _ = some (Value.slice yb ym yd) := WANT_38.cell 17; have cWANT_38_18 : _ = some (Value.bool (decide ((o5).num < 0))) := WANT_38.cell 18; have cWANT_38_19 : _ = some (Value.slice h5a h5n h5c) := WANT_38.cell 19; have cWANT_38_20 : _ = some (Value.slice h5b h5m h5d) := WANT_38.cell 20; have cWANT_38_21 : _ = some (Value.bool (decide ((o6).num < 0))) := WANT_38.cell 21; have cWANT_38_22 : _ = some (Value.slice h6a h6n h6c) := WANT_38.cell 22; have cWANT_38_23 : _ = some (Value.slice h6b h6m h6d) := WANT_38.cell 23; have cWANT_38_24 : _ = some (Value.bool (decide ((o7).num < 0))) := WANT_38.cell 24; have cWANT_38_25 : _ = some (Value.slice h7a h7n h7c) := WANT_38.cell 25; have cWANT_38_26 : _ = some (Value.slice h7b h7m h7d) := WANT_38.cell 26; have cWANT_38_27 : _ = some (Value.bool (decide ((o8).num < 0))) := WANT_38.cell 27; have cWANT_38_28 : _ = some (Value.slice h8a h8n h8c) := WANT_38.cell 28; have cWANT_38_29 : _ = some (Value.slice h8b h8m h8d) := WANT_38.cell 29; have FL_38 := FL_37.next hB_38; have cFL_38_0 : _ = some (Value.bool (decide (fx < 0))) := FL_38.cell 0; have cFL_38_1 : _ = some (Value.slice fa fn fc) := FL_38.cell 1; have hbM_38 := hbM_37.next hB_38; have QX_38 := QX_37.below hB_38; have QP_38 := QP_37.below hB_38; have QY_38 := QY_37.below hB_38; have QR_38 := QR_37.below hB_38; have RG_38 := RG_37.below hB_38; have RW_38 := RW_37.below hB_38; have Of_38 := Of_37.below hB_38; have hbel_38 := hbel_37.next hB_38; have hsz_38 := hB_38.size; clear X_37 cX_37_0 fX_37_0 cX_37_1 fX_37_1 cX_37_2 fX_37_2 Y_37 cY_37_0 fY_37_0 cY_37_1 fY_37_1 cY_37_2 fY_37_2 P_37 cP_37_0 cP_37_1 cP_37_2 R_37 cR_37_0 cR_37_1 cR_37_2 U_37 cU_37_0 cU_37_1 cU_37_2 V_37 cV_37_0 cV_37_1 cV_37_2 E_37 cE_37_0 cE_37_1 cE_37_2 G_37 cG_37_0 cG_37_1 cG_37_2 GOT_37 cGOT_37_0 cGOT_37_1 cGOT_37_2 cGOT_37_3 cGOT_37_4 cGOT_37_5 cGOT_37_6 cGOT_37_7 cGOT_37_8 cGOT_37_9 cGOT_37_10 cGOT_37_11 cGOT_37_12 cGOT_37_13 cGOT_37_14 cGOT_37_15 cGOT_37_16 cGOT_37_17 cGOT_37_18 cGOT_37_19 cGOT_37_20 cGOT_37_21 cGOT_37_22 cGOT_37_23 cGOT_37_24 cGOT_37_25 cGOT_37_26 cGOT_37_27 cGOT_37_28 cGOT_37_29 WANT_37 cWANT_37_0 cWANT_37_1 cWANT_37_2 cWANT_37_3 cWANT_37_4 cWANT_37_5 cWANT_37_6 cWANT_37_7 cWANT_37_8 cWANT_37_9 cWANT_37_10 cWANT_37_11 cWANT_37_12 cWANT_37_13 cWANT_37_14 cWANT_37_15 cWANT_37_16 cWANT_37_17 cWANT_37_18 cWANT_37_19 cWANT_37_20 cWANT_37_21 cWANT_37_22 cWANT_37_23 cWANT_37_24 cWANT_37_25 cWANT_37_26 cWANT_37_27 cWANT_37_28 cWANT_37_29 FL_37 cFL_37_0 cFL_37_1 hbM_37 QX_37 QP_37 QY_37 QR_37 RG_37 RW_37 Of_37 hbel_37 hB_38; have Oi_38 := hO; have ltOi := hO.ltB; clear hO; try clear hB)))
      | (go_at_call 12; ((with_reducible refine (zsame_true _ (Of_38.below (by first | exact Below.refl _ _ | exact (Below.refl _ _).drew | exact (Below.refl _ _).alloc (Nat.le_refl _) _)).rd (Oi_38.below (by first | exact Below.refl _ _ | exact (Below.refl _ _).drew | exact (Below.refl _ _).alloc (Nat.le_refl _) _)).rd).mono ?_); (rintro e w39 ⟨rfl, hB⟩; have hBT : Below w38.heap.size w38 w39 := (by first | exact hB | exact below_drew hB | exact bel_alloc hB); have T_39 := hid (T_38.out.below hBT); have hbT_39 := hbT_38.next hBT; clear T_38 hbT_38 hBT; have hB_39 : Below w38.heap.size w38 w39 := (by first | exact hB | exact below_drew hB | exact bel_alloc hB); have X_39 := X_38.next hB_39; have cX_39_0 : _ = some (Value.bool s) := X_39.cell 0; have fX_39_0 := X_39.free 0; have cX_39_1 : _ = some (Value.slice a n1 c) := X_39.cell 1; have fX_39_1 := X_39.free 1; have cX_39_2 : _ = some (Value.slice b m1 d) := X_39.cell 2; have fX_39_2 := X_39.free 2; have Y_39 := Y_38.next hB_39; have cY_39_0 : _ = some (Value.bool t) := Y_39.cell 0; have fY_39_0 := Y_39.free 0; have cY_39_1 : _ = some (Value.slice a' n2 c') := Y_39.cell 1; have fY_39_1 := Y_39.free 1; have cY_39_2 : _ = some (Value.slice b' m2 d') := Y_39.cell 2; have fY_39_2 := Y_39.free 2; have P_39 := P_38.next hB_39; have cP_39_0 : _ = some (Value.bool s) := P_39.cell 0; have cP_39_1 : _ = some (Value.slice pa n1 pc) := P_39.cell 1; have cP_39_2 : _ = some (Value.slice pb m1 pd) := P_39.cell 2; have R_39 := R_38.next hB_39; have cR_39_0 : _ = some (Value.bool t) := R_39.cell 0; have cR_39_1 : _ = some (Value.slice ra n2 rc) := R_39.cell 1; have cR_39_2 : _ = some (Value.slice rb m2 rd) := R_39.cell 2; have U_39 := U_38.next hB_39; have cU_39_0 : _ = some (Value.bool (qsg en er)) := U_39.cell 0; have cU_39_1 : _ = some (Value.slice ua un uc) := U_39.cell 1; have cU_39_2 : _ = some (Value.slice ub um ud) := U_39.cell 2; have V_39 := V_38.next hB_39; have cV_39_0 : _ = some (Value.bool (qsg en er)) := V_39.cell 0; have cV_39_1 : _ = some (Value.slice va vn vc) := V_39.cell 1; have cV_39_2 : _ = some (Value.slice vb vm vd) := V_39.cell 2; have E_39 := E_38.next hB_39; have cE_39_0 : _ = some (Value.bool (qsg ed es)) := E_39.cell 0; have cE_39_1 : _ = some (Value.slice xa xn xc) := E_39.cell 1; have cE_39_2 : _ = some (Value.slice xb xm xd) := E_39.cell 2; have G_39 := G_38.next hB_39; have cG_39_0 : _ = some (Value.bool (qsg ed es)) := G_39.cell 0; have cG_39_1 : _ = some (Value.slice ya yn yc) := G_39.cell 1; have cG_39_2 : _ = some (Value.slice yb ym yd) := G_39.cell 2; have GOT_39 := GOT_38.next hB_39; have cGOT_39_0 : _ = some (Value.bool (qsg en er)) := GOT_39.cell 0; have cGOT_39_1 : _ = some (Value.slice ua un uc) := GOT_39.cell 1; have cGOT_39_2 : _ = some (Value.slice ub um ud) := GOT_39.cell 2; have cGOT_39_3 : _ = some (Value.bool (decide ((o1).num < 0))) := GOT_39.cell 3; have cGOT_39_4 : _ = some (Value.slice g1a g1n g1c) := GOT_39.cell 4; have cGOT_39_5 : _ = some (Value.slice g1b g1m g1d) := GOT_39.cell 5; have cGOT_39_6 : _ = some (Value.bool (decide ((o2).num < 0))) := GOT_39.cell 6; have cGOT_39_7 : _ = some (Value.slice g2a g2n g2c) := GOT_39.cell 7; have cGOT_39_8 : _ = some (Value.slice g2b g2m g2d) := GOT_39.cell 8; have cGOT_39_9 : _ = some (Value.bool (decide ((o3).num < 0))) := GOT_39.cell 9; have cGOT_39_10 : _ = some (Value.slice g3a g3n g3c) := GOT_39.cell 10; have cGOT_39_11 : _ = some (Value.slice g3b g3m g3d) := GOT_39.cell 11; have cGOT_39_12 : _ = some (Value.bool (decide ((o4).num < 0))) := GOT_39.cell 12; have cGOT_39_13 : _ = some (Value.slice g4a g4n g4c) := GOT_39.cell 13; have cGOT_39_14 : _ = some (Value.slice g4b g4m g4d) := GOT_39.cell 14; have cGOT_39_15 : _ = some (Value.bool (qsg ed es)) := GOT_39.cell 15; have cGOT_39_16 : _ = some (Value.slice xa xn xc) := GOT_39.cell 16; have cGOT_39_17 : _ = some (Value.slice xb xm xd) := GOT_39.cell 17; have cGOT_39_18 : _ = some (Value.bool (decide ((o5).num < 0))) := GOT_39.cell 18; have cGOT_39_19 : _ = some (Value.slice g5a g5n g5c) := GOT_39.cell 19; have cGOT_39_20 : _ = some (Value.slice g5b g5m g5d) := GOT_39.cell 20; have cGOT_39_21 : _ = some (Value.bool (decide ((o6).num < 0))) := GOT_39.cell 21; have cGOT_39_22 : _ = some (Value.slice g6a g6n g6c) := GOT_39.cell 22; have cGOT_39_23 : _ = some (Value.slice g6b g6m g6d) := GOT_39.cell 23; have cGOT_39_24 : _ = some (Value.bool (decide ((o7).num < 0))) := GOT_39.cell 24; have cGOT_39_25 : _ = some (Value.slice g7a g7n g7c) := GOT_39.cell 25; have cGOT_39_26 : _ = some (Value.slice g7b g7m g7d) := GOT_39.cell 26; have cGOT_39_27 : _ = some (Value.bool (decide ((o8).num < 0))) := GOT_39.cell 27; have cGOT_39_28 : _ = some (Value.slice g8a g8n g8c) := GOT_39.cell 28; have cGOT_39_29 : _ = some (Value.slice g8b g8m g8d) := GOT_39.cell 29; have WANT_39 := WANT_38.next hB_39; have cWANT_39_0 : _ = some (Value.bool (qsg en er)) := WANT_39.cell 0; have cWANT_39_1 : _ = some (Value.slice va vn vc) := WANT_39.cell 1; have cWANT_39_2 : _ = some (Value.slice vb vm vd) := WANT_39.cell 2; have cWANT_39_3 : _ = some (Value.bool (decide ((o1).num < 0))) := WANT_39.cell 3; have cWANT_39_4 : _ = some (Value.slice h1a h1n h1c) := WANT_39.cell 4; have cWANT_39_5 : _ = some (Value.slice h1b h1m h1d) := WANT_39.cell 5; have cWANT_39_6 : _ = some (Value.bool (decide ((o2).num < 0))) := WANT_39.cell 6; have cWANT_39_7 : _ = some (Value.slice h2a h2n h2c) := WANT_39.cell 7; have cWANT_39_8 : _ = some (Value.slice h2b h2m h2d) := WANT_39.cell 8; have cWANT_39_9 : _ = some (Value.bool (decide ((o3).num < 0))) := WANT_39.cell 9; have cWANT_39_10 : _ = some (Value.slice h3a h3n h3c) := WANT_39.cell 10; have cWANT_39_11 : _ = some (Value.slice h3b h3m h3d) := WANT_39.cell 11; have cWANT_39_12 : _ = some (Value.bool (decide ((o4).num < 0))) := WANT_39.cell 12; have cWANT_39_13 : _ = some (Value.slice h4a h4n h4c) := WANT_39.cell 13; have cWANT_39_14 : _ = some (Value.slice h4b h4m h4d) := WANT_39.cell 14; have cWANT_39_15 : _ = some (Value.bool (qsg ed es)) := WANT_39.cell 15; have cWANT_39_16 : _ = some (Value.slice ya yn yc) := WANT_39.cell 16; have cWANT_39_17 : _ = some (Value.slice yb ym yd) := WANT_39.cell 17; have cWANT_39_18 : _ = some (Value.bool (decide ((o5).num < 0))) := WANT_39.cell 18; have cWANT_39_19 : _ = some (Value.slice h5a h5n h5c) := WANT_39.cell 19; have cWANT_39_20 : _ = some (Value.slice h5b h5m h5d) := WANT_39.cell 20; have cWANT_39_21 : _ = some (Value.bool (decide ((o6).num < 0))) := WANT_39.cell 21; have cWANT_39_22 : _ = some (Value.slice h6a h6n h6c) := WANT_39.cell 22; have cWANT_39_23 : _ = some (Value.slice h6b h6m h6d) := WANT_39.cell 23; have cWANT_39_24 : _ = some (Value.bool (decide ((o7).num < 0))) := WANT_39.cell 24; have cWANT_39_25 : _ = some (Value.slice h7a h7n h7c) := WANT_39.cell 25; have cWANT_39_26 : _ = some (Value.slice h7b h7m h7d) := WANT_39.cell 26; have cWANT_39_27 : _ = some (Value.bool (decide ((o8).num < 0))) := WANT_39.cell 27; have cWANT_39_28 : _ = some (Value.slice h8a h8n h8c) := WANT_39.cell 28; have cWANT_39_29 : _ = some (Value.slice h8b h8m h8d) := WANT_39.cell 29; have FL_39 := FL_38.next hB_39; have cFL_39_0 : _ = some (Value.bool (decide (fx < 0))) := FL_39.cell 0; have cFL_39_1 : _ = some (Value.slice fa fn fc) := FL_39.cell 1; have hbM_39 := hbM_38.next hB_39; have QX_39 := QX_38.below hB_39; have QP_39 := QP_38.below hB_39; have QY_39 := QY_38.below hB_39; have QR_39 := QR_38.below hB_39; have RG_39 := RG_38.below hB_39; have RW_39 := RW_38.below hB_39; have Of_39 := Of_38.below hB_39; have Oi_39 := Oi_38.below hB_39; have hbel_39 := hbel_38.next hB_39; have hsz_39 := hB_39.size; clear X_38 cX_38_0 fX_38_0 cX_38_1 fX_38_1 cX_38_2 fX_38_2 Y_38 cY_38_0 fY_38_0 cY_38_1 fY_38_1 cY_38_2 fY_38_2 P_38 cP_38_0 cP_38_1 cP_38_2 R_38 cR_38_0 cR_38_1 cR_38_2 U_38 cU_38_0 cU_38_1 cU_38_2 V_38 cV_38_0 cV_38_1 cV_38_2 E_38 cE_38_0 cE_38_1 cE_38_2 G_38 cG_38_0 cG_38_1 cG_38_2 GOT_38 cGOT_38_0 cGOT_38_1 cGOT_38_2 cGOT_38_3 cGOT_38_4 cGOT_38_5 cGOT_38_6 cGOT_38_7 cGOT_38_8 cGOT_38_9 cGOT_38_10 cGOT_38_11 cGOT_38_12 cGOT_38_13 cGOT_38_14 cGOT_38_15 cGOT_38_16 cGOT_38_17 cGOT_38_18 cGOT_38_19 cGOT_38_20 cGOT_38_21 cGOT_38_22 cGOT_38_23 cGOT_38_24 cGOT_38_25 cGOT_38_26 cGOT_38_27 cGOT_38_28 cGOT_38_29 WANT_38 cWANT_38_0 cWANT_38_1 cWANT_38_2 cWANT_38_3 cWANT_38_4 cWANT_38_5 cWANT_38_6 cWANT_38_7 cWANT_38_8 cWANT_38_9 cWANT_38_10 cWANT_38_11 cWANT_38_12 cWANT_38_13 cWANT_38_14 cWANT_38_15 cWANT_38_16 cWANT_38_17 cWANT_38_18 cWANT_38_19 cWANT_38_20 cWANT_38_21 cWANT_38_22 cWANT_38_23 cWANT_38_24 cWANT_38_25 cWANT_38_26 cWANT_38_27 cWANT_38_28 cWANT_38_29 FL_38 cFL_38_0 cFL_38_1 hbM_38 QX_38 QP_38 QY_38 QR_38 RG_38 RW_38 Of_38 Oi_38 hbel_38 hB_39; try clear hB))))
  clear Of_39
  clear Oi_39
  go_wp2_with fail
  go_region_held3 (fun w' => w'.cell? ⟨w.heap.size, 0, none⟩ = some (Value.bool s) ∧ w'.cell? ⟨w.heap.size, 1, none⟩ = some (Value.slice a n1 c) ∧ w'.cell? ⟨w.heap.size, 2, none⟩ = some (Value.slice b m1 d) ∧ w'.cell? ⟨w.heap.size + 1, 0, none⟩ = some (Value.bool t) ∧ w'.cell? ⟨w.heap.size + 1, 1, none⟩ = some (Value.slice a' n2 c') ∧ w'.cell? ⟨w.heap.size + 1, 2, none⟩ = some (Value.slice b' m2 d') ∧ w'.cell? ⟨w6.heap.size, 0, none⟩ = some (Value.bool s) ∧ w'.cell? ⟨w6.heap.size, 1, none⟩ = some (Value.slice pa n1 pc) ∧ w'.cell? ⟨w6.heap.size, 2, none⟩ = some (Value.slice pb m1 pd) ∧ w'.cell? ⟨w8.heap.size, 0, none⟩ = some (Value.bool t) ∧ w'.cell? ⟨w8.heap.size, 1, none⟩ = some (Value.slice ra n2 rc) ∧ w'.cell? ⟨w8.heap.size, 2, none⟩ = some (Value.slice rb m2 rd))
    (first | exact ⟨cX_39_0, cX_39_1, cX_39_2, cY_39_0, cY_39_1, cY_39_2, cP_39_0, cP_39_1, cP_39_2, cR_39_0, cR_39_1, cR_39_2⟩ | exact ⟨cX_40_0, cX_40_1, cX_40_2, cY_40_0, cY_40_1, cY_40_2, cP_40_0, cP_40_1, cP_40_2, cR_40_0, cR_40_1, cR_40_2⟩ | exact ⟨cX_41_0, cX_41_1, cX_41_2, cY_41_0, cY_41_1, cY_41_2, cP_41_0, cP_41_1, cP_41_2, cR_41_0, cR_41_1, cR_41_2⟩ | exact ⟨cX_42_0, cX_42_1, cX_42_2, cY_42_0, cY_42_1, cY_42_2, cP_42_0, cP_42_1, cP_42_2, cR_42_0, cR_42_1, cR_42_2⟩ | exact ⟨cX_43_0, cX_43_1, cX_43_2, cY_43_0, cY_43_1, cY_43_2, cP_43_0, cP_43_1, cP_43_2, cR_43_0, cR_43_1, cR_43_2⟩ | exact ⟨cX_44_0, cX_44_1, cX_44_2, cY_44_0, cY_44_1, cY_44_2, cP_44_0, cP_44_1, cP_44_2, cR_44_0, cR_44_1, cR_44_2⟩ | exact ⟨cX_45_0, cX_45_1, cX_45_2, cY_45_0, cY_45_1, cY_45_2, cP_45_0, cP_45_1, cP_45_2, cR_45_0, cR_45_1, cR_45_2⟩ | exact ⟨cX_46_0, cX_46_1, cX_46_2, cY_46_0, cY_46_1, cY_46_2, cP_46_0, cP_46_1, cP_46_2, cR_46_0, cR_46_1, cR_46_2⟩ | go_keep)
    (first
      | (go_at_call 27; ((with_reducible refine (samelist (RG_39.below (by first | exact Below.refl _ _ | exact (Below.refl _ _).drew | exact (Below.refl _ _).alloc (Nat.le_refl _) _)) (RW_39.below (by first | exact Below.refl _ _ | exact (Below.refl _ _).drew | exact (Below.refl _ _).alloc (Nat.le_refl _) _)) hQS.out (by omega)).mono ?_); (rintro e w40 ⟨rfl, hB⟩; have hBT : Below w39.heap.size w39 w40 := (by first | exact hB | exact below_drew hB | exact bel_alloc hB); have T_40 := hid (T_39.out.below hBT); have hbT_40 := hbT_39.next hBT; clear T_39 hbT_39 hBT; have hB_40 : Below w39.heap.size w39 w40 := (by first | exact hB | exact below_drew hB | exact bel_alloc hB); have X_40 := X_39.next hB_40; have cX_40_0 : _ = some (Value.bool s) := X_40.cell 0; have fX_40_0 := X_40.free 0; have cX_40_1 : _ = some (Value.slice a n1 c) := X_40.cell 1; have fX_40_1 := X_40.free 1; have cX_40_2 : _ = some (Value.slice b m1 d) := X_40.cell 2; have fX_40_2 := X_40.free 2; have Y_40 := Y_39.next hB_40; have cY_40_0 : _ = some (Value.bool t) := Y_40.cell 0; have fY_40_0 := Y_40.free 0; have cY_40_1 : _ = some (Value.slice a' n2 c') := Y_40.cell 1; have fY_40_1 := Y_40.free 1; have cY_40_2 : _ = some (Value.slice b' m2 d') := Y_40.cell 2; have fY_40_2 := Y_40.free 2; have P_40 := P_39.next hB_40; have cP_40_0 : _ = some (Value.bool s) := P_40.cell 0; have cP_40_1 : _ = some (Value.slice pa n1 pc) := P_40.cell 1; have cP_40_2 : _ = some (Value.slice pb m1 pd) := P_40.cell 2; have R_40 := R_39.next hB_40; have cR_40_0 : _ = some (Value.bool t) := R_40.cell 0; have cR_40_1 : _ = some (Value.slice ra n2 rc) := R_40.cell 1; have cR_40_2 : _ = some (Value.slice rb m2 rd) := R_40.cell 2; have U_40 := U_39.next hB_40; have cU_40_0 : _ = some (Value.bool (qsg en er)) := U_40.cell 0; have cU_40_1 : _ = some (Value.slice ua un uc) := U_40.cell 1; have cU_40_2 : _ = some (Value.slice ub um ud) := U_40.cell 2; have V_40 := V_39.next hB_40; have cV_40_0 : _ = some (Value.bool (qsg en er)) := V_40.cell 0; have cV_40_1 : _ = some (Value.slice va vn vc) := V_40.cell 1; have cV_40_2 : _ = some (Value.slice vb vm vd) := V_40.cell 2; have E_40 := E_39.next hB_40; have cE_40_0 : _ = some (Value.bool (qsg ed es)) := E_40.cell 0; have cE_40_1 : _ = some (Value.slice xa xn xc) := E_40.cell 1; have cE_40_2 : _ = some (Value.slice xb xm xd) := E_40.cell 2; have G_40 := G_39.next hB_40; have cG_40_0 : _ = some (Value.bool (qsg ed es)) := G_40.cell 0; have cG_40_1 : _ = some (Value.slice ya yn yc) := G_40.cell 1; have cG_40_2 : _ = some (Value.slice yb ym yd) := G_40.cell 2; have GOT_40 := GOT_39.next hB_40; have cGOT_40_0 : _ = some (Value.bool (qsg en er)) := GOT_40.cell 0; have cGOT_40_1 : _ = some (Value.slice ua un uc) := GOT_40.cell 1; have cGOT_40_2 : _ = some (Value.slice ub um ud) := GOT_40.cell 2; have cGOT_40_3 : _ = some (Value.bool (decide ((o1).num < 0))) := GOT_40.cell 3; have cGOT_40_4 : _ = some (Value.slice g1a g1n g1c) := GOT_40.cell 4; have cGOT_40_5 : _ = some (Value.slice g1b g1m g1d) := GOT_40.cell 5; have cGOT_40_6 : _ = some (Value.bool (decide ((o2).num < 0))) := GOT_40.cell 6; have cGOT_40_7 : _ = some (Value.slice g2a g2n g2c) := GOT_40.cell 7; have cGOT_40_8 : _ = some (Value.slice g2b g2m g2d) := GOT_40.cell 8; have cGOT_40_9 : _ = some (Value.bool (decide ((o3).num < 0))) := GOT_40.cell 9; have cGOT_40_10 : _ = some (Value.slice g3a g3n g3c) := GOT_40.cell 10; have cGOT_40_11 : _ = some (Value.slice g3b g3m g3d) := GOT_40.cell 11; have cGOT_40_12 : _ = some (Value.bool (decide ((o4).num < 0))) := GOT_40.cell 12; have cGOT_40_13 : _ = some (Value.slice g4a g4n g4c) := GOT_40.cell 13; have cGOT_40_14 : _ = some (Value.slice g4b g4m g4d) := GOT_40.cell 14; have cGOT_40_15 : _ = some (Value.bool (qsg ed es)) := GOT_40.cell 15; have cGOT_40_16 : _ = some (Value.slice xa xn xc) := GOT_40.cell 16; have cGOT_40_17 : _ = some (Value.slice xb xm xd) := GOT_40.cell 17; have cGOT_40_18 : _ = some (Value.bool (decide ((o5).num < 0))) := GOT_40.cell 18; have cGOT_40_19 : _ = some (Value.slice g5a g5n g5c) := GOT_40.cell 19; have cGOT_40_20 : _ = some (Value.slice g5b g5m g5d) := GOT_40.cell 20; have cGOT_40_21 : _ = some (Value.bool (decide ((o6).num < 0))) := GOT_40.cell 21; have cGOT_40_22 : _ = some (Value.slice g6a g6n g6c) := GOT_40.cell 22; have cGOT_40_23 : _ = some (Value.slice g6b g6m g6d) := GOT_40.cell 23; have cGOT_40_24 : _ = some (Value.bool (decide ((o7).num < 0))) := GOT_40.cell 24; have cGOT_40_25 : _ = some (Value.slice g7a g7n g7c) := GOT_40.cell 25; have cGOT_40_26 : _ = some (Value.slice g7b g7m g7d) := GOT_40.cell 26; have cGOT_40_27 : _ = some (Value.bool (decide ((o8).num < 0))) := GOT_40.cell 27; have cGOT_40_28 : _ = some (Value.slice g8a g8n g8c) := GOT_40.cell 28; have cGOT_40_29 : _ = some (Value.slice g8b g8m g8d) := GOT_40.cell 29; have WANT_40 := WANT_39.next hB_40; have cWANT_40_0 : _ = some (Value.bool (qsg en er)) := WANT_40.cell 0; have cWANT_40_1 : _ = some (Value.slice va vn vc) := WANT_40.cell 1; have cWANT_40_2 : _ = some (Value.slice vb vm vd) := WANT_40.cell 2; have cWANT_40_3 : _ = some (Value.bool (decide ((o1).num < 0))) := WANT_40.cell 3; have cWANT_40_4 : _ = some (Value.slice h1a h1n h1c) := WANT_40.cell 4; have cWANT_40_5 : _ = some (Value.slice h1b h1m h1d) := WANT_40.cell 5; have cWANT_40_6 : _ = some (Value.bool (decide ((o2).num < 0))) := WANT_40.cell 6; have cWANT_40_7 : _ = some (Value.slice h2a h2n h2c) := WANT_40.cell 7; have cWANT_40_8 : _ = some (Value.slice h2b h2m h2d) := WANT_40.cell 8; have cWANT_40_9 : _ = some (Value.bool (decide ((o3).num < 0))) := WANT_40.cell 9; have cWANT_40_10 : _ = some (Value.slice h3a h3n h3c) := WANT_40.cell 10; have cWANT_40_11 : _ = some (Value.slice h3b h3m h3d) := WANT_40.cell 11; have cWANT_40_12 : _ = some (Value.bool (decide ((o4).num < 0))) := WANT_40.cell 12; have cWANT_40_13 : _ = some (Value.slice h4a h4n h4c) := WANT_40.cell 13; have cWANT_40_14 : _ = some (Value.slice h4b h4m h4d) := WANT_40.cell 14; have cWANT_40_15 : _ = some (Value.bool (qsg ed es)) := WANT_40.cell 15; have cWANT_40_16 : _ = some (Value.slice ya yn yc) := WANT_40.cell 16; have cWANT_40_17 : _ = some (Value.slice yb ym yd) := WANT_40.cell 17; have cWANT_40_18 : _ = some (Value.bool (decide ((o5).num < 0))) := WANT_40.cell 18; have cWANT_40_19 : _ = some (Value.slice h5a h5n h5c) := WANT_40.cell 19; have cWANT_40_20 : _ = some (Value.slice h5b h5m h5d) := WANT_40.cell 20; have cWANT_40_21 : _ = some (Value.bool (decide ((o6).num < 0))) := WANT_40.cell 21; have cWANT_40_22 : _ = some (Value.slice h6a h6n h6c) := WANT_40.cell 22; have cWANT_40_23 : _ = some (Value.slice h6b h6m h6d) := WANT_40.cell 23; have cWANT_40_24 : _ = some (Value.bool (decide ((o7).num < 0))) := WANT_40.cell 24; have cWANT_40_25 : _ = some (Value.slice h7a h7n h7c) := WANT_40.cell 25; have cWANT_40_26 : _ = some (Value.slice h7b h7m h7d) := WANT_40.cell 26; have cWANT_40_27 : _ = some (Value.bool (decide ((o8).num < 0))) := WANT_40.cell 27; have cWANT_40_28 : _ = some (Value.slice h8a h8n h8c) := WANT_40.cell 28; have cWANT_40_29 : _ = some (Value.slice h8b h8m h8d) := WANT_40.cell 29; have FL_40 := FL_39.next hB_40; have cFL_40_0 : _ = some (Value.bool (decide (fx < 0))) := FL_40.cell 0; have cFL_40_1 : _ = some (Value.slice fa fn fc) := FL_40.cell 1; have hbM_40 := hbM_39.next hB_40; have QX_40 := QX_39.below hB_40; have QP_40 := QP_39.below hB_40; have QY_40 := QY_39.below hB_40; have QR_40 := QR_39.below hB_40; have RG_40 := RG_39.below hB_40; have RW_40 := RW_39.below hB_40; have hbel_40 := hbel_39.next hB_40; have hsz_40 := hB_40.size; clear X_39 cX_39_0 fX_39_0 cX_39_1 fX_39_1 cX_39_2 fX_39_2 Y_39 cY_39_0 fY_39_0 cY_39_1 fY_39_1 cY_39_2 fY_39_2 P_39 cP_39_0 cP_39_1 cP_39_2 R_39 cR_39_0 cR_39_1 cR_39_2 U_39 cU_39_0 cU_39_1 cU_39_2 V_39 cV_39_0 cV_39_1 cV_39_2 E_39 cE_39_0 cE_39_1 cE_39_2 G_39 cG_39_0 cG_39_1 cG_39_2 GOT_39 cGOT_39_0 cGOT_39_1 cGOT_39_2 cGOT_39_3 cGOT_39_4 cGOT_39_5 cGOT_39_6 cGOT_39_7 cGOT_39_8 cGOT_39_9 cGOT_39_10 cGOT_39_11 cGOT_39_12 cGOT_39_13 cGOT_39_14 cGOT_39_15 cGOT_39_16 cGOT_39_17 cGOT_39_18 cGOT_39_19 cGOT_39_20 cGOT_39_21 cGOT_39_22 cGOT_39_23 cGOT_39_24 cGOT_39_25 cGOT_39_26 cGOT_39_27 cGOT_39_28 cGOT_39_29 WANT_39 cWANT_39_0 cWANT_39_1 cWANT_39_2 cWANT_39_3 cWANT_39_4 cWANT_39_5 cWANT_39_6 cWANT_39_7 cWANT_39_8 cWANT_39_9 cWANT_39_10 cWANT_39_11 cWANT_39_12 cWANT_39_13 cWANT_39_14 cWANT_39_15 cWANT_39_16 cWANT_39_17 cWANT_39_18 cWANT_39_19 cWANT_39_20 cWANT_39_21 cWANT_39_22 cWANT_39_23 cWANT_39_24 cWANT_39_25 cWANT_39_26 cWANT_39_27 cWANT_39_28 cWANT_39_29 FL_39 cFL_39_0 cFL_39_1 hbM_39 QX_39 QP_39 QY_39 QR_39 RG_39 RW_39 hbel_39 hB_40; try clear hB)))
      | (go_at_call 28; ((with_reducible refine (qcmp (QP_40.below (by first | exact Below.refl _ _ | exact (Below.refl _ _).drew | exact (Below.refl _ _).alloc (Nat.le_refl _) _)) (by omega) (QR_40.below (by first | exact Below.refl _ _ | exact (Below.refl _ _).drew | exact (Below.refl _ _).alloc (Nat.le_refl _) _)) (by omega)).mono ?_); (rw [hc1.out]; rintro e w41 ⟨rfl, hB⟩; have hBT : Below w40.heap.size w40 w41 := (by first | exact hB | exact below_drew hB | exact bel_alloc hB); have T_41 := hid (T_40.out.below hBT); have hbT_41 := hbT_40.next hBT; clear T_40 hbT_40 hBT; have hB_41 : Below w40.heap.size w40 w41 := (by first | exact hB | exact below_drew hB | exact bel_alloc hB); have X_41 := X_40.next hB_41; have cX_41_0 : _ = some (Value.bool s) := X_41.cell 0; have fX_41_0 := X_41.free 0; have cX_41_1 : _ = some (Value.slice a n1 c) := X_41.cell 1; have fX_41_1 := X_41.free 1; have cX_41_2 : _ = some (Value.slice b m1 d) := X_41.cell 2; have fX_41_2 := X_41.free 2; have Y_41 := Y_40.next hB_41; have cY_41_0 : _ = some (Value.bool t) := Y_41.cell 0; have fY_41_0 := Y_41.free 0; have cY_41_1 : _ = some (Value.slice a' n2 c') := Y_41.cell 1; have fY_41_1 := Y_41.free 1; have cY_41_2 : _ = some (Value.slice b' m2 d') := Y_41.cell 2; have fY_41_2 := Y_41.free 2; have P_41 := P_40.next hB_41; have cP_41_0 : _ = some (Value.bool s) := P_41.cell 0; have cP_41_1 : _ = some (Value.slice pa n1 pc) := P_41.cell 1; have cP_41_2 : _ = some (Value.slice pb m1 pd) := P_41.cell 2; have R_41 := R_40.next hB_41; have cR_41_0 : _ = some (Value.bool t) := R_41.cell 0; have cR_41_1 : _ = some (Value.slice ra n2 rc) := R_41.cell 1; have cR_41_2 : _ = some (Value.slice rb m2 rd) := R_41.cell 2; have U_41 := U_40.next hB_41; have cU_41_0 : _ = some (Value.bool (qsg en er)) := U_41.cell 0; have cU_41_1 : _ = some (Value.slice ua un uc) := U_41.cell 1; have cU_41_2 : _ = some (Value.slice ub um ud) := U_41.cell 2; have V_41 := V_40.next hB_41; have cV_41_0 : _ = some (Value.bool (qsg en er)) := V_41.cell 0; have cV_41_1 : _ = some (Value.slice va vn vc) := V_41.cell 1; have cV_41_2 : _ = some (Value.slice vb vm vd) := V_41.cell 2; have E_41 := E_40.next hB_41; have cE_41_0 : _ = some (Value.bool (qsg ed es)) := E_41.cell 0; have cE_41_1 : _ = some (Value.slice xa xn xc) := E_41.cell 1; have cE_41_2 : _ = some (Value.slice xb xm xd) := E_41.cell 2; have G_41 := G_40.next hB_41; have cG_41_0 : _ = some (Value.bool (qsg ed es)) := G_41.cell 0; have cG_41_1 : _ = some (Value.slice ya yn yc) := G_41.cell 1; have cG_41_2 : _ = some (Value.slice yb ym yd) := G_41.cell 2; have GOT_41 := GOT_40.next hB_41; have cGOT_41_0 : _ = some (Value.bool (qsg en er)) := GOT_41.cell 0; have cGOT_41_1 : _ = some (Value.slice ua un uc) := GOT_41.cell 1; have cGOT_41_2 : _ = some (Value.slice ub um ud) := GOT_41.cell 2; have cGOT_41_3 : _ = some (Value.bool (decide ((o1).num < 0))) := GOT_41.cell 3; have cGOT_41_4 : _ = some (Value.slice g1a g1n g1c) := GOT_41.cell 4; have cGOT_41_5 : _ = some (Value.slice g1b g1m g1d) := GOT_41.cell 5; have cGOT_41_6 : _ = some (Value.bool (decide ((o2).num < 0))) := GOT_41.cell 6; have cGOT_41_7 : _ = some (Value.slice g2a g2n g2c) := GOT_41.cell 7; have cGOT_41_8 : _ = some (Value.slice g2b g2m g2d) := GOT_41.cell 8; have cGOT_41_9 : _ = some (Value.bool (decide ((o3).num < 0))) := GOT_41.cell 9; have cGOT_41_10 : _ = some (Value.slice g3a g3n g3c) := GOT_41.cell 10; have cGOT_41_11 : _ = some (Value.slice g3b g3m g3d) := GOT_41.cell 11; have cGOT_41_12 : _ = some (Value.bool (decide ((o4).num < 0))) := GOT_41.cell 12; have cGOT_41_13 : _ = some (Value.slice g4a g4n g4c) := GOT_41.cell 13; have cGOT_41_14 : _ = some (Value.slice g4b g4m g4d) := GOT_41.cell 14; have cGOT_41_15 : _ = some (Value.bool (qsg ed es)) := GOT_41.cell 15; have cGOT_41_16 : _ = some (Value.slice xa xn xc) := GOT_41.cell 16; have cGOT_41_17 : _ = some (Value.slice xb xm xd) := GOT_41.cell 17; have cGOT_41_18 : _ = some (Value.bool (decide ((o5).num < 0))) := GOT_41.cell 18; have cGOT_41_19 : _ = some (Value.slice g5a g5n g5c) := GOT_41.cell 19; have cGOT_41_20 : _ = some (Value.slice g5b g5m g5d) := GOT_41.cell 20; have cGOT_41_21 : _ = some (Value.bool (decide ((o6).num < 0))) := GOT_41.cell 21; have cGOT_41_22 : _ = some (Value.slice g6a g6n g6c) := GOT_41.cell 22; have cGOT_41_23 : _ = some (Value.slice g6b g6m g6d) := GOT_41.cell 23; have cGOT_41_24 : _ = some (Value.bool (decide ((o7).num < 0))) := GOT_41.cell 24; have cGOT_41_25 : _ = some (Value.slice g7a g7n g7c) := GOT_41.cell 25; have cGOT_41_26 : _ = some (Value.slice g7b g7m g7d) := GOT_41.cell 26; have cGOT_41_27 : _ = some (Value.bool (decide ((o8).num < 0))) := GOT_41.cell 27; have cGOT_41_28 : _ = some (Value.slice g8a g8n g8c) := GOT_41.cell 28; have cGOT_41_29 : _ = some (Value.slice g8b g8m g8d) := GOT_41.cell 29; have WANT_41 := WANT_40.next hB_41; have cWANT_41_0 : _ = some (Value.bool (qsg en er)) := WANT_41.cell 0; have cWANT_41_1 : _ = some (Value.slice va vn vc) := WANT_41.cell 1; have cWANT_41_2 : _ = some (Value.slice vb vm vd) := WANT_41.cell 2; have cWANT_41_3 : _ = some (Value.bool (decide ((o1).num < 0))) := WANT_41.cell 3; have cWANT_41_4 : _ = some (Value.slice h1a h1n h1c) := WANT_41.cell 4; have cWANT_41_5 : _ = some (Value.slice h1b h1m h1d) := WANT_41.cell 5; have cWANT_41_6 : _ = some (Value.bool (decide ((o2).num < 0))) := WANT_41.cell 6; have cWANT_41_7 : _ = some (Value.slice h2a h2n h2c) := WANT_41.cell 7; have cWANT_41_8 : _ = some (Value.slice h2b h2m h2d) := WANT_41.cell 8; have cWANT_41_9 : _ = some (Value.bool (decide ((o3).num < 0))) := WANT_41.cell 9; have cWANT_41_10 : _ = some (Value.slice h3a h3n h3c) := WANT_41.cell 10; have cWANT_41_11 : _ = some (Value.slice h3b h3m h3d) := WANT_41.cell 11; have cWANT_41_12 : _ = some (Value.bool (decide ((o4).num < 0))) := WANT_41.cell 12; have cWANT_41_13 : _ = some (Value.slice h4a h4n h4c) := WANT_41.cell 13; have cWANT_41_14 : _ = some (Value.slice h4b h4m h4d) := WANT_41.cell 14; have cWANT_41_15 : _ = some (Value.bool (qsg ed es)) := WANT_41.cell 15; have cWANT_41_16 : _ = some (Value.slice ya yn yc) := WANT_41.cell 16; have cWANT_41_17 : _ = some (Value.slice yb ym yd) := WANT_41.cell 17; have cWANT_41_18 : _ = some (Value.bool (decide ((o5).num < 0))) := WANT_41.cell 18; have cWANT_41_19 : _ = some (Value.slice h5a h5n h5c) := WANT_41.cell 19; have cWANT_41_20 : _ = some (Value.slice h5b h5m h5d) := WANT_41.cell 20; have cWANT_41_21 : _ = some (Value.bool (decide ((o6).num < 0))) := WANT_41.cell 21; have cWANT_41_22 : _ = some (Value.slice h6a h6n h6c) := WANT_41.cell 22; have cWANT_41_23 : _ = some (Value.slice h6b h6m h6d) := WANT_41.cell 23; have cWANT_41_24 : _ = some (Value.bool (decide ((o7).num < 0))) := WANT_41.cell 24; have cWANT_41_25 : _ = some (Value.slice h7a h7n h7c) := WANT_41.cell 25; have cWANT_41_26 : _ = some (Value.slice h7b h7m h7d) := WANT_41.cell 26; have cWANT_41_27 : _ = some (Value.bool (decide ((o8).num < 0))) := WANT_41.cell 27; have cWANT_41_28 : _ = some (Value.slice h8a h8n h8c) := WANT_41.cell 28; have cWANT_41_29 : _ = some (Value.slice h8b h8m h8d) := WANT_41.cell 29; have FL_41 := FL_40.next hB_41; have cFL_41_0 : _ = some (Value.bool (decide (fx < 0))) := FL_41.cell 0; have cFL_41_1 : _ = some (Value.slice fa fn fc) := FL_41.cell 1; have hbM_41 := hbM_40.next hB_41; have QX_41 := QX_40.below hB_41; have QP_41 := QP_40.below hB_41; have QY_41 := QY_40.below hB_41; have QR_41 := QR_40.below hB_41; have RG_41 := RG_40.below hB_41; have RW_41 := RW_40.below hB_41; have hbel_41 := hbel_40.next hB_41; have hsz_41 := hB_41.size; clear X_40 cX_40_0 fX_40_0 cX_40_1 fX_40_1 cX_40_2 fX_40_2 Y_40 cY_40_0 fY_40_0 cY_40_1 fY_40_1 cY_40_2 fY_40_2 P_40 cP_40_0 cP_40_1 cP_40_2 R_40 cR_40_0 cR_40_1 cR_40_2 U_40 cU_40_0 cU_40_1 cU_40_2 V_40 cV_40_0 cV_40_1 cV_40_2 E_40 cE_40_0 cE_40_1 cE_40_2 G_40 cG_40_0 cG_40_1 cG_40_2 GOT_40 cGOT_40_0 cGOT_40_1 cGOT_40_2 cGOT_40_3 cGOT_40_4 cGOT_40_5 cGOT_40_6 cGOT_40_7 cGOT_40_8 cGOT_40_9 cGOT_40_10 cGOT_40_11 cGOT_40_12 cGOT_40_13 cGOT_40_14 cGOT_40_15 cGOT_40_16 cGOT_40_17 cGOT_40_18 cGOT_40_19 cGOT_40_20 cGOT_40_21 cGOT_40_22 cGOT_40_23 cGOT_40_24 cGOT_40_25 cGOT_40_26 cGOT_40_27 cGOT_40_28 cGOT_40_29 WANT_40 cWANT_40_0 cWANT_40_1 cWANT_40_2 cWANT_40_3 cWANT_40_4 cWANT_40_5 cWANT_40_6 cWANT_40_7 cWANT_40_8 cWANT_40_9 cWANT_40_10 cWANT_40_11 cWANT_40_12 cWANT_40_13 cWANT_40_14 cWANT_40_15 cWANT_40_16 cWANT_40_17 cWANT_40_18 cWANT_40_19 cWANT_40_20 cWANT_40_21 cWANT_40_22 cWANT_40_23 cWANT_40_24 cWANT_40_25 cWANT_40_26 cWANT_40_27 cWANT_40_28 cWANT_40_29 FL_40 cFL_40_0 cFL_40_1 hbM_40 QX_40 QP_40 QY_40 QR_40 RG_40 RW_40 hbel_40 hB_41; try clear hB)))
      | (go_at_call 29; ((with_reducible refine (rqcmp (QX_41.below (by first | exact Below.refl _ _ | exact (Below.refl _ _).drew | exact (Below.refl _ _).alloc (Nat.le_refl _) _)) (by omega) (QY_41.below (by first | exact Below.refl _ _ | exact (Below.refl _ _).drew | exact (Below.refl _ _).alloc (Nat.le_refl _) _)) (by omega)).mono ?_); (rw [hc1.out]; rintro e w42 ⟨rfl, hB⟩; have hBT : Below w41.heap.size w41 w42 := (by first | exact hB | exact below_drew hB | exact bel_alloc hB); have T_42 := hid (T_41.out.below hBT); have hbT_42 := hbT_41.next hBT; clear T_41 hbT_41 hBT; have hB_42 : Below w41.heap.size w41 w42 := (by first | exact hB | exact below_drew hB | exact bel_alloc hB); have X_42 := X_41.next hB_42; have cX_42_0 : _ = some (Value.bool s) := X_42.cell 0; have fX_42_0 := X_42.free 0; have cX_42_1 : _ = some (Value.slice a n1 c) := X_42.cell 1; have fX_42_1 := X_42.free 1; have cX_42_2 : _ = some (Value.slice b m1 d) := X_42.cell 2; have fX_42_2 := X_42.free 2; have Y_42 := Y_41.next hB_42; have cY_42_0 : _ = some (Value.bool t) := Y_42.cell 0; have fY_42_0 := Y_42.free 0; have cY_42_1 : _ = some (Value.slice a' n2 c') := Y_42.cell 1; have fY_42_1 := Y_42.free 1; have cY_42_2 : _ = some (Value.slice b' m2 d') := Y_42.cell 2; have fY_42_2 := Y_42.free 2; have P_42 := P_41.next hB_42; have cP_42_0 : _ = some (Value.bool s) := P_42.cell 0; have cP_42_1 : _ = some (Value.slice pa n1 pc) := P_42.cell 1; have cP_42_2 : _ = some (Value.slice pb m1 pd) := P_42.cell 2; have R_42 := R_41.next hB_42; have cR_42_0 : _ = some (Value.bool t) := R_42.cell 0; have cR_42_1 : _ = some (Value.slice ra n2 rc) := R_42.cell 1; have cR_42_2 : _ = some (Value.slice rb m2 rd) := R_42.cell 2; have U_42 := U_41.next hB_42; have cU_42_0 : _ = some (Value.bool (qsg en er)) := U_42.cell 0; have cU_42_1 : _ = some (Value.slice ua un uc) := U_42.cell 1; have cU_42_2 : _ = some (Value.slice ub um ud) := U_42.cell 2; have V_42 := V_41.next hB_42; have cV_42_0 : _ = some (Value.bool (qsg en er)) := V_42.cell 0; have cV_42_1 : _ = some (Value.slice va vn vc) := V_42.cell 1; have cV_42_2 : _ = some (Value.slice vb vm vd) := V_42.cell 2; have E_42 := E_41.next hB_42; have cE_42_0 : _ = some (Value.bool (qsg ed es)) := E_42.cell 0; have cE_42_1 : _ = some (Value.slice xa xn xc) := E_42.cell 1; have cE_42_2 : _ = some (Value.slice xb xm xd) := E_42.cell 2; have G_42 := G_41.next hB_42; have cG_42_0 : _ = some (Value.bool (qsg ed es)) := G_42.cell 0; have cG_42_1 : _ = some (Value.slice ya yn yc) := G_42.cell 1; have cG_42_2 : _ = some (Value.slice yb ym yd) := G_42.cell 2; have GOT_42 := GOT_41.next hB_42; have cGOT_42_0 : _ = some (Value.bool (qsg en er)) := GOT_42.cell 0; have cGOT_42_1 : _ = some (Value.slice ua un uc) := GOT_42.cell 1; have cGOT_42_2 : _ = some (Value.slice ub um ud) := GOT_42.cell 2; have cGOT_42_3 : _ = some (Value.bool (decide ((o1).num < 0))) := GOT_42.cell 3; have cGOT_42_4 : _ = some (Value.slice g1a g1n g1c) := GOT_42.cell 4; have cGOT_42_5 : _ = some (Value.slice g1b g1m g1d) := GOT_42.cell 5; have cGOT_42_6 : _ = some (Value.bool (decide ((o2).num < 0))) := GOT_42.cell 6; have cGOT_42_7 : _ = some (Value.slice g2a g2n g2c) := GOT_42.cell 7; have cGOT_42_8 : _ = some (Value.slice g2b g2m g2d) := GOT_42.cell 8; have cGOT_42_9 : _ = some (Value.bool (decide ((o3).num < 0))) := GOT_42.cell 9; have cGOT_42_10 : _ = some (Value.slice g3a g3n g3c) := GOT_42.cell 10; have cGOT_42_11 : _ = some (Value.slice g3b g3m g3d) := GOT_42.cell 11; have cGOT_42_12 : _ = some (Value.bool (decide ((o4).num < 0))) := GOT_42.cell 12; have cGOT_42_13 : _ = some (Value.slice g4a g4n g4c) := GOT_42.cell 13; have cGOT_42_14 : _ = some (Value.slice g4b g4m g4d) := GOT_42.cell 14; have cGOT_42_15 : _ = some (Value.bool (qsg ed es)) := GOT_42.cell 15; have cGOT_42_16 : _ = some (Value.slice xa xn xc) := GOT_42.cell 16; have cGOT_42_17 : _ = some (Value.slice xb xm xd) := GOT_42.cell 17; have cGOT_42_18 : _ = some (Value.bool (decide ((o5).num < 0))) := GOT_42.cell 18; have cGOT_42_19 : _ = some (Value.slice g5a g5n g5c) := GOT_42.cell 19; have cGOT_42_20 : _ = some (Value.slice g5b g5m g5d) := GOT_42.cell 20; have cGOT_42_21 : _ = some (Value.bool (decide ((o6).num < 0))) := GOT_42.cell 21; have cGOT_42_22 : _ = some (Value.slice g6a g6n g6c) := GOT_42.cell 22; have cGOT_42_23 : _ = some (Value.slice g6b g6m g6d) := GOT_42.cell 23; have cGOT_42_24 : _ = some (Value.bool (decide ((o7).num < 0))) := GOT_42.cell 24; have cGOT_42_25 : _ = some (Value.slice g7a g7n g7c) := GOT_42.cell 25; have cGOT_42_26 : _ = some (Value.slice g7b g7m g7d) := GOT_42.cell 26; have cGOT_42_27 : _ = some (Value.bool (decide ((o8).num < 0))) := GOT_42.cell 27; have cGOT_42_28 : _ = some (Value.slice g8a g8n g8c) := GOT_42.cell 28; have cGOT_42_29 : _ = some (Value.slice g8b g8m g8d) := GOT_42.cell 29; have WANT_42 := WANT_41.next hB_42; have cWANT_42_0 : _ = some (Value.bool (qsg en er)) := WANT_42.cell 0; have cWANT_42_1 : _ = some (Value.slice va vn vc) := WANT_42.cell 1; have cWANT_42_2 : _ = some (Value.slice vb vm vd) := WANT_42.cell 2; have cWANT_42_3 : _ = some (Value.bool (decide ((o1).num < 0))) := WANT_42.cell 3; have cWANT_42_4 : _ = some (Value.slice h1a h1n h1c) := WANT_42.cell 4; have cWANT_42_5 : _ = some (Value.slice h1b h1m h1d) := WANT_42.cell 5; have cWANT_42_6 : _ = some (Value.bool (decide ((o2).num < 0))) := WANT_42.cell 6; have cWANT_42_7 : _ = some (Value.slice h2a h2n h2c) := WANT_42.cell 7; have cWANT_42_8 : _ = some (Value.slice h2b h2m h2d) := WANT_42.cell 8; have cWANT_42_9 : _ = some (Value.bool (decide ((o3).num < 0))) := WANT_42.cell 9; have cWANT_42_10 : _ = some (Value.slice h3a h3n h3c) := WANT_42.cell 10; have cWANT_42_11 : _ = some (Value.slice h3b h3m h3d) := WANT_42.cell 11; have cWANT_42_12 : _ = some (Value.bool (decide ((o4).num < 0))) := WANT_42.cell 12; have cWANT_42_13 : _ = some (Value.slice h4a h4n h4c) := WANT_42.cell 13; have cWANT_42_14 : _ = some (Value.slice h4b h4m h4d) := WANT_42.cell 14; have cWANT_42_15 : _ = some (Value.bool (qsg ed es)) := WANT_42.cell 15; have cWANT_42_16 : _ = some (Value.slice ya yn yc) := WANT_42.cell 16; have cWANT_42_17 : _ = some (Value.slice yb ym yd) := WANT_42.cell 17; have cWANT_42_18 : _ = some (Value.bool (decide ((o5).num < 0))) := WANT_42.cell 18; have cWANT_42_19 : _ = some (Value.slice h5a h5n h5c) := WANT_42.cell 19; have cWANT_42_20 : _ = some (Value.slice h5b h5m h5d) := WANT_42.cell 20; have cWANT_42_21 : _ = some (Value.bool (decide ((o6).num < 0))) := WANT_42.cell 21; have cWANT_42_22 : _ = some (Value.slice h6a h6n h6c) := WANT_42.cell 22; have cWANT_42_23 : _ = some (Value.slice h6b h6m h6d) := WANT_42.cell 23; have cWANT_42_24 : _ = some (Value.bool (decide ((o7).num < 0))) := WANT_42.cell 24; have cWANT_42_25 : _ = some (Value.slice h7a h7n h7c) := WANT_42.cell 25; have cWANT_42_26 : _ = some (Value.slice h7b h7m h7d) := WANT_42.cell 26; have cWANT_42_27 : _ = some (Value.bool (decide ((o8).num < 0))) := WANT_42.cell 27; have cWANT_42_28 : _ = some (Value.slice h8a h8n h8c) := WANT_42.cell 28; have cWANT_42_29 : _ = some (Value.slice h8b h8m h8d) := WANT_42.cell 29; have FL_42 := FL_41.next hB_42; have cFL_42_0 : _ = some (Value.bool (decide (fx < 0))) := FL_42.cell 0; have cFL_42_1 : _ = some (Value.slice fa fn fc) := FL_42.cell 1; have hbM_42 := hbM_41.next hB_42; have QX_42 := QX_41.below hB_42; have QP_42 := QP_41.below hB_42; have QY_42 := QY_41.below hB_42; have QR_42 := QR_41.below hB_42; have RG_42 := RG_41.below hB_42; have RW_42 := RW_41.below hB_42; have hbel_42 := hbel_41.next hB_42; have hsz_42 := hB_42.size; clear X_41 cX_41_0 fX_41_0 cX_41_1 fX_41_1 cX_41_2 fX_41_2 Y_41 cY_41_0 fY_41_0 cY_41_1 fY_41_1 cY_41_2 fY_41_2 P_41 cP_41_0 cP_41_1 cP_41_2 R_41 cR_41_0 cR_41_1 cR_41_2 U_41 cU_41_0 cU_41_1 cU_41_2 V_41 cV_41_0 cV_41_1 cV_41_2 E_41 cE_41_0 cE_41_1 cE_41_2 G_41 cG_41_0 cG_41_1 cG_41_2 GOT_41 cGOT_41_0 cGOT_41_1 cGOT_41_2 cGOT_41_3 cGOT_41_4 cGOT_41_5 cGOT_41_6 cGOT_41_7 cGOT_41_8 cGOT_41_9 cGOT_41_10 cGOT_41_11 cGOT_41_12 cGOT_41_13 cGOT_41_14 cGOT_41_15 cGOT_41_16 cGOT_41_17 cGOT_41_18 cGOT_41_19 cGOT_41_20 cGOT_41_21 cGOT_41_22 cGOT_41_23 cGOT_41_24 cGOT_41_25 cGOT_41_26 cGOT_41_27 cGOT_41_28 cGOT_41_29 WANT_41 cWANT_41_0 cWANT_41_1 cWANT_41_2 cWANT_41_3 cWANT_41_4 cWANT_41_5 cWANT_41_6 cWANT_41_7 cWANT_41_8 cWANT_41_9 cWANT_41_10 cWANT_41_11 cWANT_41_12 cWANT_41_13 cWANT_41_14 cWANT_41_15 cWANT_41_16 cWANT_41_17 cWANT_41_18 cWANT_41_19 cWANT_41_20 cWANT_41_21 cWANT_41_22 cWANT_41_23 cWANT_41_24 cWANT_41_25 cWANT_41_26 cWANT_41_27 cWANT_41_28 cWANT_41_29 FL_41 cFL_41_0 cFL_41_1 hbM_41 QX_41 QP_41 QY_41 QR_41 RG_41 RW_41 hbel_41 hB_42; try clear hB)))
      | (go_at_call 28; ((with_reducible refine (qcmp (QR_42.below (by first | exact Below.refl _ _ | exact (Below.refl _ _).drew | exact (Below.refl _ _).alloc (Nat.le_refl _) _)) (by omega) (QP_42.below (by first | exact Below.refl _ _ | exact (Below.refl _ _).drew | exact (Below.refl _ _).alloc (Nat.le_refl _) _)) (by omega)).mono ?_); (rw [hc2.out]; rintro e w43 ⟨rfl, hB⟩; have hBT : Below w42.heap.size w42 w43 := (by first | exact hB | exact below_drew hB | exact bel_alloc hB); have T_43 := hid (T_42.out.below hBT); have hbT_43 := hbT_42.next hBT; clear T_42 hbT_42 hBT; have hB_43 : Below w42.heap.size w42 w43 := (by first | exact hB | exact below_drew hB | exact bel_alloc hB); have X_43 := X_42.next hB_43; have cX_43_0 : _ = some (Value.bool s) := X_43.cell 0; have fX_43_0 := X_43.free 0; have cX_43_1 : _ = some (Value.slice a n1 c) := X_43.cell 1; have fX_43_1 := X_43.free 1; have cX_43_2 : _ = some (Value.slice b m1 d) := X_43.cell 2; have fX_43_2 := X_43.free 2; have Y_43 := Y_42.next hB_43; have cY_43_0 : _ = some (Value.bool t) := Y_43.cell 0; have fY_43_0 := Y_43.free 0; have cY_43_1 : _ = some (Value.slice a' n2 c') := Y_43.cell 1; have fY_43_1 := Y_43.free 1; have cY_43_2 : _ = some (Value.slice b' m2 d') := Y_43.cell 2; have fY_43_2 := Y_43.free 2; have P_43 := P_42.next hB_43; have cP_43_0 : _ = some (Value.bool s) := P_43.cell 0; have cP_43_1 : _ = some (Value.slice pa n1 pc) := P_43.cell 1; have cP_43_2 : _ = some (Value.slice pb m1 pd) := P_43.cell 2; have R_43 := R_42.next hB_43; have cR_43_0 : _ = some (Value.bool t) := R_43.cell 0; have cR_43_1 : _ = some (Value.slice ra n2 rc) := R_43.cell 1; have cR_43_2 : _ = some (Value.slice rb m2 rd) := R_43.cell 2; have U_43 := U_42.next hB_43; have cU_43_0 : _ = some (Value.bool (qsg en er)) := U_43.cell 0; have cU_43_1 : _ = some (Value.slice ua un uc) := U_43.cell 1; have cU_43_2 : _ = some (Value.slice ub um ud) := U_43.cell 2; have V_43 := V_42.next hB_43; have cV_43_0 : _ = some (Value.bool (qsg en er)) := V_43.cell 0; have cV_43_1 : _ = some (Value.slice va vn vc) := V_43.cell 1; have cV_43_2 : _ = some (Value.slice vb vm vd) := V_43.cell 2; have E_43 := E_42.next hB_43; have cE_43_0 : _ = some (Value.bool (qsg ed es)) := E_43.cell 0; have cE_43_1 : _ = some (Value.slice xa xn xc) := E_43.cell 1; have cE_43_2 : _ = some (Value.slice xb xm xd) := E_43.cell 2; have G_43 := G_42.next hB_43; have cG_43_0 : _ = some (Value.bool (qsg ed es)) := G_43.cell 0; have cG_43_1 : _ = some (Value.slice ya yn yc) := G_43.cell 1; have cG_43_2 : _ = some (Value.slice yb ym yd) := G_43.cell 2; have GOT_43 := GOT_42.next hB_43; have cGOT_43_0 : _ = some (Value.bool (qsg en er)) := GOT_43.cell 0; have cGOT_43_1 : _ = some (Value.slice ua un uc) := GOT_43.cell 1; have cGOT_43_2 : _ = some (Value.slice ub um ud) := GOT_43.cell 2; have cGOT_43_3 : _ = some (Value.bool (decide ((o1).num < 0))) := GOT_43.cell 3; have cGOT_43_4 : _ = some (Value.slice g1a g1n g1c) := GOT_43.cell 4; have cGOT_43_5 : _ = some (Value.slice g1b g1m g1d) := GOT_43.cell 5; have cGOT_43_6 : _ = some (Value.bool (decide ((o2).num < 0))) := GOT_43.cell 6; have cGOT_43_7 : _ = some (Value.slice g2a g2n g2c) := GOT_43.cell 7; have cGOT_43_8 : _ = some (Value.slice g2b g2m g2d) := GOT_43.cell 8; have cGOT_43_9 : _ = some (Value.bool (decide ((o3).num < 0))) := GOT_43.cell 9; have cGOT_43_10 : _ = some (Value.slice g3a g3n g3c) := GOT_43.cell 10; have cGOT_43_11 : _ = some (Value.slice g3b g3m g3d) := GOT_43.cell 11; have cGOT_43_12 : _ = some (Value.bool (decide ((o4).num < 0))) := GOT_43.cell 12; have cGOT_43_13 : _ = some (Value.slice g4a g4n g4c) := GOT_43.cell 13; have cGOT_43_14 : _ = some (Value.slice g4b g4m g4d) := GOT_43.cell 14; have cGOT_43_15 : _ = some (Value.bool (qsg ed es)) := GOT_43.cell 15; have cGOT_43_16 : _ = some (Value.slice xa xn xc) := GOT_43.cell 16; have cGOT_43_17 : _ = some (Value.slice xb xm xd) := GOT_43.cell 17; have cGOT_43_18 : _ = some (Value.bool (decide ((o5).num < 0))) := GOT_43.cell 18; have cGOT_43_19 : _ = some (Value.slice g5a g5n g5c) := GOT_43.cell 19; have cGOT_43_20 : _ = some (Value.slice g5b g5m g5d) := GOT_43.cell 20; have cGOT_43_21 : _ = some (Value.bool (decide ((o6).num < 0))) := GOT_43.cell 21; have cGOT_43_22 : _ = some (Value.slice g6a g6n g6c) := GOT_43.cell 22; have cGOT_43_23 : _ = some (Value.slice g6b g6m g6d) := GOT_43.cell 23; have cGOT_43_24 : _ = some (Value.bool (decide ((o7).num < 0))) := GOT_43.cell 24; have cGOT_43_25 : _ = some (Value.slice g7a g7n g7c) := GOT_43.cell 25; have cGOT_43_26 : _ = some (Value.slice g7b g7m g7d) := GOT_43.cell 26; have cGOT_43_27 : _ = some (Value.bool (decide ((o8).num < 0))) := GOT_43.cell 27; have cGOT_43_28 : _ = some (Value.slice g8a g8n g8c) := GOT_43.cell 28; have cGOT_43_29 : _ = some (Value.slice g8b g8m g8d) := GOT_43.cell 29; have WANT_43 := WANT_42.next hB_43; have cWANT_43_0 : _ = some (Value.bool (qsg en er)) := WANT_43.cell 0; have cWANT_43_1 : _ = some (Value.slice va vn vc) := WANT_43.cell 1; have cWANT_43_2 : _ = some (Value.slice vb vm vd) := WANT_43.cell 2; have cWANT_43_3 : _ = some (Value.bool (decide ((o1).num < 0))) := WANT_43.cell 3; have cWANT_43_4 : _ = some (Value.slice h1a h1n h1c) := WANT_43.cell 4; have cWANT_43_5 : _ = some (Value.slice h1b h1m h1d) := WANT_43.cell 5; have cWANT_43_6 : _ = some (Value.bool (decide ((o2).num < 0))) := WANT_43.cell 6; have cWANT_43_7 : _ = some (Value.slice h2a h2n h2c) := WANT_43.cell 7; have cWANT_43_8 : _ = some (Value.slice h2b h2m h2d) := WANT_43.cell 8; have cWANT_43_9 : _ = some (Value.bool (decide ((o3).num < 0))) := WANT_43.cell 9; have cWANT_43_10 : _ = some (Value.slice h3a h3n h3c) := WANT_43.cell 10; have cWANT_43_11 : _ = some (Value.slice h3b h3m h3d) := WANT_43.cell 11; have cWANT_43_12 : _ = some (Value.bool (decide ((o4).num < 0))) := WANT_43.cell 12; have cWANT_43_13 : _ = some (Value.slice h4a h4n h4c) := WANT_43.cell 13; have cWANT_43_14 : _ = some (Value.slice h4b h4m h4d) := WANT_43.cell 14; have cWANT_43_15 : _ = some (Value.bool (qsg ed es)) := WANT_43.cell 15; have cWANT_43_16 : _ = some (Value.slice ya yn yc) := WANT_43.cell 16; have cWANT_43_17 : _ = some (Value.slice yb ym yd) := WANT_43.cell 17; have cWANT_43_18 : _ = some (Value.bool (decide ((o5).num < 0))) := WANT_43.cell 18; have cWANT_43_19 : _ = some (Value.slice h5a h5n h5c) := WANT_43.cell 19; have cWANT_43_20 : _ = some (Value.slice h5b h5m h5d) := WANT_43.cell 20; have cWANT_43_21 : _ = some (Value.bool (decide ((o6).num < 0))) := WANT_43.cell 21; have cWANT_43_22 : _ = some (Value.slice h6a h6n h6c) := WANT_43.cell 22; have cWANT_43_23 : _ = some (Value.slice h6b h6m h6d) := WANT_43.cell 23; have cWANT_43_24 : _ = some (Value.bool (decide ((o7).num < 0))) := WANT_43.cell 24; have cWANT_43_25 : _ = some (Value.slice h7a h7n h7c) := WANT_43.cell 25; have cWANT_43_26 : _ = some (Value.slice h7b h7m h7d) := WANT_43.cell 26; have cWANT_43_27 : _ = some (Value.bool (decide ((o8).num < 0))) := WANT_43.cell 27; have cWANT_43_28 : _ = some (Value.slice h8a h8n h8c) := WANT_43.cell 28; have cWANT_43_29 : _ = some (Value.slice h8b h8m h8d) := WANT_43.cell 29; have FL_43 := FL_42.next hB_43; have cFL_43_0 : _ = some (Value.bool (decide (fx < 0))) := FL_43.cell 0; have cFL_43_1 : _ = some (Value.slice fa fn fc) := FL_43.cell 1; have hbM_43 := hbM_42.next hB_43; have QX_43 := QX_42.below hB_43; have QP_43 := QP_42.below hB_43; have QY_43 := QY_42.below hB_43; have QR_43 := QR_42.below hB_43; have RG_43 := RG_42.below hB_43; have RW_43 := RW_42.below hB_43; have hbel_43 := hbel_42.next hB_43; have hsz_43 := hB_43.size; clear X_42 cX_42_0 fX_42_0 cX_42_1 fX_42_1 cX_42_2 fX_42_2 Y_42 cY_42_0 fY_42_0 cY_42_1 fY_42_1 cY_42_2 fY_42_2 P_42 cP_42_0 cP_42_1 cP_42_2 R_42 cR_42_0 cR_42_1 cR_42_2 U_42 cU_42_0 cU_42_1 cU_42_2 V_42 cV_42_0 cV_42_1 cV_42_2 E_42 cE_42_0 cE_42_1 cE_42_2 G_42 cG_42_0 cG_42_1 cG_42_2 GOT_42 cGOT_42_0 cGOT_42_1 cGOT_42_2 cGOT_42_3 cGOT_42_4 cGOT_42_5 cGOT_42_6 cGOT_42_7 cGOT_42_8 cGOT_42_9 cGOT_42_10 cGOT_42_11 cGOT_42_12 cGOT_42_13 cGOT_42_14 cGOT_42_15 cGOT_42_16 cGOT_42_17 cGOT_42_18 cGOT_42_19 cGOT_42_20 cGOT_42_21 cGOT_42_22 cGOT_42_23 cGOT_42_24 cGOT_42_25 cGOT_42_26 cGOT_42_27 cGOT_42_28 cGOT_42_29 WANT_42 cWANT_42_0 cWANT_42_1 cWANT_42_2 cWANT_42_3 cWANT_42_4 cWANT_42_5 cWANT_42_6 cWANT_42_7 cWANT_42_8 cWANT_42_9 cWANT_42_10 cWANT_42_11 cWANT_42_12 cWANT_42_13 cWANT_42_14 cWANT_42_15 cWANT_42_16 cWANT_42_17 cWANT_42_18 cWANT_42_19 cWANT_42_20 cWANT_42_21 cWANT_42_22 cWANT_42_23 cWANT_42_24 cWANT_42_25 cWANT_42_26 cWANT_42_27 cWANT_42_28 cWANT_42_29 FL_42 cFL_42_0 cFL_42_1 hbM_42 QX_42 QP_42 QY_42 QR_42 RG_42 RW_42 hbel_42 hB_43; try clear hB)))
      | (go_at_call 29; ((with_reducible refine (rqcmp (QY_43.below (by first | exact Below.refl _ _ | exact (Below.refl _ _).drew | exact (Below.refl _ _).alloc (Nat.le_refl _) _)) (by omega) (QX_43.below (by first | exact Below.refl _ _ | exact (Below.refl _ _).drew | exact (Below.refl _ _).alloc (Nat.le_refl _) _)) (by omega)).mono ?_); (rw [hc2.out]; rintro e w44 ⟨rfl, hB⟩; have hBT : Below w43.heap.size w43 w44 := (by first | exact hB | exact below_drew hB | exact bel_alloc hB); have T_44 := hid (T_43.out.below hBT); have hbT_44 := hbT_43.next hBT; clear T_43 hbT_43 hBT; have hB_44 : Below w43.heap.size w43 w44 := (by first | exact hB | exact below_drew hB | exact bel_alloc hB); have X_44 := X_43.next hB_44; have cX_44_0 : _ = some (Value.bool s) := X_44.cell 0; have fX_44_0 := X_44.free 0; have cX_44_1 : _ = some (Value.slice a n1 c) := X_44.cell 1; have fX_44_1 := X_44.free 1; have cX_44_2 : _ = some (Value.slice b m1 d) := X_44.cell 2; have fX_44_2 := X_44.free 2; have Y_44 := Y_43.next hB_44; have cY_44_0 : _ = some (Value.bool t) := Y_44.cell 0; have fY_44_0 := Y_44.free 0; have cY_44_1 : _ = some (Value.slice a' n2 c') := Y_44.cell 1; have fY_44_1 := Y_44.free 1; have cY_44_2 : _ = some (Value.slice b' m2 d') := Y_44.cell 2; have fY_44_2 := Y_44.free 2; have P_44 := P_43.next hB_44; have cP_44_0 : _ = some (Value.bool s) := P_44.cell 0; have cP_44_1 : _ = some (Value.slice pa n1 pc) := P_44.cell 1; have cP_44_2 : _ = some (Value.slice pb m1 pd) := P_44.cell 2; have R_44 := R_43.next hB_44; have cR_44_0 : _ = some (Value.bool t) := R_44.cell 0; have cR_44_1 : _ = some (Value.slice ra n2 rc) := R_44.cell 1; have cR_44_2 : _ = some (Value.slice rb m2 rd) := R_44.cell 2; have U_44 := U_43.next hB_44; have cU_44_0 : _ = some (Value.bool (qsg en er)) := U_44.cell 0; have cU_44_1 : _ = some (Value.slice ua un uc) := U_44.cell 1; have cU_44_2 : _ = some (Value.slice ub um ud) := U_44.cell 2; have V_44 := V_43.next hB_44; have cV_44_0 : _ = some (Value.bool (qsg en er)) := V_44.cell 0; have cV_44_1 : _ = some (Value.slice va vn vc) := V_44.cell 1; have cV_44_2 : _ = some (Value.slice vb vm vd) := V_44.cell 2; have E_44 := E_43.next hB_44; have cE_44_0 : _ = some (Value.bool (qsg ed es)) := E_44.cell 0; have cE_44_1 : _ = some (Value.slice xa xn xc) := E_44.cell 1; have cE_44_2 : _ = some (Value.slice xb xm xd) := E_44.cell 2; have G_44 := G_43.next hB_44; have cG_44_0 : _ = some (Value.bool (qsg ed es)) := G_44.cell 0; have cG_44_1 : _ = some (Value.slice ya yn yc) := G_44.cell 1; have cG_44_2 : _ = some (Value.slice yb ym yd) := G_44.cell 2; have GOT_44 := GOT_43.next hB_44; have cGOT_44_0 : _ = some (Value.bool (qsg en er)) := GOT_44.cell 0; have cGOT_44_1 : _ = some (Value.slice ua un uc) := GOT_44.cell 1; have cGOT_44_2 : _ = some (Value.slice ub um ud) := GOT_44.cell 2; have cGOT_44_3 : _ = some (Value.bool (decide ((o1).num < 0))) := GOT_44.cell 3; have cGOT_44_4 : _ = some (Value.slice g1a g1n g1c) := GOT_44.cell 4; have cGOT_44_5 : _ = some (Value.slice g1b g1m g1d) := GOT_44.cell 5; have cGOT_44_6 : _ = some (Value.bool (decide ((o2).num < 0))) := GOT_44.cell 6; have cGOT_44_7 : _ = some (Value.slice g2a g2n g2c) := GOT_44.cell 7; have cGOT_44_8 : _ = some (Value.slice g2b g2m g2d) := GOT_44.cell 8; have cGOT_44_9 : _ = some (Value.bool (decide ((o3).num < 0))) := GOT_44.cell 9; have cGOT_44_10 : _ = some (Value.slice g3a g3n g3c) := GOT_44.cell 10; have cGOT_44_11 : _ = some (Value.slice g3b g3m g3d) := GOT_44.cell 11; have cGOT_44_12 : _ = some (Value.bool (decide ((o4).num < 0))) := GOT_44.cell 12; have cGOT_44_13 : _ = some (Value.slice g4a g4n g4c) := GOT_44.cell 13; have cGOT_44_14 : _ = some (Value.slice g4b g4m g4d) := GOT_44.cell 14; have cGOT_44_15 : _ = some (Value.bool (qsg ed es)) := GOT_44.cell 15; have cGOT_44_16 : _ = some (Value.slice xa xn xc) := GOT_44.cell 16; have cGOT_44_17 : _ = some (Value.slice xb xm xd) := GOT_44.cell 17; have cGOT_44_18 : _ = some (Value.bool (decide ((o5).num < 0))) := GOT_44.cell 18; have cGOT_44_19 : _ = some (Value.slice g5a g5n g5c) := GOT_44.cell 19; have cGOT_44_20 : _ = some (Value.slice g5b g5m g5d) := GOT_44.cell 20; have cGOT_44_21 : _ = some (Value.bool (decide ((o6).num < 0))) := GOT_44.cell 21; have cGOT_44_22 : _ = some (Value.slice g6a g6n g6c) := GOT_44.cell 22; have cGOT_44_23 : _ = some (Value.slice g6b g6m g6d) := GOT_44.cell 23; have cGOT_44_24 : _ = some (Value.bool (decide ((o7).num < 0))) := GOT_44.cell 24; have cGOT_44_25 : _ = some (Value.slice g7a g7n g7c) := GOT_44.cell 25; have cGOT_44_26 : _ = some (Value.slice g7b g7m g7d) := GOT_44.cell 26; have cGOT_44_27 : _ = some (Value.bool (decide ((o8).num < 0))) := GOT_44.cell 27; have cGOT_44_28 : _ = some (Value.slice g8a g8n g8c) := GOT_44.cell 28; have cGOT_44_29 : _ = some (Value.slice g8b g8m g8d) := GOT_44.cell 29; have WANT_44 := WANT_43.next hB_44; have cWANT_44_0 : _ = some (Value.bool (qsg en er)) := WANT_44.cell 0; have cWANT_44_1 : _ = some (Value.slice va vn vc) := WANT_44.cell 1; have cWANT_44_2 : _ = some (Value.slice vb vm vd) := WANT_44.cell 2; have cWANT_44_3 : _ = some (Value.bool (decide ((o1).num < 0))) := WANT_44.cell 3; have cWANT_44_4 : _ = some (Value.slice h1a h1n h1c) := WANT_44.cell 4; have cWANT_44_5 : _ = some (Value.slice h1b h1m h1d) := WANT_44.cell 5; have cWANT_44_6 : _ = some (Value.bool (decide ((o2).num < 0))) := WANT_44.cell 6; have cWANT_44_7 : _ = some (Value.slice h2a h2n h2c) := WANT_44.cell 7; have cWANT_44_8 : _ = some (Value.slice h2b h2m h2d) := WANT_44.cell 8; have cWANT_44_9 : _ = some (Value.bool (decide ((o3).num < 0))) := WANT_44.cell 9; have cWANT_44_10 : _ = some (Value.slice h3a h3n h3c) := WANT_44.cell 10; have cWANT_44_11 : _ = some (Value.slice h3b h3m h3d) := WANT_44.cell 11; have cWANT_44_12 : _ = some (Value.bool (decide ((o4).num < 0))) := WANT_44.cell 12; have cWANT_44_13 : _ = some (Value.slice h4a h4n h4c) := WANT_44.cell 13; have cWANT_44_14 : _ = some (Value.slice h4b h4m h4d) := WANT_44.cell 14; have cWANT_44_15 : _ = some (Value.bool (qsg ed es)) := WANT_44.cell 15; have cWANT_44_16 : _ = some (Value.slice ya yn yc) := WANT_44.cell 16; have cWANT_44_17 : _ = some (Value.slice yb ym yd) := WANT_44.cell 17; have cWANT_44_18 : _ = some (Value.bool (decide ((o5).num < 0))) := WANT_44.cell 18; have cWANT_44_19 : _ = some (Value.slice h5a h5n h5c) := WANT_44.cell 19; have cWANT_44_20 : _ = some (Value.slice h5b h5m h5d) := WANT_44.cell 20; have cWANT_44_21 : _ = some (Value.bool (decide ((o6).num < 0))) := WANT_44.cell 21; have cWANT_44_22 : _ = some (Value.slice h6a h6n h6c) := WANT_44.cell 22; have cWANT_44_23 : _ = some (Value.slice h6b h6m h6d) := WANT_44.cell 23; have cWANT_44_24 : _ = some (Value.bool (decide ((o7).num < 0))) := WANT_44.cell 24; have cWANT_44_25 : _ = some (Value.slice h7a h7n h7c) := WANT_44.cell 25; have cWANT_44_26 : _ = some (Value.slice h7b h7m h7d) := WANT_44.cell 26; have cWANT_44_27 : _ = some (Value.bool (decide ((o8).num < 0))) := WANT_44.cell 27; have cWANT_44_28 : _ = some (Value.slice h8a h8n h8c) := WANT_44.cell 28; have cWANT_44_29 : _ = some (Value.slice h8b h8m h8d) := WANT_44.cell 29; have FL_44 := FL_43.next hB_44; have cFL_44_0 : _ = some (Value.bool (decide (fx < 0))) := FL_44.cell 0; have cFL_44_1 : _ = some (Value.slice fa fn fc) := FL_44.cell 1; have hbM_44 := hbM_43.next hB_44; have QX_44 := QX_43.below hB_44; have QP_44 := QP_43.below hB_44; have QY_44 := QY_43.below hB_44; have QR_44 := QR_43.below hB_44; have RG_44 := RG_43.below hB_44; have RW_44 := RW_43.below hB_44; have hbel_44 := hbel_43.next hB_44; have hsz_44 := hB_44.size; clear X_43 cX_43_0 fX_43_0 cX_43_1 fX_43_1 cX_43_2 fX_43_2 Y_43 cY_43_0 fY_43_0 cY_43_1 fY_43_1 cY_43_2 fY_43_2 P_43 cP_43_0 cP_43_1 cP_43_2 R_43 cR_43_0 cR_43_1 cR_43_2 U_43 cU_43_0 cU_43_1 cU_43_2 V_43 cV_43_0 cV_43_1 cV_43_2 E_43 cE_43_0 cE_43_1 cE_43_2 G_43 cG_43_0 cG_43_1 cG_43_2 GOT_43 cGOT_43_0 cGOT_43_1 cGOT_43_2 cGOT_43_3 cGOT_43_4 cGOT_43_5 cGOT_43_6 cGOT_43_7 cGOT_43_8 cGOT_43_9 cGOT_43_10 cGOT_43_11 cGOT_43_12 cGOT_43_13 cGOT_43_14 cGOT_43_15 cGOT_43_16 cGOT_43_17 cGOT_43_18 cGOT_43_19 cGOT_43_20 cGOT_43_21 cGOT_43_22 cGOT_43_23 cGOT_43_24 cGOT_43_25 cGOT_43_26 cGOT_43_27 cGOT_43_28 cGOT_43_29 WANT_43 cWANT_43_0 cWANT_43_1 cWANT_43_2 cWANT_43_3 cWANT_43_4 cWANT_43_5 cWANT_43_6 cWANT_43_7 cWANT_43_8 cWANT_43_9 cWANT_43_10 cWANT_43_11 cWANT_43_12 cWANT_43_13 cWANT_43_14 cWANT_43_15 cWANT_43_16 cWANT_43_17 cWANT_43_18 cWANT_43_19 cWANT_43_20 cWANT_43_21 cWANT_43_22 cWANT_43_23 cWANT_43_24 cWANT_43_25 cWANT_43_26 cWANT_43_27 cWANT_43_28 cWANT_43_29 FL_43 cFL_43_0 cFL_43_1 hbM_43 QX_43 QP_43 QY_43 QR_43 RG_43 RW_43 hbel_43 hB_44; try clear hB)))
      | (go_at_call 30; ((with_reducible refine (qsign (QP_44.below (by first | exact Below.refl _ _ | exact (Below.refl _ _).drew | exact (Below.refl _ _).alloc (Nat.le_refl _) _)) (by omega)).mono ?_); (rw [hc3.out]; rintro e w45 ⟨rfl, hB⟩; have hBT : Below w44.heap.size w44 w45 := (by first | exact hB | exact below_drew hB | exact bel_alloc hB); have T_45 := hid (T_44.out.below hBT); have hbT_45 := hbT_44.next hBT; clear T_44 hbT_44 hBT; have hB_45 : Below w44.heap.size w44 w45 := (by first | exact hB | exact below_drew hB | exact bel_alloc hB); have X_45 := X_44.next hB_45; have cX_45_0 : _ = some (Value.bool s) := X_45.cell 0; have fX_45_0 := X_45.free 0; have cX_45_1 : _ = some (Value.slice a n1 c) := X_45.cell 1; have fX_45_1 := X_45.free 1; have cX_45_2 : _ = some (Value.slice b m1 d) := X_45.cell 2; have fX_45_2 := X_45.free 2; have Y_45 := Y_44.next hB_45; have cY_45_0 : _ = some (Value.bool t) := Y_45.cell 0; have fY_45_0 := Y_45.free 0; have cY_45_1 : _ = some (Value.slice a' n2 c') := Y_45.cell 1; have fY_45_1 := Y_45.free 1; have cY_45_2 : _ = some (Value.slice b' m2 d') := Y_45.cell 2; have fY_45_2 := Y_45.free 2; have P_45 := P_44.next hB_45; have cP_45_0 : _ = some (Value.bool s) := P_45.cell 0; have cP_45_1 : _ = some (Value.slice pa n1 pc) := P_45.cell 1; have cP_45_2 : _ = some (Value.slice pb m1 pd) := P_45.cell 2; have R_45 := R_44.next hB_45; have cR_45_0 : _ = some (Value.bool t) := R_45.cell 0; have cR_45_1 : _ = some (Value.slice ra n2 rc) := R_45.cell 1; have cR_45_2 : _ = some (Value.slice rb m2 rd) := R_45.cell 2; have U_45 := U_44.next hB_45; have cU_45_0 : _ = some (Value.bool (qsg en er)) := U_45.cell 0; have cU_45_1 : _ = some (Value.slice ua un uc) := U_45.cell 1; have cU_45_2 : _ = some (Value.slice ub um ud) := U_45.cell 2; have V_45 := V_44.next hB_45; have cV_45_0 : _ = some (Value.bool (qsg en er)) := V_45.cell 0; have cV_45_1 : _ = some (Value.slice va vn vc) := V_45.cell 1; have cV_45_2 : _ = some (Value.slice vb vm vd) := V_45.cell 2; have E_45 := E_44.next hB_45; have cE_45_0 : _ = some (Value.bool (qsg ed es)) := E_45.cell 0; have cE_45_1 : _ = some (Value.slice xa xn xc) := E_45.cell 1; have cE_45_2 : _ = some (Value.slice xb xm xd) := E_45.cell 2; have G_45 := G_44.next hB_45; have cG_45_0 : _ = some (Value.bool (qsg ed es)) := G_45.cell 0; have cG_45_1 : _ = some (Value.slice ya yn yc) := G_45.cell 1; have cG_45_2 : _ = some (Value.slice yb ym yd) := G_45.cell 2; have GOT_45 := GOT_44.next hB_45; have cGOT_45_0 : _ = some (Value.bool (qsg en er)) := GOT_45.cell 0; have cGOT_45_1 : _ = some (Value.slice ua un uc) := GOT_45.cell 1; have cGOT_45_2 : _ = some (Value.slice ub um ud) := GOT_45.cell 2; have cGOT_45_3 : _ = some (Value.bool (decide ((o1).num < 0))) := GOT_45.cell 3; have cGOT_45_4 : _ = some (Value.slice g1a g1n g1c) := GOT_45.cell 4; have cGOT_45_5 : _ = some (Value.slice g1b g1m g1d) := GOT_45.cell 5; have cGOT_45_6 : _ = some (Value.bool (decide ((o2).num < 0))) := GOT_45.cell 6; have cGOT_45_7 : _ = some (Value.slice g2a g2n g2c) := GOT_45.cell 7; have cGOT_45_8 : _ = some (Value.slice g2b g2m g2d) := GOT_45.cell 8; have cGOT_45_9 : _ = some (Value.bool (decide ((o3).num < 0))) := GOT_45.cell 9; have cGOT_45_10 : _ = some (Value.slice g3a g3n g3c) := GOT_45.cell 10; have cGOT_45_11 : _ = some (Value.slice g3b g3m g3d) := GOT_45.cell 11; have cGOT_45_12 : _ = some (Value.bool (decide ((o4).num < 0))) := GOT_45.cell 12; have cGOT_45_13 : _ = some (Value.slice g4a g4n g4c) := GOT_45.cell 13; have cGOT_45_14 : _ = some (Value.slice g4b g4m g4d) := GOT_45.cell 14; have cGOT_45_15 : _ = some (Value.bool (qsg ed es)) := GOT_45.cell 15; have cGOT_45_16 : _ = some (Value.slice xa xn xc) := GOT_45.cell 16; have cGOT_45_17 : _ = some (Value.slice xb xm xd) := GOT_45.cell 17; have cGOT_45_18 : _ = some (Value.bool (decide ((o5).num < 0))) := GOT_45.cell 18; have cGOT_45_19 : _ = some (Value.slice g5a g5n g5c) := GOT_45.cell 19; have cGOT_45_20 : _ = some (Value.slice g5b g5m g5d) := GOT_45.cell 20; have cGOT_45_21 : _ = some (Value.bool (decide ((o6).num < 0))) := GOT_45.cell 21; have cGOT_45_22 : _ = some (Value.slice g6a g6n g6c) := GOT_45.cell 22; have cGOT_45_23 : _ = some (Value.slice g6b g6m g6d) := GOT_45.cell 23; have cGOT_45_24 : _ = some (Value.bool (decide ((o7).num < 0))) := GOT_45.cell 24; have cGOT_45_25 : _ = some (Value.slice g7a g7n g7c) := GOT_45.cell 25; have cGOT_45_26 : _ = some (Value.slice g7b g7m g7d) := GOT_45.cell 26; have cGOT_45_27 : _ = some (Value.bool (decide ((o8).num < 0))) := GOT_45.cell 27; have cGOT_45_28 : _ = some (Value.slice g8a g8n g8c) := GOT_45.cell 28; have cGOT_45_29 : _ = some (Value.slice g8b g8m g8d) := GOT_45.cell 29; have WANT_45 := WANT_44.next hB_45; have cWANT_45_0 : _ = some (Value.bool (qsg en er)) := WANT_45.cell 0; have cWANT_45_1 : _ = some (Value.slice va vn vc) := WANT_45.cell 1; have cWANT_45_2 : _ = some (Value.slice vb vm vd) := WANT_45.cell 2; have cWANT_45_3 : _ = some (Value.bool (decide ((o1).num < 0))) := WANT_45.cell 3; have cWANT_45_4 : _ = some (Value.slice h1a h1n h1c) := WANT_45.cell 4; have cWANT_45_5 : _ = some (Value.slice h1b h1m h1d) := WANT_45.cell 5; have cWANT_45_6 : _ = some (Value.bool (decide ((o2).num < 0))) := WANT_45.cell 6; have cWANT_45_7 : _ = some (Value.slice h2a h2n h2c) := WANT_45.cell 7; have cWANT_45_8 : _ = some (Value.slice h2b h2m h2d) := WANT_45.cell 8; have cWANT_45_9 : _ = some (Value.bool (decide ((o3).num < 0))) := WANT_45.cell 9; have cWANT_45_10 : _ = some (Value.slice h3a h3n h3c) := WANT_45.cell 10; have cWANT_45_11 : _ = some (Value.slice h3b h3m h3d) := WANT_45.cell 11; have cWANT_45_12 : _ = some (Value.bool (decide ((o4).num < 0))) := WANT_45.cell 12; have cWANT_45_13 : _ = some (Value.slice h4a h4n h4c) := WANT_45.cell 13; have cWANT_45_14 : _ = some (Value.slice h4b h4m h4d) := WANT_45.cell 14; have cWANT_45_15 : _ = some (Value.bool (qsg ed es)) := WANT_45.cell 15; have cWANT_45_16 : _ = some (Value.slice ya yn yc) := WANT_45.cell 16; have cWANT_45_17 : _ = some (Value.slice yb ym yd) := WANT_45.cell 17; have cWANT_45_18 : _ = some (Value.bool (decide ((o5).num < 0))) := WANT_45.cell 18; have cWANT_45_19 : _ = some (Value.slice h5a h5n h5c) := WANT_45.cell 19; have cWANT_45_20 : _ = some (Value.slice h5b h5m h5d) := WANT_45.cell 20; have cWANT_45_21 : _ = some (Value.bool (decide ((o6).num < 0))) := WANT_45.cell 21; have cWANT_45_22 : _ = some (Value.slice h6a h6n h6c) := WANT_45.cell 22; have cWANT_45_23 : _ = some (Value.slice h6b h6m h6d) := WANT_45.cell 23; have cWANT_45_24 : _ = some (Value.bool (decide ((o7).num < 0))) := WANT_45.cell 24; have cWANT_45_25 : _ = some (Value.slice h7a h7n h7c) := WANT_45.cell 25; have cWANT_45_26 : _ = some (Value.slice h7b h7m h7d) := WANT_45.cell 26; have cWANT_45_27 : _ = some (Value.bool (decide ((o8).num < 0))) := WANT_45.cell 27; have cWANT_45_28 : _ = some (Value.slice h8a h8n h8c) := WANT_45.cell 28; have cWANT_45_29 : _ = some (Value.slice h8b h8m h8d) := WANT_45.cell 29; have FL_45 := FL_44.next hB_45; have cFL_45_0 : _ = some (Value.bool (decide (fx < 0))) := FL_45.cell 0; have cFL_45_1 : _ = some (Value.slice fa fn fc) := FL_45.cell 1; have hbM_45 := hbM_44.next hB_45; have QX_45 := QX_44.below hB_45; have QP_45 := QP_44.below hB_45; have QY_45 := QY_44.below hB_45; have QR_45 := QR_44.below hB_45; have RG_45 := RG_44.below hB_45; have RW_45 := RW_44.below hB_45; have hbel_45 := hbel_44.next hB_45; have hsz_45 := hB_45.size; clear X_44 cX_44_0 fX_44_0 cX_44_1 fX_44_1 cX_44_2 fX_44_2 Y_44 cY_44_0 fY_44_0 cY_44_1 fY_44_1 cY_44_2 fY_44_2 P_44 cP_44_0 cP_44_1 cP_44_2 R_44 cR_44_0 cR_44_1 cR_44_2 U_44 cU_44_0 cU_44_1 cU_44_2 V_44 cV_44_0 cV_44_1 cV_44_2 E_44 cE_44_0 cE_44_1 cE_44_2 G_44 cG_44_0 cG_44_1 cG_44_2 GOT_44 cGOT_44_0 cGOT_44_1 cGOT_44_2 cGOT_44_3 cGOT_44_4 cGOT_44_5 cGOT_44_6 cGOT_44_7 cGOT_44_8 cGOT_44_9 cGOT_44_10 cGOT_44_11 cGOT_44_12 cGOT_44_13 cGOT_44_14 cGOT_44_15 cGOT_44_16 cGOT_44_17 cGOT_44_18 cGOT_44_19 cGOT_44_20 cGOT_44_21 cGOT_44_22 cGOT_44_23 cGOT_44_24 cGOT_44_25 cGOT_44_26 cGOT_44_27 cGOT_44_28 cGOT_44_29 WANT_44 cWANT_44_0 cWANT_44_1 cWANT_44_2 cWANT_44_3 cWANT_44_4 cWANT_44_5 cWANT_44_6 cWANT_44_7 cWANT_44_8 cWANT_44_9 cWANT_44_10 cWANT_44_11 cWANT_44_12 cWANT_44_13 cWANT_44_14 cWANT_44_15 cWANT_44_16 cWANT_44_17 cWANT_44_18 cWANT_44_19 cWANT_44_20 cWANT_44_21 cWANT_44_22 cWANT_44_23 cWANT_44_24 cWANT_44_25 cWANT_44_26 cWANT_44_27 cWANT_44_28 cWANT_44_29 FL_44 cFL_44_0 cFL_44_1 hbM_44 QX_44 QP_44 QY_44 QR_44 RG_44 RW_44 hbel_44 hB_45; try clear hB)))
      | (go_at_call 31; ((with_reducible refine (rqsign (QX_45.below (by first | exact Below.refl _ _ | exact (Below.refl _ _).drew | exact (Below.refl _ _).alloc (Nat.le_refl _) _)) (by omega)).mono ?_); (rw [hc3.out]; rintro e w46 ⟨rfl, hB⟩; have hBT : Below w45.heap.size w45 w46 := (by first | exact hB | exact below_drew hB | exact bel_alloc hB); have T_46 := hid (T_45.out.below hBT); have hbT_46 := hbT_45.next hBT; clear T_45 hbT_45 hBT; have hB_46 : Below w45.heap.size w45 w46 := (by first | exact hB | exact below_drew hB | exact bel_alloc hB); have X_46 := X_45.next hB_46; have cX_46_0 : _ = some (Value.bool s) := X_46.cell 0; have fX_46_0 := X_46.free 0; have cX_46_1 : _ = some (Value.slice a n1 c) := X_46.cell 1; have fX_46_1 := X_46.free 1; have cX_46_2 : _ = some (Value.slice b m1 d) := X_46.cell 2; have fX_46_2 := X_46.free 2; have Y_46 := Y_45.next hB_46; have cY_46_0 : _ = some (Value.bool t) := Y_46.cell 0; have fY_46_0 := Y_46.free 0; have cY_46_1 : _ = some (Value.slice a' n2 c') := Y_46.cell 1; have fY_46_1 := Y_46.free 1; have cY_46_2 : _ = some (Value.slice b' m2 d') := Y_46.cell 2; have fY_46_2 := Y_46.free 2; have P_46 := P_45.next hB_46; have cP_46_0 : _ = some (Value.bool s) := P_46.cell 0; have cP_46_1 : _ = some (Value.slice pa n1 pc) := P_46.cell 1; have cP_46_2 : _ = some (Value.slice pb m1 pd) := P_46.cell 2; have R_46 := R_45.next hB_46; have cR_46_0 : _ = some (Value.bool t) := R_46.cell 0; have cR_46_1 : _ = some (Value.slice ra n2 rc) := R_46.cell 1; have cR_46_2 : _ = some (Value.slice rb m2 rd) := R_46.cell 2; have U_46 := U_45.next hB_46; have cU_46_0 : _ = some (Value.bool (qsg en er)) := U_46.cell 0; have cU_46_1 : _ = some (Value.slice ua un uc) := U_46.cell 1; have cU_46_2 : _ = some (Value.slice ub um ud) := U_46.cell 2; have V_46 := V_45.next hB_46; have cV_46_0 : _ = some (Value.bool (qsg en er)) := V_46.cell 0; have cV_46_1 : _ = some (Value.slice va vn vc) := V_46.cell 1; have cV_46_2 : _ = some (Value.slice vb vm vd) := V_46.cell 2; have E_46 := E_45.next hB_46; have cE_46_0 : _ = some (Value.bool (qsg ed es)) := E_46.cell 0; have cE_46_1 : _ = some (Value.slice xa xn xc) := E_46.cell 1; have cE_46_2 : _ = some (Value.slice xb xm xd) := E_46.cell 2; have G_46 := G_45.next hB_46; have cG_46_0 : _ = some (Value.bool (qsg ed es)) := G_46.cell 0; have cG_46_1 : _ = some (Value.slice ya yn yc) := G_46.cell 1; have cG_46_2 : _ = some (Value.slice yb ym yd) := G_46.cell 2; have GOT_46 := GOT_45.next hB_46; have cGOT_46_0 : _ = some (Value.bool (qsg en er)) := GOT_46.cell 0; have cGOT_46_1 : _ = some (Value.slice ua un uc) := GOT_46.cell 1; have cGOT_46_2 : _ = some (Value.slice ub um ud) := GOT_46.cell 2; have cGOT_46_3 : _ = some (Value.bool (decide ((o1).num < 0))) := GOT_46.cell 3; have cGOT_46_4 : _ = some (Value.slice g1a g1n g1c) := GOT_46.cell 4; have cGOT_46_5 : _ = some (Value.slice g1b g1m g1d) := GOT_46.cell 5; have cGOT_46_6 : _ = some (Value.bool (decide ((o2).num < 0))) := GOT_46.cell 6; have cGOT_46_7 : _ = some (Value.slice g2a g2n g2c) := GOT_46.cell 7; have cGOT_46_8 : _ = some (Value.slice g2b g2m g2d) := GOT_46.cell 8; have cGOT_46_9 : _ = some (Value.bool (decide ((o3).num < 0))) := GOT_46.cell 9; have cGOT_46_10 : _ = some (Value.slice g3a g3n g3c) := GOT_46.cell 10; have cGOT_46_11 : _ = some (Value.slice g3b g3m g3d) := GOT_46.cell 11; have cGOT_46_12 : _ = some (Value.bool (decide ((o4).num < 0))) := GOT_46.cell 12; have cGOT_46_13 : _ = some (Value.slice g4a g4n g4c) := GOT_46.cell 13; have cGOT_46_14 : _ = some (Value.slice g4b g4m g4d) := GOT_46.cell 14; have cGOT_46_15 : _ = some (Value.bool (qsg ed es)) := GOT_46.cell 15; have cGOT_46_16 : _ = some (Value.slice xa xn xc) := GOT_46.cell 16; have cGOT_46_17 : _ = some (Value.slice xb xm xd) := GOT_46.cell 17; have cGOT_46_18 : _ = some (Value.bool (decide ((o5).num < 0))) := GOT_46.cell 18; have cGOT_46_19 : _ = some (Value.slice g5a g5n g5c) := GOT_46.cell 19; have cGOT_46_20 : _ = some (Value.slice g5b g5m g5d) := GOT_46.cell 20; have cGOT_46_21 : _ = some (Value.bool (decide ((o6).num < 0))) := GOT_46.cell 21; have cGOT_46_22 : _ = some (Value.slice g6a g6n g6c) := GOT_46.cell 22; have cGOT_46_23 : _ = some (Value.slice g6b g6m g6d) := GOT_46.cell 23; have cGOT_46_24 : _ = some (Value.bool (decide ((o7).num < 0))) := GOT_46.cell 24; have cGOT_46_25 : _ = some (Value.slice g7a g7n g7c) := GOT_46.cell 25; have cGOT_46_26 : _ = some (Value.slice g7b g7m g7d) := GOT_46.cell 26; have cGOT_46_27 : _ = some (Value.bool (decide ((o8).num < 0))) := GOT_46.cell 27; have cGOT_46_28 : _ = some (Value.slice g8a g8n g8c) := GOT_46.cell 28; have cGOT_46_29 : _ = some (Value.slice g8b g8m g8d) := GOT_46.cell 29; have WANT_46 := WANT_45.next hB_46; have cWANT_46_0 : _ = some (Value.bool (qsg en er)) := WANT_46.cell 0; have cWANT_46_1 : _ = some (Value.slice va vn vc) := WANT_46.cell 1; have cWANT_46_2 : _ = some (Value.slice vb vm vd) := WANT_46.cell 2; have cWANT_46_3 : _ = some (Value.bool (decide ((o1).num < 0))) := WANT_46.cell 3; have cWANT_46_4 : _ = some (Value.slice h1a h1n h1c) := WANT_46.cell 4; have cWANT_46_5 : _ = some (Value.slice h1b h1m h1d) := WANT_46.cell 5; have cWANT_46_6 : _ = some (Value.bool (decide ((o2).num < 0))) := WANT_46.cell 6; have cWANT_46_7 : _ = some (Value.slice h2a h2n h2c) := WANT_46.cell 7; have cWANT_46_8 : _ = some (Value.slice h2b h2m h2d) := WANT_46.cell 8; have cWANT_46_9 : _ = some (Value.bool (decide ((o3).num < 0))) := WANT_46.cell 9; have cWANT_46_10 : _ = some (Value.slice h3a h3n h3c) := WANT_46.cell 10; have cWANT_46_11 : _ = some (Value.slice h3b h3m h3d) := WANT_46.cell 11; have cWANT_46_12 : _ = some (Value.bool (decide ((o4).num < 0))) := WANT_46.cell 12; have cWANT_46_13 : _ = some (Value.slice h4a h4n h4c) := WANT_46.cell 13; have cWANT_46_14 : _ = some (Value.slice h4b h4m h4d) := WANT_46.cell 14; have cWANT_46_15 : _ = some (Value.bool (qsg ed es)) := WANT_46.cell 15; have cWANT_46_16 : _ = some (Value.slice ya yn yc) := WANT_46.cell 16; have cWANT_46_17 : _ = some (Value.slice yb ym yd) := WANT_46.cell 17; have cWANT_46_18 : _ = some (Value.bool (decide ((o5).num < 0))) := WANT_46.cell 18; have cWANT_46_19 : _ = some (Value.slice h5a h5n h5c) := WANT_46.cell 19; have cWANT_46_20 : _ = some (Value.slice h5b h5m h5d) := WANT_46.cell 20; have cWANT_46_21 : _ = some (Value.bool (decide ((o6).num < 0))) := WANT_46.cell 21; have cWANT_46_22 : _ = some (Value.slice h6a h6n h6c) := WANT_46.cell 22; have cWANT_46_23 : _ = some (Value.slice h6b h6m h6d) := WANT_46.cell 23; have cWANT_46_24 : _ = some (Value.bool (decide ((o7).num < 0))) := WANT_46.cell 24; have cWANT_46_25 : _ = some (Value.slice h7a h7n h7c) := WANT_46.cell 25; have cWANT_46_26 : _ = some (Value.slice h7b h7m h7d) := WANT_46.cell 26; have cWANT_46_27 : _ = some (Value.bool (decide ((o8).num < 0))) := WANT_46.cell 27; have cWANT_46_28 : _ = some (Value.slice h8a h8n h8c) := WANT_46.cell 28; have cWANT_46_29 : _ = some (Value.slice h8b h8m h8d) := WANT_46.cell 29; have FL_46 := FL_45.next hB_46; have cFL_46_0 : _ = some (Value.bool (decide (fx < 0))) := FL_46.cell 0; have cFL_46_1 : _ = some (Value.slice fa fn fc) := FL_46.cell 1; have hbM_46 := hbM_45.next hB_46; have QX_46 := QX_45.below hB_46; have QP_46 := QP_45.below hB_46; have QY_46 := QY_45.below hB_46; have QR_46 := QR_45.below hB_46; have RG_46 := RG_45.below hB_46; have RW_46 := RW_45.below hB_46; have hbel_46 := hbel_45.next hB_46; have hsz_46 := hB_46.size; clear X_45 cX_45_0 fX_45_0 cX_45_1 fX_45_1 cX_45_2 fX_45_2 Y_45 cY_45_0 fY_45_0 cY_45_1 fY_45_1 cY_45_2 fY_45_2 P_45 cP_45_0 cP_45_1 cP_45_2 R_45 cR_45_0 cR_45_1 cR_45_2 U_45 cU_45_0 cU_45_1 cU_45_2 V_45 cV_45_0 cV_45_1 cV_45_2 E_45 cE_45_0 cE_45_1 cE_45_2 G_45 cG_45_0 cG_45_1 cG_45_2 GOT_45 cGOT_45_0 cGOT_45_1 cGOT_45_2 cGOT_45_3 cGOT_45_4 cGOT_45_5 cGOT_45_6 cGOT_45_7 cGOT_45_8 cGOT_45_9 cGOT_45_10 cGOT_45_11 cGOT_45_12 cGOT_45_13 cGOT_45_14 cGOT_45_15 cGOT_45_16 cGOT_45_17 cGOT_45_18 cGOT_45_19 cGOT_45_20 cGOT_45_21 cGOT_45_22 cGOT_45_23 cGOT_45_24 cGOT_45_25 cGOT_45_26 cGOT_45_27 cGOT_45_28 cGOT_45_29 WANT_45 cWANT_45_0 cWANT_45_1 cWANT_45_2 cWANT_45_3 cWANT_45_4 cWANT_45_5 cWANT_45_6 cWANT_45_7 cWANT_45_8 cWANT_45_9 cWANT_45_10 cWANT_45_11 cWANT_45_12 cWANT_45_13 cWANT_45_14 cWANT_45_15 cWANT_45_16 cWANT_45_17 cWANT_45_18 cWANT_45_19 cWANT_45_20 cWANT_45_21 cWANT_45_22 cWANT_45_23 cWANT_45_24 cWANT_45_25 cWANT_45_26 cWANT_45_27 cWANT_45_28 cWANT_45_29 FL_45 cFL_45_0 cFL_45_1 hbM_45 QX_45 QP_45 QY_45 QR_45 RG_45 RW_45 hbel_45 hB_46; try clear hB))))
  obtain ⟨TL, hTL⟩ : ∃ l : List It, l = [⟨fa, fn, fc, lm fx.natAbs⟩, ⟨g8b, g8m, g8d, lm o8.den⟩, ⟨g8a, g8n, g8c, lm o8.num.natAbs⟩, ⟨g7b, g7m, g7d, lm o7.den⟩, ⟨g7a, g7n, g7c, lm o7.num.natAbs⟩, ⟨g6b, g6m, g6d, lm o6.den⟩, ⟨g6a, g6n, g6c, lm o6.num.natAbs⟩, ⟨g5b, g5m, g5d, lm o5.den⟩, ⟨g5a, g5n, g5c, lm o5.num.natAbs⟩, ⟨g4b, g4m, g4d, lm o4.den⟩, ⟨g4a, g4n, g4c, lm o4.num.natAbs⟩, ⟨g3b, g3m, g3d, lm o3.den⟩, ⟨g3a, g3n, g3c, lm o3.num.natAbs⟩, ⟨g2b, g2m, g2d, lm o2.den⟩, ⟨g2a, g2n, g2c, lm o2.num.natAbs⟩, ⟨g1b, g1m, g1d, lm o1.den⟩, ⟨g1a, g1n, g1c, lm o1.num.natAbs⟩, ⟨xb, xm, xd, qdl ed es⟩, ⟨xa, xn, xc, qnl ed es⟩, ⟨ub, um, ud, qdl en er⟩, ⟨ua, un, uc, qnl en er⟩] := ⟨_, rfl⟩
  have HT := hid (show Told2 vM.heap.size w46 TL from hTL ▸ T_46.out)
  have hm : ∀ i, i < 21 → ([0, 20, 19, 16, 15, 14, 13, 12, 11, 10, 9, 18, 17, 8, 7, 6, 5, 4, 3, 2, 1] : List Nat).getD i 0 < TL.length := by rw [hTL]; show ∀ i, i < 21 → ([0, 20, 19, 16, 15, 14, 13, 12, 11, 10, 9, 18, 17, 8, 7, 6, 5, 4, 3, 2, 1] : List Nat).getD i 0 < 21; decide
  have hm2 : ∀ i ∈ ([0, 20, 19, 16, 15, 14, 13, 12, 11, 10, 9, 18, 17, 8, 7, 6, 5, 4, 3, 2, 1] : List Nat), i < TL.length := by rw [hTL]; show ∀ i ∈ ([0, 20, 19, 16, 15, 14, 13, 12, 11, 10, 9, 18, 17, 8, 7, 6, 5, 4, 3, 2, 1] : List Nat), i < 21; decide
  obtain ⟨G, hG⟩ : ∃ G : Nat → It, G = fun i => TL.getD (([0, 20, 19, 16, 15, 14, 13, 12, 11, 10, 9, 18, 17, 8, 7, 6, 5, 4, 3, 2, 1] : List Nat).getD i 0) It.d := ⟨_, rfl⟩
  have HGot := hid (show ∀ (W : World) (gb : Nat), Below w46.heap.size w46 W → (∀ i, i < 21 → W.cell? ⟨gb, i, none⟩ = some (.slice (G i).a (G i).n (G i).c)) → w46.heap.size ≤ gb → Got W gb 21 (fun i => (G i).a) (fun i => (G i).n) (fun i => (G i).c) (fun i => (G i).l) from by
    subst hG; intro W gb hB hc hgb; exact got_told ([0, 20, 19, 16, 15, 14, 13, 12, 11, 10, 9, 18, 17, 8, 7, 6, 5, 4, 3, 2, 1] : List Nat) rfl HT.out.1 (by decide) hm2 hB hc hgb)
  have HLow := hid (show ∀ i, i < 21 → ∀ g, (G i).a = some ⟨g, 0, none⟩ → vM.heap.size ≤ g from by
    subst hG; intro i hi g e; exact (HT.out.1.lt (getD_mem (hm i hi)) e).1)
  have HN := hid (show ∀ i, i < 21 → (G i).n ≤ 268435456 from by
    subst hG; intro i hi; exact HT.out.2 _ (getD_mem (hm i hi)))
  have HCC := hid (show ∀ W : World, Below w46.heap.size w46 W → ∀ k, k < 10 → W.cell? ⟨w25.heap.size, k * 3 + 1, none⟩ = some (.slice (G (2 * k + 1)).a (G (2 * k + 1)).n (G (2 * k + 1)).c) ∧ W.cell? ⟨w25.heap.size, k * 3 + 2, none⟩ = some (.slice (G (2 * k + 2)).a (G (2 * k + 2)).n (G (2 * k + 2)).c) from by
    subst hG hTL; intro W hB k hk; have hb := GOT_46.next hB
    rcases (by omega : k = 0 ∨ k = 1 ∨ k = 2 ∨ k = 3 ∨ k = 4 ∨ k = 5 ∨ k = 6 ∨ k = 7 ∨ k = 8 ∨ k = 9) with rfl | rfl | rfl | rfl | rfl | rfl | rfl | rfl | rfl | rfl
    · exact ⟨hb.cell 1, hb.cell 2⟩
    · exact ⟨hb.cell 4, hb.cell 5⟩
    · exact ⟨hb.cell 7, hb.cell 8⟩
    · exact ⟨hb.cell 10, hb.cell 11⟩
    · exact ⟨hb.cell 13, hb.cell 14⟩
    · exact ⟨hb.cell 16, hb.cell 17⟩
    · exact ⟨hb.cell 19, hb.cell 20⟩
    · exact ⟨hb.cell 22, hb.cell 23⟩
    · exact ⟨hb.cell 25, hb.cell 26⟩
    · exact ⟨hb.cell 28, hb.cell 29⟩)
  have h0 := hid (show (List.range (2 * 0 + 1)).map (fun j => Value.slice (G j).a (G j).n (G j).c) = [.slice fa fn fc] from by subst hG hTL; rfl)
  clear hG hTL hm hm2 HT
  have hM0 := hid hbM_46
  have hbL_46 : Below w46.heap.size w46 w46 := Below.refl _ _
  have hrow := World.ownsRow_lit (base := w46.heap.size) (e := 23) (size := 1) w46 #[Value.slice fa fn fc] 1 (Nat.le_refl _) (by simp [maxLen]) rfl
  have hbx := blk_new w46 #[Value.slice fa fn fc] 23
  have hbB := (Below.refl w46.heap.size w46).alloc (Nat.le_refl _) (.cells #[Value.slice fa fn fc] 23)
  have hltROW := hbx.lt
  have hBT : Below w46.heap.size w46 (w46.alloc (.cells #[Value.slice fa fn fc] 23)) := hbB
  have T_47 := hid (T_46.out.below hBT)
  have hbT_47 := hbT_46.next hBT
  clear T_46 hbT_46 hBT
  have hB_47 : Below w46.heap.size w46 (w46.alloc (.cells #[Value.slice fa fn fc] 23)) := hbB
  have X_47 := X_46.next hB_47
  have cX_47_0 : _ = some (Value.bool s) := X_47.cell 0
  have fX_47_0 := X_47.free 0
  have cX_47_1 : _ = some (Value.slice a n1 c) := X_47.cell 1
  have fX_47_1 := X_47.free 1
  have cX_47_2 : _ = some (Value.slice b m1 d) := X_47.cell 2
  have fX_47_2 := X_47.free 2
  have Y_47 := Y_46.next hB_47
  have cY_47_0 : _ = some (Value.bool t) := Y_47.cell 0
  have fY_47_0 := Y_47.free 0
  have cY_47_1 : _ = some (Value.slice a' n2 c') := Y_47.cell 1
  have fY_47_1 := Y_47.free 1
  have cY_47_2 : _ = some (Value.slice b' m2 d') := Y_47.cell 2
  have fY_47_2 := Y_47.free 2
  have P_47 := P_46.next hB_47
  have cP_47_0 : _ = some (Value.bool s) := P_47.cell 0
  have cP_47_1 : _ = some (Value.slice pa n1 pc) := P_47.cell 1
  have cP_47_2 : _ = some (Value.slice pb m1 pd) := P_47.cell 2
  have R_47 := R_46.next hB_47
  have cR_47_0 : _ = some (Value.bool t) := R_47.cell 0
  have cR_47_1 : _ = some (Value.slice ra n2 rc) := R_47.cell 1
  have cR_47_2 : _ = some (Value.slice rb m2 rd) := R_47.cell 2
  have U_47 := U_46.next hB_47
  have cU_47_0 : _ = some (Value.bool (qsg en er)) := U_47.cell 0
  have cU_47_1 : _ = some (Value.slice ua un uc) := U_47.cell 1
  have cU_47_2 : _ = some (Value.slice ub um ud) := U_47.cell 2
  have V_47 := V_46.next hB_47
  have cV_47_0 : _ = some (Value.bool (qsg en er)) := V_47.cell 0
  have cV_47_1 : _ = some (Value.slice va vn vc) := V_47.cell 1
  have cV_47_2 : _ = some (Value.slice vb vm vd) := V_47.cell 2
  have E_47 := E_46.next hB_47
  have cE_47_0 : _ = some (Value.bool (qsg ed es)) := E_47.cell 0
  have cE_47_1 : _ = some (Value.slice xa xn xc) := E_47.cell 1
  have cE_47_2 : _ = some (Value.slice xb xm xd) := E_47.cell 2
  have G_47 := G_46.next hB_47
  have cG_47_0 : _ = some (Value.bool (qsg ed es)) := G_47.cell 0
  have cG_47_1 : _ = some (Value.slice ya yn yc) := G_47.cell 1
  have cG_47_2 : _ = some (Value.slice yb ym yd) := G_47.cell 2
  have GOT_47 := GOT_46.next hB_47
  have cGOT_47_0 : _ = some (Value.bool (qsg en er)) := GOT_47.cell 0
  have cGOT_47_1 : _ = some (Value.slice ua un uc) := GOT_47.cell 1
  have cGOT_47_2 : _ = some (Value.slice ub um ud) := GOT_47.cell 2
  have cGOT_47_3 : _ = some (Value.bool (decide ((o1).num < 0))) := GOT_47.cell 3
  have cGOT_47_4 : _ = some (Value.slice g1a g1n g1c) := GOT_47.cell 4
  have cGOT_47_5 : _ = some (Value.slice g1b g1m g1d) := GOT_47.cell 5
  have cGOT_47_6 : _ = some (Value.bool (decide ((o2).num < 0))) := GOT_47.cell 6
  have cGOT_47_7 : _ = some (Value.slice g2a g2n g2c) := GOT_47.cell 7
  have cGOT_47_8 : _ = some (Value.slice g2b g2m g2d) := GOT_47.cell 8
  have cGOT_47_9 : _ = some (Value.bool (decide ((o3).num < 0))) := GOT_47.cell 9
  have cGOT_47_10 : _ = some (Value.slice g3a g3n g3c) := GOT_47.cell 10
  have cGOT_47_11 : _ = some (Value.slice g3b g3m g3d) := GOT_47.cell 11
  have cGOT_47_12 : _ = some (Value.bool (decide ((o4).num < 0))) := GOT_47.cell 12
  have cGOT_47_13 : _ = some (Value.slice g4a g4n g4c) := GOT_47.cell 13
  have cGOT_47_14 : _ = some (Value.slice g4b g4m g4d) := GOT_47.cell 14
  have cGOT_47_15 : _ = some (Value.bool (qsg ed es)) := GOT_47.cell 15
  have cGOT_47_16 : _ = some (Value.slice xa xn xc) := GOT_47.cell 16
  have cGOT_47_17 : _ = some (Value.slice xb xm xd) := GOT_47.cell 17
  have cGOT_47_18 : _ = some (Value.bool (decide ((o5).num < 0))) := GOT_47.cell 18
  have cGOT_47_19 : _ = some (Value.slice g5a g5n g5c) := GOT_47.cell 19
  have cGOT_47_20 : _ = some (Value.slice g5b g5m g5d) := GOT_47.cell 20
  have cGOT_47_21 : _ = some (Value.bool (decide ((o6).num < 0))) := GOT_47.cell 21
  have cGOT_47_22 : _ = some (Value.slice g6a g6n g6c) := GOT_47.cell 22
  have cGOT_47_23 : _ = some (Value.slice g6b g6m g6d) := GOT_47.cell 23
  have cGOT_47_24 : _ = some (Value.bool (decide ((o7).num < 0))) := GOT_47.cell 24
  have cGOT_47_25 : _ = some (Value.slice g7a g7n g7c) := GOT_47.cell 25
  have cGOT_47_26 : _ = some (Value.slice g7b g7m g7d) := GOT_47.cell 26
  have cGOT_47_27 : _ = some (Value.bool (decide ((o8).num < 0))) := GOT_47.cell 27
  have cGOT_47_28 : _ = some (Value.slice g8a g8n g8c) := GOT_47.cell 28
  have cGOT_47_29 : _ = some (Value.slice g8b g8m g8d) := GOT_47.cell 29
  have WANT_47 := WANT_46.next hB_47
  have cWANT_47_0 : _ = some (Value.bool (qsg en er)) := WANT_47.cell 0
  have cWANT_47_1 : _ = some (Value.slice va vn vc) := WANT_47.cell 1
  have cWANT_47_2 : _ = some (Value.slice vb vm vd) := WANT_47.cell 2
  have cWANT_47_3 : _ = some (Value.bool (decide ((o1).num < 0))) := WANT_47.cell 3
  have cWANT_47_4 : _ = some (Value.slice h1a h1n h1c) := WANT_47.cell 4
  have cWANT_47_5 : _ = some (Value.slice h1b h1m h1d) := WANT_47.cell 5
  have cWANT_47_6 : _ = some (Value.bool (decide ((o2).num < 0))) := WANT_47.cell 6
  have cWANT_47_7 : _ = some (Value.slice h2a h2n h2c) := WANT_47.cell 7
  have cWANT_47_8 : _ = some (Value.slice h2b h2m h2d) := WANT_47.cell 8
  have cWANT_47_9 : _ = some (Value.bool (decide ((o3).num < 0))) := WANT_47.cell 9
  have cWANT_47_10 : _ = some (Value.slice h3a h3n h3c) := WANT_47.cell 10
  have cWANT_47_11 : _ = some (Value.slice h3b h3m h3d) := WANT_47.cell 11
  have cWANT_47_12 : _ = some (Value.bool (decide ((o4).num < 0))) := WANT_47.cell 12
  have cWANT_47_13 : _ = some (Value.slice h4a h4n h4c) := WANT_47.cell 13
  have cWANT_47_14 : _ = some (Value.slice h4b h4m h4d) := WANT_47.cell 14
  have cWANT_47_15 : _ = some (Value.bool (qsg ed es)) := WANT_47.cell 15
  have cWANT_47_16 : _ = some (Value.slice ya yn yc) := WANT_47.cell 16
  have cWANT_47_17 : _ = some (Value.slice yb ym yd) := WANT_47.cell 17
  have cWANT_47_18 : _ = some (Value.bool (decide ((o5).num < 0))) := WANT_47.cell 18
  have cWANT_47_19 : _ = some (Value.slice h5a h5n h5c) := WANT_47.cell 19
  have cWANT_47_20 : _ = some (Value.slice h5b h5m h5d) := WANT_47.cell 20
  have cWANT_47_21 : _ = some (Value.bool (decide ((o6).num < 0))) := WANT_47.cell 21
  have cWANT_47_22 : _ = some (Value.slice h6a h6n h6c) := WANT_47.cell 22
  have cWANT_47_23 : _ = some (Value.slice h6b h6m h6d) := WANT_47.cell 23
  have cWANT_47_24 : _ = some (Value.bool (decide ((o7).num < 0))) := WANT_47.cell 24
  have cWANT_47_25 : _ = some (Value.slice h7a h7n h7c) := WANT_47.cell 25
  have cWANT_47_26 : _ = some (Value.slice h7b h7m h7d) := WANT_47.cell 26
  have cWANT_47_27 : _ = some (Value.bool (decide ((o8).num < 0))) := WANT_47.cell 27
  have cWANT_47_28 : _ = some (Value.slice h8a h8n h8c) := WANT_47.cell 28
  have cWANT_47_29 : _ = some (Value.slice h8b h8m h8d) := WANT_47.cell 29
  have FL_47 := FL_46.next hB_47
  have cFL_47_0 : _ = some (Value.bool (decide (fx < 0))) := FL_47.cell 0
  have cFL_47_1 : _ = some (Value.slice fa fn fc) := FL_47.cell 1
  have hbM_47 := hbM_46.next hB_47
  have QX_47 := QX_46.below hB_47
  have QP_47 := QP_46.below hB_47
  have QY_47 := QY_46.below hB_47
  have QR_47 := QR_46.below hB_47
  have RG_47 := RG_46.below hB_47
  have RW_47 := RW_46.below hB_47
  have hbL_47 := hbL_46.next hB_47
  have hbel_47 := hbel_46.next hB_47
  have hsz_47 := hB_47.size
  clear hB_47
  have ROW_47 := hbx
  clear hbx hbB
  have cROW_47_0 : _ = some (Value.slice fa fn fc) := ROW_47.cell 0
  go_wp2_with fail
  clear X_46 cX_46_0 fX_46_0 cX_46_1 fX_46_1 cX_46_2 fX_46_2 Y_46 cY_46_0 fY_46_0 cY_46_1 fY_46_1 cY_46_2 fY_46_2 P_46 cP_46_0 cP_46_1 cP_46_2 R_46 cR_46_0 cR_46_1 cR_46_2 U_46 cU_46_0 cU_46_1 cU_46_2 V_46 cV_46_0 cV_46_1 cV_46_2 E_46 cE_46_0 cE_46_1 cE_46_2 G_46 cG_46_0 cG_46_1 cG_46_2 GOT_46 cGOT_46_0 cGOT_46_1 cGOT_46_2 cGOT_46_3 cGOT_46_4 cGOT_46_5 cGOT_46_6 cGOT_46_7 cGOT_46_8 cGOT_46_9 cGOT_46_10 cGOT_46_11 cGOT_46_12 cGOT_46_13 cGOT_46_14 cGOT_46_15 cGOT_46_16 cGOT_46_17 cGOT_46_18 cGOT_46_19 cGOT_46_20 cGOT_46_21 cGOT_46_22 cGOT_46_23 cGOT_46_24 cGOT_46_25 cGOT_46_26 cGOT_46_27 cGOT_46_28 cGOT_46_29 WANT_46 cWANT_46_0 cWANT_46_1 cWANT_46_2 cWANT_46_3 cWANT_46_4 cWANT_46_5 cWANT_46_6 cWANT_46_7 cWANT_46_8 cWANT_46_9 cWANT_46_10 cWANT_46_11 cWANT_46_12 cWANT_46_13 cWANT_46_14 cWANT_46_15 cWANT_46_16 cWANT_46_17 cWANT_46_18 cWANT_46_19 cWANT_46_20 cWANT_46_21 cWANT_46_22 cWANT_46_23 cWANT_46_24 cWANT_46_25 cWANT_46_26 cWANT_46_27 cWANT_46_28 cWANT_46_29 FL_46 cFL_46_0 cFL_46_1 hbM_46 QX_46 QP_46 QY_46 QR_46 RG_46 RW_46 hbL_46 hbel_46
  generalize (w46.alloc (.cells #[Value.slice fa fn fc] 23)) = v47 at *
  have hL := hbL_47
  clear X_47 Y_47 P_47 R_47 U_47 V_47 E_47 G_47 GOT_47 WANT_47 FL_47 ROW_47 cX_47_0 fX_47_0 cX_47_1 fX_47_1 cX_47_2 fX_47_2 cY_47_0 fY_47_0 cY_47_1 fY_47_1 cY_47_2 fY_47_2 cP_47_0 cP_47_1 cP_47_2 cR_47_0 cR_47_1 cR_47_2 cU_47_0 cU_47_1 cU_47_2 cV_47_0 cV_47_1 cV_47_2 cE_47_0 cE_47_1 cE_47_2 cG_47_0 cG_47_1 cG_47_2 cGOT_47_0 cGOT_47_1 cGOT_47_2 cGOT_47_3 cGOT_47_4 cGOT_47_5 cGOT_47_6 cGOT_47_7 cGOT_47_8 cGOT_47_9 cGOT_47_10 cGOT_47_11 cGOT_47_12 cGOT_47_13 cGOT_47_14 cGOT_47_15 cGOT_47_16 cGOT_47_17 cGOT_47_18 cGOT_47_19 cGOT_47_20 cGOT_47_21 cGOT_47_22 cGOT_47_23 cGOT_47_24 cGOT_47_25 cGOT_47_26 cGOT_47_27 cGOT_47_28 cGOT_47_29 cWANT_47_0 cWANT_47_1 cWANT_47_2 cWANT_47_3 cWANT_47_4 cWANT_47_5 cWANT_47_6 cWANT_47_7 cWANT_47_8 cWANT_47_9 cWANT_47_10 cWANT_47_11 cWANT_47_12 cWANT_47_13 cWANT_47_14 cWANT_47_15 cWANT_47_16 cWANT_47_17 cWANT_47_18 cWANT_47_19 cWANT_47_20 cWANT_47_21 cWANT_47_22 cWANT_47_23 cWANT_47_24 cWANT_47_25 cWANT_47_26 cWANT_47_27 cWANT_47_28 cWANT_47_29 cFL_47_0 cFL_47_1 cROW_47_0 hbM_47 QX_47 QP_47 QY_47 QR_47 RG_47 RW_47 hbL_47 hbel_47 T_47 hbT_47
  go_loopw [20, 21] (fun v i wr => ∃ (k lc : Nat) (la : Option Addr), k ≤ 10 ∧ v = .slice la (2 * k + 1) lc ∧ i = .int .i64 k ∧ wr.ownsRow w46.heap.size 23 1 (.slice la (2 * k + 1) lc) (2 * k + 1) ((List.range (2 * k + 1)).map fun j => Value.slice (G j).a (G j).n (G j).c) ∧ Below w46.heap.size w46 wr) (fun _ i _ => 10 - (intOf i).toNat)
  case atStart => exact ⟨0, 1, some ⟨w46.heap.size, 0, none⟩, by omega, rfl, rfl, by rw [h0.out]; exact hrow, hL⟩
  case round =>
    clear hrow hL h0
    obtain ⟨k, lc, la, hk, rfl, rfl, hrow, hB⟩ := hrel
    have hsz := hB.size
    by_cases hlt : k < 10
    · obtain ⟨c1, c2⟩ := HCC.out wr hB k hlt
      have e2 := hid (odd_range (f := fun j => Value.slice (G j).a (G j).n (G j).c) k)
      have hR := hid (fun (W : World) (h : Below wr.heap.size wr W) => ownsRow_block hrow (w' := W) (fun g' e => h.block g' (by rcases ownsRow_cases hrow with ⟨h1, _⟩ | ⟨g2, h1, _, h2⟩ <;> rw [h1] at e <;> cases e; exact h2)))
      have hla := hid (fun j (hj : j < w46.heap.size) (e : la = some ⟨j, 0, none⟩) => (by
        rcases ownsRow_cases hrow with ⟨h1, _⟩ | ⟨g2, h1, h2, _⟩
        · rw [h1] at e; cases e
        · rw [h1] at e; cases e; omega : False))
      clear hrow
      go_wp2_with fail
      go_region_held3 (fun w' => w'.cell? ⟨w25.heap.size, k * 3 + 1, none⟩ = some (.slice (G (2 * k + 1)).a (G (2 * k + 1)).n (G (2 * k + 1)).c) ∧ w'.cell? ⟨w25.heap.size, k * 3 + 2, none⟩ = some (.slice (G (2 * k + 2)).a (G (2 * k + 2)).n (G (2 * k + 2)).c))
        (first | exact ⟨c1, c2⟩ | exact ⟨d1, d2⟩ | go_keep)
        ((rw [if_pos (by rfl)]; refine wp_appS2 (u := .slice (G (2 * k + 1)).a (G (2 * k + 1)).n (G (2 * k + 1)).c) (v := .slice (G (2 * k + 2)).a (G (2 * k + 2)).n (G (2 * k + 2)).c) _ _ rfl rfl (hR.out _ ((Below.refl _ wr).alloc (Nat.le_refl _) _).drew) _ _ rfl rfl rfl (by go_simp) (by go_simp) (by show w46.heap.size ≤ (wr.alloc _).heap.size; simp; omega) (by omega) ?_; intro a2 ca w2 hO2 hK2; have hB2 : Below w46.heap.size w46 w2 := ((hB.alloc hsz _).drew).kp hK2 (by show w46.heap.size ≤ (wr.alloc _).heap.size; simp; omega) hla.out; have d12 := HCC.out w2 hB2 k hlt; have d1 := d12.1; have d2 := d12.2))
      rw [← e2.out] at hO2
      go_wp2
      exact ⟨⟨k + 1, ca, a2, by omega, rfl, by go_num, hO2, hB2⟩, by simp [intOf]; omega⟩
    · obtain rfl : k = 10 := by omega
      obtain ⟨ga, rfl, hga, hgl⟩ : ∃ g, la = some ⟨g, 0, none⟩ ∧ w46.heap.size ≤ g ∧ g < wr.heap.size := by
        rcases ownsRow_cases hrow with ⟨_, h, _⟩ | ⟨g, h, h2, h3⟩
        · omega
        · exact ⟨g, h, h2, h3⟩
      have hbn := ownsRow_bnd hrow
      have hGot := hid (HGot.out wr ga hB (fun i hi => by rw [hrow.cellAt i (by omega)]; simp [hi]) hga)
      have hM1 := hid (hM0.out.next hB)
      obtain ⟨hb1, hb2, _⟩ := hbn
      clear hB hrow
      go_wp2_with fail
      refine (own_all (K := 21) (by omega) (by omega) hb2 hGot.out HN.out).mono ?_
      rintro e wo ⟨rfl, hK⟩
      have hM := hM1.out.kp hK hM1.out.size fun j hj ⟨i, hi, e⟩ => by have := HLow.out i hi j e; omega
      clear hK
      have X_48 := mX.out.next hM
      have Y_48 := mY.out.next hM
      have P_48 := mP.out.next hM
      have R_48 := mR.out.next hM
      have A_48 := mA.out.below hM
      have B_48 := mB.out.below hM
      have C_48 := mC.out.below hM
      have D_48 := mD.out.below hM
      have L_48 := mL.out.below hM
      have M_48 := mM.out.below hM
      have N_48 := mN.out.below hM
      have O_48 := mO.out.below hM
      have hbel_48 := mhbel.out.next hM
      have hsz_48 := hM.size
      clear hM
      have cX_48_0 : _ = some (Value.bool s) := X_48.cell 0
      have fX_48_0 := X_48.free 0
      have cX_48_1 : _ = some (Value.slice a n1 c) := X_48.cell 1
      have fX_48_1 := X_48.free 1
      have cX_48_2 : _ = some (Value.slice b m1 d) := X_48.cell 2
      have fX_48_2 := X_48.free 2
      have cY_48_0 : _ = some (Value.bool t) := Y_48.cell 0
      have fY_48_0 := Y_48.free 0
      have cY_48_1 : _ = some (Value.slice a' n2 c') := Y_48.cell 1
      have fY_48_1 := Y_48.free 1
      have cY_48_2 : _ = some (Value.slice b' m2 d') := Y_48.cell 2
      have fY_48_2 := Y_48.free 2
      have cP_48_0 : _ = some (Value.bool s) := P_48.cell 0
      have cP_48_1 : _ = some (Value.slice pa n1 pc) := P_48.cell 1
      have cP_48_2 : _ = some (Value.slice pb m1 pd) := P_48.cell 2
      have cR_48_0 : _ = some (Value.bool t) := R_48.cell 0
      have cR_48_1 : _ = some (Value.slice ra n2 rc) := R_48.cell 1
      have cR_48_2 : _ = some (Value.slice rb m2 rd) := R_48.cell 2
      go_wp2_with fail
      refine (fkept L_48 M_48 A_48 B_48).mono ?_
      rintro e w49 ⟨rfl, hB⟩
      have hB_49 : Below wo.heap.size wo w49 := (by first | exact hB | exact below_drew hB | exact bel_alloc hB)
      have X_49 := X_48.next hB_49
      have cX_49_0 : _ = some (Value.bool s) := X_49.cell 0
      have fX_49_0 := X_49.free 0
      have cX_49_1 : _ = some (Value.slice a n1 c) := X_49.cell 1
      have fX_49_1 := X_49.free 1
      have cX_49_2 : _ = some (Value.slice b m1 d) := X_49.cell 2
      have fX_49_2 := X_49.free 2
      have Y_49 := Y_48.next hB_49
      have cY_49_0 : _ = some (Value.bool t) := Y_49.cell 0
      have fY_49_0 := Y_49.free 0
      have cY_49_1 : _ = some (Value.slice a' n2 c') := Y_49.cell 1
      have fY_49_1 := Y_49.free 1
      have cY_49_2 : _ = some (Value.slice b' m2 d') := Y_49.cell 2
      have fY_49_2 := Y_49.free 2
      have P_49 := P_48.next hB_49
      have cP_49_0 : _ = some (Value.bool s) := P_49.cell 0
      have cP_49_1 : _ = some (Value.slice pa n1 pc) := P_49.cell 1
      have cP_49_2 : _ = some (Value.slice pb m1 pd) := P_49.cell 2
      have R_49 := R_48.next hB_49
      have cR_49_0 : _ = some (Value.bool t) := R_49.cell 0
      have cR_49_1 : _ = some (Value.slice ra n2 rc) := R_49.cell 1
      have cR_49_2 : _ = some (Value.slice rb m2 rd) := R_49.cell 2
      have A_49 := A_48.below hB_49
      have B_49 := B_48.below hB_49
      have C_49 := C_48.below hB_49
      have D_49 := D_48.below hB_49
      have L_49 := L_48.below hB_49
      have M_49 := M_48.below hB_49
      have N_49 := N_48.below hB_49
      have O_49 := O_48.below hB_49
      have hbel_49 := hbel_48.next hB_49
      have hsz_49 := hB_49.size
      clear X_48 cX_48_0 fX_48_0 cX_48_1 fX_48_1 cX_48_2 fX_48_2 Y_48 cY_48_0 fY_48_0 cY_48_1 fY_48_1 cY_48_2 fY_48_2 P_48 cP_48_0 cP_48_1 cP_48_2 R_48 cR_48_0 cR_48_1 cR_48_2 A_48 B_48 C_48 D_48 L_48 M_48 N_48 O_48 hbel_48 hB_49
      try clear hB
      go_wp2_with fail
      refine (fkept N_49 O_49 C_49 D_49).mono ?_
      rintro e w50 ⟨rfl, hB⟩
      have hB_50 : Below w49.heap.size w49 w50 := (by first | exact hB | exact below_drew hB | exact bel_alloc hB)
      have X_50 := X_49.next hB_50
      have cX_50_0 : _ = some (Value.bool s) := X_50.cell 0
      have fX_50_0 := X_50.free 0
      have cX_50_1 : _ = some (Value.slice a n1 c) := X_50.cell 1
      have fX_50_1 := X_50.free 1
      have cX_50_2 : _ = some (Value.slice b m1 d) := X_50.cell 2
      have fX_50_2 := X_50.free 2
      have Y_50 := Y_49.next hB_50
      have cY_50_0 : _ = some (Value.bool t) := Y_50.cell 0
      have fY_50_0 := Y_50.free 0
      have cY_50_1 : _ = some (Value.slice a' n2 c') := Y_50.cell 1
      have fY_50_1 := Y_50.free 1
      have cY_50_2 : _ = some (Value.slice b' m2 d') := Y_50.cell 2
      have fY_50_2 := Y_50.free 2
      have P_50 := P_49.next hB_50
      have cP_50_0 : _ = some (Value.bool s) := P_50.cell 0
      have cP_50_1 : _ = some (Value.slice pa n1 pc) := P_50.cell 1
      have cP_50_2 : _ = some (Value.slice pb m1 pd) := P_50.cell 2
      have R_50 := R_49.next hB_50
      have cR_50_0 : _ = some (Value.bool t) := R_50.cell 0
      have cR_50_1 : _ = some (Value.slice ra n2 rc) := R_50.cell 1
      have cR_50_2 : _ = some (Value.slice rb m2 rd) := R_50.cell 2
      have A_50 := A_49.below hB_50
      have B_50 := B_49.below hB_50
      have C_50 := C_49.below hB_50
      have D_50 := D_49.below hB_50
      have L_50 := L_49.below hB_50
      have M_50 := M_49.below hB_50
      have N_50 := N_49.below hB_50
      have O_50 := O_49.below hB_50
      have hbel_50 := hbel_49.next hB_50
      have hsz_50 := hB_50.size
      clear X_49 cX_49_0 fX_49_0 cX_49_1 fX_49_1 cX_49_2 fX_49_2 Y_49 cY_49_0 fY_49_0 cY_49_1 fY_49_1 cY_49_2 fY_49_2 P_49 cP_49_0 cP_49_1 cP_49_2 R_49 cR_49_0 cR_49_1 cR_49_2 A_49 B_49 C_49 D_49 L_49 M_49 N_49 O_49 hbel_49 hB_50
      try clear hB
      go_wp2
      go_ret
      exact ⟨rfl, hbel_50⟩

end Go.Proofs.YtenmjgnhneofjaaGreat
