/- THE WALK OF credencelaw03.FracField: the laws of fractions. -/
import Derived.Test.YtenmjgnhneofjaaQn
namespace Go.Proofs.Ytenmjgnhneofjaa
set_option linter.unusedVariables false
set_option linter.unusedSimpArgs false
open Go.ChangeShapes Go.WideShapes Go.ChangeAt Go.RowKit Go.NatP

theorem sgn_sub_cmp (x y : Rat) : cmpQ x y = sgnQ (x - y) := by
  rw [sgnQ_cmp]
  rcases cmpQ_cases x y with ⟨h, e⟩ | ⟨h, e⟩ | ⟨h, e⟩
  · rw [e, cmpQ_lt]
    have h1 := (Rat.lt_iff_sub_pos x y).1 h
    rw [← Rat.neg_sub] at h1
    have h2 := Rat.neg_lt_neg h1
    rwa [Rat.neg_neg, Rat.neg_zero] at h2
  · rw [e, h, Rat.sub_self, cmpQ_self]
  · rw [e, cmpQ_swap, cmpQ_lt ((Rat.lt_iff_sub_pos y x).1 h)]; rfl
theorem rdqs3 {K : Nat} {W : World} {g : Nat} {i j k : QI} (hc : Blk W g #[.bool i.s, .slice i.a i.n i.c, .slice i.b i.m i.d, .bool j.s, .slice j.a j.n j.c, .slice j.b j.m j.d, .bool k.s, .slice k.a k.n k.c, .slice k.b k.m k.d])
    (h1 : RdQ K W i.s i.a i.n i.c i.b i.m i.d i.q) (h2 : RdQ K W j.s j.a j.n j.c j.b j.m j.d j.q) (h3 : RdQ K W k.s k.a k.n k.c k.b k.m k.d k.q) : RdQs K W (some ⟨g, 0, none⟩) 3 3 [i, j, k] := by
  refine ⟨rfl, Nat.le_refl _, by simp [maxLen], fun n hn => ?_⟩
  rcases (by omega : n = 0 ∨ n = 1 ∨ n = 2) with rfl | rfl | rfl
  · exact ⟨h1, g, 0, rfl, hc.cell 0, hc.cell 1, hc.cell 2⟩
  · exact ⟨h2, g, 0, rfl, hc.cell 3, hc.cell 4, hc.cell 5⟩
  · exact ⟨h3, g, 0, rfl, hc.cell 6, hc.cell 7, hc.cell 8⟩
theorem qsm3 (i j k : QI) : qsm [i, j, k] 3 = i.q + j.q + k.q := by
  show ((0 + i.q) + j.q) + k.q = _
  rw [Rat.zero_add]

set_option maxRecDepth 100000 in
set_option maxHeartbeats 16000000 in
theorem fracField_walk {w : World} {a1 b1 : Option Addr} {n1 c1 m1 d1 : Nat} {la1 lb1 : List Nat} {a2 b2 : Option Addr} {n2 c2 m2 d2 : Nat} {la2 lb2 : List Nat} {a3 b3 : Option Addr} {n3 c3 m3 d3 : Nat} {la3 lb3 : List Nat} (s1 : Bool) (ha1 : Rd w a1 n1 c1 la1) (hb1 : Rd w b1 m1 d1 lb1) (s2 : Bool) (ha2 : Rd w a2 n2 c2 la2) (hb2 : Rd w b2 m2 d2 lb2) (s3 : Bool) (ha3 : Rd w a3 n3 c3 la3) (hb3 : Rd w b3 m3 d3 lb3) :
    Calls Try.prog 8 #[.agg #[.bool s1, .slice a1 n1 c1, .slice b1 m1 d1], .agg #[.bool s2, .slice a2 n2 c2, .slice b2 m2 d2], .agg #[.bool s3, .slice a3 n3 c3, .slice b3 m3 d3]] w (fun e w' => e = .returned (.bool true) ∧ Below w.heap.size w w') := by
  have hent := ent3 w #[Value.bool s1, Value.slice a1 n1 c1, Value.slice b1 m1 d1] #[Value.bool s2, Value.slice a2 n2 c2, Value.slice b2 m2 d2] #[Value.bool s3, Value.slice a3 n3 c3, Value.slice b3 m3 d3] 32 32 32
  go_enter Try.func8, Try.ntmps8
  go_wp2_with fail
  generalize (((w.alloc (.cells #[Value.bool s1, Value.slice a1 n1 c1, Value.slice b1 m1 d1] 32)).alloc (.cells #[Value.bool s2, Value.slice a2 n2 c2, Value.slice b2 m2 d2] 32)).alloc (.cells #[Value.bool s3, Value.slice a3 n3 c3, Value.slice b3 m3 d3] 32)) = W0 at hent ⊢
  obtain ⟨X_0, Y_0, Z_0, hbel_0, hsz_0⟩ := hent
  have cX_0_0 : _ = some (Value.bool s1) := X_0.cell 0
  have cX_0_1 : _ = some (Value.slice a1 n1 c1) := X_0.cell 1
  have cX_0_2 : _ = some (Value.slice b1 m1 d1) := X_0.cell 2
  have cY_0_0 : _ = some (Value.bool s2) := Y_0.cell 0
  have cY_0_1 : _ = some (Value.slice a2 n2 c2) := Y_0.cell 1
  have cY_0_2 : _ = some (Value.slice b2 m2 d2) := Y_0.cell 2
  have cZ_0_0 : _ = some (Value.bool s3) := Z_0.cell 0
  have cZ_0_1 : _ = some (Value.slice a3 n3 c3) := Z_0.cell 1
  have cZ_0_2 : _ = some (Value.slice b3 m3 d3) := Z_0.cell 2
  have ha1_0 := ha1.below hbel_0
  clear ha1
  have hb1_0 := hb1.below hbel_0
  clear hb1
  have ha2_0 := ha2.below hbel_0
  clear ha2
  have hb2_0 := hb2.below hbel_0
  clear hb2
  have ha3_0 := ha3.below hbel_0
  clear ha3
  have hb3_0 := hb3.below hbel_0
  clear hb3
  go_wp2_with fail
  refine (fawake).mono ?_
  rintro e w1 ⟨rfl, hB⟩
  have hB_1 : Below W0.heap.size W0 w1 := (by first | exact hB | exact below_drew hB | exact bel_alloc hB | exact below_drew (bel_alloc hB) | exact bel_alloc (below_drew hB) | exact bel_alloc (bel_alloc hB))
  have X_1 := X_0.next hB_1
  have cX_1_0 : _ = some (Value.bool s1) := X_1.cell 0
  have cX_1_1 : _ = some (Value.slice a1 n1 c1) := X_1.cell 1
  have cX_1_2 : _ = some (Value.slice b1 m1 d1) := X_1.cell 2
  have Y_1 := Y_0.next hB_1
  have cY_1_0 : _ = some (Value.bool s2) := Y_1.cell 0
  have cY_1_1 : _ = some (Value.slice a2 n2 c2) := Y_1.cell 1
  have cY_1_2 : _ = some (Value.slice b2 m2 d2) := Y_1.cell 2
  have Z_1 := Z_0.next hB_1
  have cZ_1_0 : _ = some (Value.bool s3) := Z_1.cell 0
  have cZ_1_1 : _ = some (Value.slice a3 n3 c3) := Z_1.cell 1
  have cZ_1_2 : _ = some (Value.slice b3 m3 d3) := Z_1.cell 2
  have ha1_1 := ha1_0.below hB_1
  have hb1_1 := hb1_0.below hB_1
  have ha2_1 := ha2_0.below hB_1
  have hb2_1 := hb2_0.below hB_1
  have ha3_1 := ha3_0.below hB_1
  have hb3_1 := hb3_0.below hB_1
  have hbel_1 := hbel_0.next hB_1
  have hsz_1 := hB_1.size
  clear X_0 cX_0_0 cX_0_1 cX_0_2 Y_0 cY_0_0 cY_0_1 cY_0_2 Z_0 cZ_0_0 cZ_0_1 cZ_0_2 ha1_0 hb1_0 ha2_0 hb2_0 ha3_0 hb3_0 hbel_0 hB_1
  try clear hB
  go_wp2_with fail
  refine (fcut 12 (by omega) ha1_1 hb1_1).mono ?_
  rintro e w2 ⟨n1', l1, m1', k1, rfl, hn1', hm1', hln, hlm, hR, hR', hB⟩
  have hB_2 : Below w1.heap.size w1 w2 := (by first | exact hB | exact below_drew hB | exact bel_alloc hB | exact below_drew (bel_alloc hB) | exact bel_alloc (below_drew hB) | exact bel_alloc (bel_alloc hB))
  have X_2 := X_1.next hB_2
  have cX_2_0 : _ = some (Value.bool s1) := X_2.cell 0
  have cX_2_1 : _ = some (Value.slice a1 n1 c1) := X_2.cell 1
  have cX_2_2 : _ = some (Value.slice b1 m1 d1) := X_2.cell 2
  have Y_2 := Y_1.next hB_2
  have cY_2_0 : _ = some (Value.bool s2) := Y_2.cell 0
  have cY_2_1 : _ = some (Value.slice a2 n2 c2) := Y_2.cell 1
  have cY_2_2 : _ = some (Value.slice b2 m2 d2) := Y_2.cell 2
  have Z_2 := Z_1.next hB_2
  have cZ_2_0 : _ = some (Value.bool s3) := Z_2.cell 0
  have cZ_2_1 : _ = some (Value.slice a3 n3 c3) := Z_2.cell 1
  have cZ_2_2 : _ = some (Value.slice b3 m3 d3) := Z_2.cell 2
  have ha1_2 := ha1_1.below hB_2
  have hb1_2 := hb1_1.below hB_2
  have ha2_2 := ha2_1.below hB_2
  have hb2_2 := hb2_1.below hB_2
  have ha3_2 := ha3_1.below hB_2
  have hb3_2 := hb3_1.below hB_2
  have hbel_2 := hbel_1.next hB_2
  have hsz_2 := hB_2.size
  clear X_1 cX_1_0 cX_1_1 cX_1_2 Y_1 cY_1_0 cY_1_1 cY_1_2 Z_1 cZ_1_0 cZ_1_1 cZ_1_2 ha1_1 hb1_1 ha2_1 hb2_1 ha3_1 hb3_1 hbel_1 hB_2
  have Q1_2 := rdq_of s1 hR hn1' hR' hm1'
  clear hR hR' hln hlm
  try clear hB
  have hbx := blk_new w2 #[Value.bool s1, Value.slice a1 n1' c1, Value.slice b1 m1' d1] 32
  have hbB := (Below.refl w2.heap.size w2).alloc (Nat.le_refl _) (.cells #[Value.bool s1, Value.slice a1 n1' c1, Value.slice b1 m1' d1] 32)
  have hltA := hbx.lt
  have hB_3 : Below w2.heap.size w2 (w2.alloc (.cells #[Value.bool s1, Value.slice a1 n1' c1, Value.slice b1 m1' d1] 32)) := hbB
  have X_3 := X_2.next hB_3
  have cX_3_0 : _ = some (Value.bool s1) := X_3.cell 0
  have cX_3_1 : _ = some (Value.slice a1 n1 c1) := X_3.cell 1
  have cX_3_2 : _ = some (Value.slice b1 m1 d1) := X_3.cell 2
  have Y_3 := Y_2.next hB_3
  have cY_3_0 : _ = some (Value.bool s2) := Y_3.cell 0
  have cY_3_1 : _ = some (Value.slice a2 n2 c2) := Y_3.cell 1
  have cY_3_2 : _ = some (Value.slice b2 m2 d2) := Y_3.cell 2
  have Z_3 := Z_2.next hB_3
  have cZ_3_0 : _ = some (Value.bool s3) := Z_3.cell 0
  have cZ_3_1 : _ = some (Value.slice a3 n3 c3) := Z_3.cell 1
  have cZ_3_2 : _ = some (Value.slice b3 m3 d3) := Z_3.cell 2
  have ha1_3 := ha1_2.below hB_3
  have hb1_3 := hb1_2.below hB_3
  have ha2_3 := ha2_2.below hB_3
  have hb2_3 := hb2_2.below hB_3
  have ha3_3 := ha3_2.below hB_3
  have hb3_3 := hb3_2.below hB_3
  have Q1_3 := Q1_2.below hB_3
  have hbel_3 := hbel_2.next hB_3
  have hsz_3 := hB_3.size
  clear hB_3
  have A_3 := hbx
  clear hbx hbB
  have cA_3_0 : _ = some (Value.bool s1) := A_3.cell 0
  have cA_3_1 : _ = some (Value.slice a1 n1' c1) := A_3.cell 1
  have cA_3_2 : _ = some (Value.slice b1 m1' d1) := A_3.cell 2
  go_wp2_with fail
  clear X_2 cX_2_0 cX_2_1 cX_2_2 Y_2 cY_2_0 cY_2_1 cY_2_2 Z_2 cZ_2_0 cZ_2_1 cZ_2_2 ha1_2 hb1_2 ha2_2 hb2_2 ha3_2 hb3_2 Q1_2 hbel_2
  generalize (w2.alloc (.cells #[Value.bool s1, Value.slice a1 n1' c1, Value.slice b1 m1' d1] 32)) = v3 at *
  clear ha1_3
  clear hb1_3
  have hx := hid (show QS (qv s1 (val l1) (val k1)) 12 from Q1_3.qs (by omega))
  generalize qv s1 (val l1) (val k1) = x at *
  go_wp2_with fail
  refine (fcut 12 (by omega) ha2_3 hb2_3).mono ?_
  rintro e w4 ⟨n2', l2, m2', k2, rfl, hn2', hm2', hln, hlm, hR, hR', hB⟩
  have hB_4 : Below v3.heap.size v3 w4 := (by first | exact hB | exact below_drew hB | exact bel_alloc hB | exact below_drew (bel_alloc hB) | exact bel_alloc (below_drew hB) | exact bel_alloc (bel_alloc hB))
  have X_4 := X_3.next hB_4
  have cX_4_0 : _ = some (Value.bool s1) := X_4.cell 0
  have cX_4_1 : _ = some (Value.slice a1 n1 c1) := X_4.cell 1
  have cX_4_2 : _ = some (Value.slice b1 m1 d1) := X_4.cell 2
  have Y_4 := Y_3.next hB_4
  have cY_4_0 : _ = some (Value.bool s2) := Y_4.cell 0
  have cY_4_1 : _ = some (Value.slice a2 n2 c2) := Y_4.cell 1
  have cY_4_2 : _ = some (Value.slice b2 m2 d2) := Y_4.cell 2
  have Z_4 := Z_3.next hB_4
  have cZ_4_0 : _ = some (Value.bool s3) := Z_4.cell 0
  have cZ_4_1 : _ = some (Value.slice a3 n3 c3) := Z_4.cell 1
  have cZ_4_2 : _ = some (Value.slice b3 m3 d3) := Z_4.cell 2
  have A_4 := A_3.next hB_4
  have cA_4_0 : _ = some (Value.bool s1) := A_4.cell 0
  have cA_4_1 : _ = some (Value.slice a1 n1' c1) := A_4.cell 1
  have cA_4_2 : _ = some (Value.slice b1 m1' d1) := A_4.cell 2
  have ha2_4 := ha2_3.below hB_4
  have hb2_4 := hb2_3.below hB_4
  have ha3_4 := ha3_3.below hB_4
  have hb3_4 := hb3_3.below hB_4
  have Q1_4 := Q1_3.below hB_4
  have hbel_4 := hbel_3.next hB_4
  have hsz_4 := hB_4.size
  clear X_3 cX_3_0 cX_3_1 cX_3_2 Y_3 cY_3_0 cY_3_1 cY_3_2 Z_3 cZ_3_0 cZ_3_1 cZ_3_2 A_3 cA_3_0 cA_3_1 cA_3_2 ha2_3 hb2_3 ha3_3 hb3_3 Q1_3 hbel_3 hB_4
  have Q2_4 := rdq_of s2 hR hn2' hR' hm2'
  clear hR hR' hln hlm
  try clear hB
  have hbx := blk_new w4 #[Value.bool s2, Value.slice a2 n2' c2, Value.slice b2 m2' d2] 32
  have hbB := (Below.refl w4.heap.size w4).alloc (Nat.le_refl _) (.cells #[Value.bool s2, Value.slice a2 n2' c2, Value.slice b2 m2' d2] 32)
  have hltB := hbx.lt
  have hB_5 : Below w4.heap.size w4 (w4.alloc (.cells #[Value.bool s2, Value.slice a2 n2' c2, Value.slice b2 m2' d2] 32)) := hbB
  have X_5 := X_4.next hB_5
  have cX_5_0 : _ = some (Value.bool s1) := X_5.cell 0
  have cX_5_1 : _ = some (Value.slice a1 n1 c1) := X_5.cell 1
  have cX_5_2 : _ = some (Value.slice b1 m1 d1) := X_5.cell 2
  have Y_5 := Y_4.next hB_5
  have cY_5_0 : _ = some (Value.bool s2) := Y_5.cell 0
  have cY_5_1 : _ = some (Value.slice a2 n2 c2) := Y_5.cell 1
  have cY_5_2 : _ = some (Value.slice b2 m2 d2) := Y_5.cell 2
  have Z_5 := Z_4.next hB_5
  have cZ_5_0 : _ = some (Value.bool s3) := Z_5.cell 0
  have cZ_5_1 : _ = some (Value.slice a3 n3 c3) := Z_5.cell 1
  have cZ_5_2 : _ = some (Value.slice b3 m3 d3) := Z_5.cell 2
  have A_5 := A_4.next hB_5
  have cA_5_0 : _ = some (Value.bool s1) := A_5.cell 0
  have cA_5_1 : _ = some (Value.slice a1 n1' c1) := A_5.cell 1
  have cA_5_2 : _ = some (Value.slice b1 m1' d1) := A_5.cell 2
  have ha2_5 := ha2_4.below hB_5
  have hb2_5 := hb2_4.below hB_5
  have ha3_5 := ha3_4.below hB_5
  have hb3_5 := hb3_4.below hB_5
  have Q1_5 := Q1_4.below hB_5
  have Q2_5 := Q2_4.below hB_5
  have hbel_5 := hbel_4.next hB_5
  have hsz_5 := hB_5.size
  clear hB_5
  have B_5 := hbx
  clear hbx hbB
  have cB_5_0 : _ = some (Value.bool s2) := B_5.cell 0
  have cB_5_1 : _ = some (Value.slice a2 n2' c2) := B_5.cell 1
  have cB_5_2 : _ = some (Value.slice b2 m2' d2) := B_5.cell 2
  go_wp2_with fail
  clear X_4 cX_4_0 cX_4_1 cX_4_2 Y_4 cY_4_0 cY_4_1 cY_4_2 Z_4 cZ_4_0 cZ_4_1 cZ_4_2 A_4 cA_4_0 cA_4_1 cA_4_2 ha2_4 hb2_4 ha3_4 hb3_4 Q1_4 Q2_4 hbel_4
  generalize (w4.alloc (.cells #[Value.bool s2, Value.slice a2 n2' c2, Value.slice b2 m2' d2] 32)) = v5 at *
  clear ha2_5
  clear hb2_5
  have hy := hid (show QS (qv s2 (val l2) (val k2)) 12 from Q2_5.qs (by omega))
  generalize qv s2 (val l2) (val k2) = y at *
  go_wp2_with fail
  refine (fcut 12 (by omega) ha3_5 hb3_5).mono ?_
  rintro e w6 ⟨n3', l3, m3', k3, rfl, hn3', hm3', hln, hlm, hR, hR', hB⟩
  have hB_6 : Below v5.heap.size v5 w6 := (by first | exact hB | exact below_drew hB | exact bel_alloc hB | exact below_drew (bel_alloc hB) | exact bel_alloc (below_drew hB) | exact bel_alloc (bel_alloc hB))
  have X_6 := X_5.next hB_6
  have cX_6_0 : _ = some (Value.bool s1) := X_6.cell 0
  have cX_6_1 : _ = some (Value.slice a1 n1 c1) := X_6.cell 1
  have cX_6_2 : _ = some (Value.slice b1 m1 d1) := X_6.cell 2
  have Y_6 := Y_5.next hB_6
  have cY_6_0 : _ = some (Value.bool s2) := Y_6.cell 0
  have cY_6_1 : _ = some (Value.slice a2 n2 c2) := Y_6.cell 1
  have cY_6_2 : _ = some (Value.slice b2 m2 d2) := Y_6.cell 2
  have Z_6 := Z_5.next hB_6
  have cZ_6_0 : _ = some (Value.bool s3) := Z_6.cell 0
  have cZ_6_1 : _ = some (Value.slice a3 n3 c3) := Z_6.cell 1
  have cZ_6_2 : _ = some (Value.slice b3 m3 d3) := Z_6.cell 2
  have A_6 := A_5.next hB_6
  have cA_6_0 : _ = some (Value.bool s1) := A_6.cell 0
  have cA_6_1 : _ = some (Value.slice a1 n1' c1) := A_6.cell 1
  have cA_6_2 : _ = some (Value.slice b1 m1' d1) := A_6.cell 2
  have B_6 := B_5.next hB_6
  have cB_6_0 : _ = some (Value.bool s2) := B_6.cell 0
  have cB_6_1 : _ = some (Value.slice a2 n2' c2) := B_6.cell 1
  have cB_6_2 : _ = some (Value.slice b2 m2' d2) := B_6.cell 2
  have ha3_6 := ha3_5.below hB_6
  have hb3_6 := hb3_5.below hB_6
  have Q1_6 := Q1_5.below hB_6
  have Q2_6 := Q2_5.below hB_6
  have hbel_6 := hbel_5.next hB_6
  have hsz_6 := hB_6.size
  clear X_5 cX_5_0 cX_5_1 cX_5_2 Y_5 cY_5_0 cY_5_1 cY_5_2 Z_5 cZ_5_0 cZ_5_1 cZ_5_2 A_5 cA_5_0 cA_5_1 cA_5_2 B_5 cB_5_0 cB_5_1 cB_5_2 ha3_5 hb3_5 Q1_5 Q2_5 hbel_5 hB_6
  have Q3_6 := rdq_of s3 hR hn3' hR' hm3'
  clear hR hR' hln hlm
  try clear hB
  have hbx := blk_new w6 #[Value.bool s3, Value.slice a3 n3' c3, Value.slice b3 m3' d3] 32
  have hbB := (Below.refl w6.heap.size w6).alloc (Nat.le_refl _) (.cells #[Value.bool s3, Value.slice a3 n3' c3, Value.slice b3 m3' d3] 32)
  have hltC := hbx.lt
  have hB_7 : Below w6.heap.size w6 (w6.alloc (.cells #[Value.bool s3, Value.slice a3 n3' c3, Value.slice b3 m3' d3] 32)) := hbB
  have X_7 := X_6.next hB_7
  have cX_7_0 : _ = some (Value.bool s1) := X_7.cell 0
  have cX_7_1 : _ = some (Value.slice a1 n1 c1) := X_7.cell 1
  have cX_7_2 : _ = some (Value.slice b1 m1 d1) := X_7.cell 2
  have Y_7 := Y_6.next hB_7
  have cY_7_0 : _ = some (Value.bool s2) := Y_7.cell 0
  have cY_7_1 : _ = some (Value.slice a2 n2 c2) := Y_7.cell 1
  have cY_7_2 : _ = some (Value.slice b2 m2 d2) := Y_7.cell 2
  have Z_7 := Z_6.next hB_7
  have cZ_7_0 : _ = some (Value.bool s3) := Z_7.cell 0
  have cZ_7_1 : _ = some (Value.slice a3 n3 c3) := Z_7.cell 1
  have cZ_7_2 : _ = some (Value.slice b3 m3 d3) := Z_7.cell 2
  have A_7 := A_6.next hB_7
  have cA_7_0 : _ = some (Value.bool s1) := A_7.cell 0
  have cA_7_1 : _ = some (Value.slice a1 n1' c1) := A_7.cell 1
  have cA_7_2 : _ = some (Value.slice b1 m1' d1) := A_7.cell 2
  have B_7 := B_6.next hB_7
  have cB_7_0 : _ = some (Value.bool s2) := B_7.cell 0
  have cB_7_1 : _ = some (Value.slice a2 n2' c2) := B_7.cell 1
  have cB_7_2 : _ = some (Value.slice b2 m2' d2) := B_7.cell 2
  have ha3_7 := ha3_6.below hB_7
  have hb3_7 := hb3_6.below hB_7
  have Q1_7 := Q1_6.below hB_7
  have Q2_7 := Q2_6.below hB_7
  have Q3_7 := Q3_6.below hB_7
  have hbel_7 := hbel_6.next hB_7
  have hsz_7 := hB_7.size
  clear hB_7
  have C_7 := hbx
  clear hbx hbB
  have cC_7_0 : _ = some (Value.bool s3) := C_7.cell 0
  have cC_7_1 : _ = some (Value.slice a3 n3' c3) := C_7.cell 1
  have cC_7_2 : _ = some (Value.slice b3 m3' d3) := C_7.cell 2
  go_wp2_with fail
  clear X_6 cX_6_0 cX_6_1 cX_6_2 Y_6 cY_6_0 cY_6_1 cY_6_2 Z_6 cZ_6_0 cZ_6_1 cZ_6_2 A_6 cA_6_0 cA_6_1 cA_6_2 B_6 cB_6_0 cB_6_1 cB_6_2 ha3_6 hb3_6 Q1_6 Q2_6 Q3_6 hbel_6
  generalize (w6.alloc (.cells #[Value.bool s3, Value.slice a3 n3' c3, Value.slice b3 m3' d3] 32)) = v7 at *
  clear ha3_7
  clear hb3_7
  have hz := hid (show QS (qv s3 (val l3) (val k3)) 12 from Q3_7.qs (by omega))
  generalize qv s3 (val l3) (val k3) = z at *
  clear X_7 cX_7_0 cX_7_1 cX_7_2
  clear Y_7 cY_7_0 cY_7_1 cY_7_2
  clear Z_7 cZ_7_0 cZ_7_1 cZ_7_2
  obtain ⟨nx, hnx0⟩ : ∃ q, -x = q := ⟨_, rfl⟩
  have hnx := hid hnx0
  have hnq := hid (show QS nx 12 from hnx0 ▸ hx.out.neg)
  clear hnx0
  go_wp2_with fail
  go_cut [11] (fun s11 wx => s11 = .bool true ∧ Below v7.heap.size v7 wx)
  case first =>
    have hbC_7 : Below v7.heap.size v7 v7 := Below.refl _ _
    go_wp2_with fail
    go_region_held3 (fun w' => w'.cell? ⟨w2.heap.size, 0, none⟩ = some (Value.bool s1) ∧ w'.cell? ⟨w2.heap.size, 1, none⟩ = some (Value.slice a1 n1' c1) ∧ w'.cell? ⟨w2.heap.size, 2, none⟩ = some (Value.slice b1 m1' d1) ∧ w'.cell? ⟨w4.heap.size, 0, none⟩ = some (Value.bool s2) ∧ w'.cell? ⟨w4.heap.size, 1, none⟩ = some (Value.slice a2 n2' c2) ∧ w'.cell? ⟨w4.heap.size, 2, none⟩ = some (Value.slice b2 m2' d2) ∧ w'.cell? ⟨w6.heap.size, 0, none⟩ = some (Value.bool s3) ∧ w'.cell? ⟨w6.heap.size, 1, none⟩ = some (Value.slice a3 n3' c3) ∧ w'.cell? ⟨w6.heap.size, 2, none⟩ = some (Value.slice b3 m3' d3))
      (first | exact ⟨cA_7_0, cA_7_1, cA_7_2, cB_7_0, cB_7_1, cB_7_2, cC_7_0, cC_7_1, cC_7_2⟩ | exact ⟨cA_8_0, cA_8_1, cA_8_2, cB_8_0, cB_8_1, cB_8_2, cC_8_0, cC_8_1, cC_8_2⟩ | exact ⟨cA_9_0, cA_9_1, cA_9_2, cB_9_0, cB_9_1, cB_9_2, cC_9_0, cC_9_1, cC_9_2⟩ | exact ⟨cA_10_0, cA_10_1, cA_10_2, cB_10_0, cB_10_1, cB_10_2, cC_10_0, cC_10_1, cC_10_2⟩ | exact ⟨cA_11_0, cA_11_1, cA_11_2, cB_11_0, cB_11_1, cB_11_2, cC_11_0, cC_11_1, cC_11_2⟩ | exact ⟨cA_12_0, cA_12_1, cA_12_2, cB_12_0, cB_12_1, cB_12_2, cC_12_0, cC_12_1, cC_12_2⟩ | exact ⟨cA_13_0, cA_13_1, cA_13_2, cB_13_0, cB_13_1, cB_13_2, cC_13_0, cC_13_1, cC_13_2⟩ | exact ⟨cA_14_0, cA_14_1, cA_14_2, cB_14_0, cB_14_1, cB_14_2, cC_14_0, cC_14_1, cC_14_2⟩ | exact ⟨cA_15_0, cA_15_1, cA_15_2, cB_15_0, cB_15_1, cB_15_2, cC_15_0, cC_15_1, cC_15_2⟩ | exact ⟨cA_16_0, cA_16_1, cA_16_2, cB_16_0, cB_16_1, cB_16_2, cC_16_0, cC_16_1, cC_16_2⟩ | exact ⟨cA_17_0, cA_17_1, cA_17_2, cB_17_0, cB_17_1, cB_17_2, cC_17_0, cC_17_1, cC_17_2⟩ | exact ⟨cA_18_0, cA_18_1, cA_18_2, cB_18_0, cB_18_1, cB_18_2, cC_18_0, cC_18_1, cC_18_2⟩ | exact ⟨(A_7.alloc _).cell 0, (A_7.alloc _).cell 1, (A_7.alloc _).cell 2, (B_7.alloc _).cell 0, (B_7.alloc _).cell 1, (B_7.alloc _).cell 2, (C_7.alloc _).cell 0, (C_7.alloc _).cell 1, (C_7.alloc _).cell 2⟩ | exact ⟨((A_7.alloc _).alloc _).cell 0, ((A_7.alloc _).alloc _).cell 1, ((A_7.alloc _).alloc _).cell 2, ((B_7.alloc _).alloc _).cell 0, ((B_7.alloc _).alloc _).cell 1, ((B_7.alloc _).alloc _).cell 2, ((C_7.alloc _).alloc _).cell 0, ((C_7.alloc _).alloc _).cell 1, ((C_7.alloc _).alloc _).cell 2⟩ | exact ⟨(A_8.alloc _).cell 0, (A_8.alloc _).cell 1, (A_8.alloc _).cell 2, (B_8.alloc _).cell 0, (B_8.alloc _).cell 1, (B_8.alloc _).cell 2, (C_8.alloc _).cell 0, (C_8.alloc _).cell 1, (C_8.alloc _).cell 2⟩ | exact ⟨((A_8.alloc _).alloc _).cell 0, ((A_8.alloc _).alloc _).cell 1, ((A_8.alloc _).alloc _).cell 2, ((B_8.alloc _).alloc _).cell 0, ((B_8.alloc _).alloc _).cell 1, ((B_8.alloc _).alloc _).cell 2, ((C_8.alloc _).alloc _).cell 0, ((C_8.alloc _).alloc _).cell 1, ((C_8.alloc _).alloc _).cell 2⟩ | exact ⟨(A_9.alloc _).cell 0, (A_9.alloc _).cell 1, (A_9.alloc _).cell 2, (B_9.alloc _).cell 0, (B_9.alloc _).cell 1, (B_9.alloc _).cell 2, (C_9.alloc _).cell 0, (C_9.alloc _).cell 1, (C_9.alloc _).cell 2⟩ | exact ⟨((A_9.alloc _).alloc _).cell 0, ((A_9.alloc _).alloc _).cell 1, ((A_9.alloc _).alloc _).cell 2, ((B_9.alloc _).alloc _).cell 0, ((B_9.alloc _).alloc _).cell 1, ((B_9.alloc _).alloc _).cell 2, ((C_9.alloc _).alloc _).cell 0, ((C_9.alloc _).alloc _).cell 1, ((C_9.alloc _).alloc _).cell 2⟩ | exact ⟨(A_10.alloc _).cell 0, (A_10.alloc _).cell 1, (A_10.alloc _).cell 2, (B_10.alloc _).cell 0, (B_10.alloc _).cell 1, (B_10.alloc _).cell 2, (C_10.alloc _).cell 0, (C_10.alloc _).cell 1, (C_10.alloc _).cell 2⟩ | exact ⟨((A_10.alloc _).alloc _).cell 0, ((A_10.alloc _).alloc _).cell 1, ((A_10.alloc _).alloc _).cell 2, ((B_10.alloc _).alloc _).cell 0, ((B_10.alloc _).alloc _).cell 1, ((B_10.alloc _).alloc _).cell 2, ((C_10.alloc _).alloc _).cell 0, ((C_10.alloc _).alloc _).cell 1, ((C_10.alloc _).alloc _).cell 2⟩ | exact ⟨(A_11.alloc _).cell 0, (A_11.alloc _).cell 1, (A_11.alloc _).cell 2, (B_11.alloc _).cell 0, (B_11.alloc _).cell 1, (B_11.alloc _).cell 2, (C_11.alloc _).cell 0, (C_11.alloc _).cell 1, (C_11.alloc _).cell 2⟩ | exact ⟨((A_11.alloc _).alloc _).cell 0, ((A_11.alloc _).alloc _).cell 1, ((A_11.alloc _).alloc _).cell 2, ((B_11.alloc _).alloc _).cell 0, ((B_11.alloc _).alloc _).cell 1, ((B_11.alloc _).alloc _).cell 2, ((C_11.alloc _).alloc _).cell 0, ((C_11.alloc _).alloc _).cell 1, ((C_11.alloc _).alloc _).cell 2⟩ | exact ⟨(A_12.alloc _).cell 0, (A_12.alloc _).cell 1, (A_12.alloc _).cell 2, (B_12.alloc _).cell 0, (B_12.alloc _).cell 1, (B_12.alloc _).cell 2, (C_12.alloc _).cell 0, (C_12.alloc _).cell 1, (C_12.alloc _).cell 2⟩ | exact ⟨((A_12.alloc _).alloc _).cell 0, ((A_12.alloc _).alloc _).cell 1, ((A_12.alloc _).alloc _).cell 2, ((B_12.alloc _).alloc _).cell 0, ((B_12.alloc _).alloc _).cell 1, ((B_12.alloc _).alloc _).cell 2, ((C_12.alloc _).alloc _).cell 0, ((C_12.alloc _).alloc _).cell 1, ((C_12.alloc _).alloc _).cell 2⟩ | exact ⟨(A_13.alloc _).cell 0, (A_13.alloc _).cell 1, (A_13.alloc _).cell 2, (B_13.alloc _).cell 0, (B_13.alloc _).cell 1, (B_13.alloc _).cell 2, (C_13.alloc _).cell 0, (C_13.alloc _).cell 1, (C_13.alloc _).cell 2⟩ | exact ⟨((A_13.alloc _).alloc _).cell 0, ((A_13.alloc _).alloc _).cell 1, ((A_13.alloc _).alloc _).cell 2, ((B_13.alloc _).alloc _).cell 0, ((B_13.alloc _).alloc _).cell 1, ((B_13.alloc _).alloc _).cell 2, ((C_13.alloc _).alloc _).cell 0, ((C_13.alloc _).alloc _).cell 1, ((C_13.alloc _).alloc _).cell 2⟩ | exact ⟨(A_14.alloc _).cell 0, (A_14.alloc _).cell 1, (A_14.alloc _).cell 2, (B_14.alloc _).cell 0, (B_14.alloc _).cell 1, (B_14.alloc _).cell 2, (C_14.alloc _).cell 0, (C_14.alloc _).cell 1, (C_14.alloc _).cell 2⟩ | exact ⟨((A_14.alloc _).alloc _).cell 0, ((A_14.alloc _).alloc _).cell 1, ((A_14.alloc _).alloc _).cell 2, ((B_14.alloc _).alloc _).cell 0, ((B_14.alloc _).alloc _).cell 1, ((B_14.alloc _).alloc _).cell 2, ((C_14.alloc _).alloc _).cell 0, ((C_14.alloc _).alloc _).cell 1, ((C_14.alloc _).alloc _).cell 2⟩ | exact ⟨(A_15.alloc _).cell 0, (A_15.alloc _).cell 1, (A_15.alloc _).cell 2, (B_15.alloc _).cell 0, (B_15.alloc _).cell 1, (B_15.alloc _).cell 2, (C_15.alloc _).cell 0, (C_15.alloc _).cell 1, (C_15.alloc _).cell 2⟩ | exact ⟨((A_15.alloc _).alloc _).cell 0, ((A_15.alloc _).alloc _).cell 1, ((A_15.alloc _).alloc _).cell 2, ((B_15.alloc _).alloc _).cell 0, ((B_15.alloc _).alloc _).cell 1, ((B_15.alloc _).alloc _).cell 2, ((C_15.alloc _).alloc _).cell 0, ((C_15.alloc _).alloc _).cell 1, ((C_15.alloc _).alloc _).cell 2⟩ | exact ⟨(A_16.alloc _).cell 0, (A_16.alloc _).cell 1, (A_16.alloc _).cell 2, (B_16.alloc _).cell 0, (B_16.alloc _).cell 1, (B_16.alloc _).cell 2, (C_16.alloc _).cell 0, (C_16.alloc _).cell 1, (C_16.alloc _).cell 2⟩ | exact ⟨((A_16.alloc _).alloc _).cell 0, ((A_16.alloc _).alloc _).cell 1, ((A_16.alloc _).alloc _).cell 2, ((B_16.alloc _).alloc _).cell 0, ((B_16.alloc _).alloc _).cell 1, ((B_16.alloc _).alloc _).cell 2, ((C_16.alloc _).alloc _).cell 0, ((C_16.alloc _).alloc _).cell 1, ((C_16.alloc _).alloc _).cell 2⟩ | exact ⟨(A_17.alloc _).cell 0, (A_17.alloc _).cell 1, (A_17.alloc _).cell 2, (B_17.alloc _).cell 0, (B_17.alloc _).cell 1, (B_17.alloc _).cell 2, (C_17.alloc _).cell 0, (C_17.alloc _).cell 1, (C_17.alloc _).cell 2⟩ | exact ⟨((A_17.alloc _).alloc _).cell 0, ((A_17.alloc _).alloc _).cell 1, ((A_17.alloc _).alloc _).cell 2, ((B_17.alloc _).alloc _).cell 0, ((B_17.alloc _).alloc _).cell 1, ((B_17.alloc _).alloc _).cell 2, ((C_17.alloc _).alloc _).cell 0, ((C_17.alloc _).alloc _).cell 1, ((C_17.alloc _).alloc _).cell 2⟩ | exact ⟨(A_18.alloc _).cell 0, (A_18.alloc _).cell 1, (A_18.alloc _).cell 2, (B_18.alloc _).cell 0, (B_18.alloc _).cell 1, (B_18.alloc _).cell 2, (C_18.alloc _).cell 0, (C_18.alloc _).cell 1, (C_18.alloc _).cell 2⟩ | exact ⟨((A_18.alloc _).alloc _).cell 0, ((A_18.alloc _).alloc _).cell 1, ((A_18.alloc _).alloc _).cell 2, ((B_18.alloc _).alloc _).cell 0, ((B_18.alloc _).alloc _).cell 1, ((B_18.alloc _).alloc _).cell 2, ((C_18.alloc _).alloc _).cell 0, ((C_18.alloc _).alloc _).cell 1, ((C_18.alloc _).alloc _).cell 2⟩ | go_keep)
      (first
        | (go_at_call 42; ((with_reducible refine (qadd (Q1_7.below (by first | exact Below.refl _ _ | exact (Below.refl _ _).drew | exact (Below.refl _ _).alloc (Nat.le_refl _) _ | exact ((Below.refl _ _).alloc (Nat.le_refl _) _).drew | exact (Below.refl _ _).drew.alloc (Nat.le_refl _) _ | exact ((Below.refl _ _).alloc (Nat.le_refl _) _).alloc (by simp) _)) (by omega) (Q2_7.below (by first | exact Below.refl _ _ | exact (Below.refl _ _).drew | exact (Below.refl _ _).alloc (Nat.le_refl _) _ | exact ((Below.refl _ _).alloc (Nat.le_refl _) _).drew | exact (Below.refl _ _).drew.alloc (Nat.le_refl _) _ | exact ((Below.refl _ _).alloc (Nat.le_refl _) _).alloc (by simp) _)) (by omega)).mono ?_); (rintro e w8 ⟨r1a, r1n, r1c, r1b, r1m, r1d, rfl, hO, hO', hD, hB⟩; have hB_8 : Below v7.heap.size v7 w8 := (by first | exact hB | exact below_drew hB | exact bel_alloc hB | exact below_drew (bel_alloc hB) | exact bel_alloc (below_drew hB) | exact bel_alloc (bel_alloc hB)); have A_8 := A_7.next hB_8; have cA_8_0 : _ = some (Value.bool s1) := A_8.cell 0; have cA_8_1 : _ = some (Value.slice a1 n1' c1) := A_8.cell 1; have cA_8_2 : _ = some (Value.slice b1 m1' d1) := A_8.cell 2; have B_8 := B_7.next hB_8; have cB_8_0 : _ = some (Value.bool s2) := B_8.cell 0; have cB_8_1 : _ = some (Value.slice a2 n2' c2) := B_8.cell 1; have cB_8_2 : _ = some (Value.slice b2 m2' d2) := B_8.cell 2; have C_8 := C_7.next hB_8; have cC_8_0 : _ = some (Value.bool s3) := C_8.cell 0; have cC_8_1 : _ = some (Value.slice a3 n3' c3) := C_8.cell 1; have cC_8_2 : _ = some (Value.slice b3 m3' d3) := C_8.cell 2; have Q1_8 := Q1_7.below hB_8; have Q2_8 := Q2_7.below hB_8; have Q3_8 := Q3_7.below hB_8; have hbC_8 := hbC_7.next hB_8; have hbel_8 := hbel_7.next hB_8; have hsz_8 := hB_8.size; clear A_7 cA_7_0 cA_7_1 cA_7_2 B_7 cB_7_0 cB_7_1 cB_7_2 C_7 cC_7_0 cC_7_1 cC_7_2 Q1_7 Q2_7 Q3_7 hbC_7 hbel_7 hB_8; have Or1_8 := hO; have ltOr1 := hO.ltB; have Pr1_8 := hO'; have ltPr1 := hO'.ltB; clear hO hO' hD; try clear hB)))
        | (go_at_call 42; ((with_reducible refine (qadd (Q2_8.below (by first | exact Below.refl _ _ | exact (Below.refl _ _).drew | exact (Below.refl _ _).alloc (Nat.le_refl _) _ | exact ((Below.refl _ _).alloc (Nat.le_refl _) _).drew | exact (Below.refl _ _).drew.alloc (Nat.le_refl _) _ | exact ((Below.refl _ _).alloc (Nat.le_refl _) _).alloc (by simp) _)) (by omega) (Q1_8.below (by first | exact Below.refl _ _ | exact (Below.refl _ _).drew | exact (Below.refl _ _).alloc (Nat.le_refl _) _ | exact ((Below.refl _ _).alloc (Nat.le_refl _) _).drew | exact (Below.refl _ _).drew.alloc (Nat.le_refl _) _ | exact ((Below.refl _ _).alloc (Nat.le_refl _) _).alloc (by simp) _)) (by omega)).mono ?_); (rintro e w9 ⟨r2a, r2n, r2c, r2b, r2m, r2d, rfl, hO, hO', hD, hB⟩; have hB_9 : Below w8.heap.size w8 w9 := (by first | exact hB | exact below_drew hB | exact bel_alloc hB | exact below_drew (bel_alloc hB) | exact bel_alloc (below_drew hB) | exact bel_alloc (bel_alloc hB)); have A_9 := A_8.next hB_9; have cA_9_0 : _ = some (Value.bool s1) := A_9.cell 0; have cA_9_1 : _ = some (Value.slice a1 n1' c1) := A_9.cell 1; have cA_9_2 : _ = some (Value.slice b1 m1' d1) := A_9.cell 2; have B_9 := B_8.next hB_9; have cB_9_0 : _ = some (Value.bool s2) := B_9.cell 0; have cB_9_1 : _ = some (Value.slice a2 n2' c2) := B_9.cell 1; have cB_9_2 : _ = some (Value.slice b2 m2' d2) := B_9.cell 2; have C_9 := C_8.next hB_9; have cC_9_0 : _ = some (Value.bool s3) := C_9.cell 0; have cC_9_1 : _ = some (Value.slice a3 n3' c3) := C_9.cell 1; have cC_9_2 : _ = some (Value.slice b3 m3' d3) := C_9.cell 2; have Q1_9 := Q1_8.below hB_9; have Q2_9 := Q2_8.below hB_9; have Q3_9 := Q3_8.below hB_9; have hbC_9 := hbC_8.next hB_9; have Or1_9 := Or1_8.below hB_9; have Pr1_9 := Pr1_8.below hB_9; have hbel_9 := hbel_8.next hB_9; have hsz_9 := hB_9.size; clear A_8 cA_8_0 cA_8_1 cA_8_2 B_8 cB_8_0 cB_8_1 cB_8_2 C_8 cC_8_0 cC_8_1 cC_8_2 Q1_8 Q2_8 Q3_8 hbC_8 Or1_8 Pr1_8 hbel_8 hB_9; have Or2_9 := hO; have ltOr2 := hO.ltB; have Pr2_9 := hO'; have ltPr2 := hO'.ltB; clear hO hO' hD; try clear hB)))
        | (go_at_call 41; ((with_reducible refine (falike (Or1_9.below (by first | exact Below.refl _ _ | exact (Below.refl _ _).drew | exact (Below.refl _ _).alloc (Nat.le_refl _) _ | exact ((Below.refl _ _).alloc (Nat.le_refl _) _).drew | exact (Below.refl _ _).drew.alloc (Nat.le_refl _) _ | exact ((Below.refl _ _).alloc (Nat.le_refl _) _).alloc (by simp) _)) (Pr1_9.below (by first | exact Below.refl _ _ | exact (Below.refl _ _).drew | exact (Below.refl _ _).alloc (Nat.le_refl _) _ | exact ((Below.refl _ _).alloc (Nat.le_refl _) _).drew | exact (Below.refl _ _).drew.alloc (Nat.le_refl _) _ | exact ((Below.refl _ _).alloc (Nat.le_refl _) _).alloc (by simp) _)) (Or2_9.below (by first | exact Below.refl _ _ | exact (Below.refl _ _).drew | exact (Below.refl _ _).alloc (Nat.le_refl _) _ | exact ((Below.refl _ _).alloc (Nat.le_refl _) _).drew | exact (Below.refl _ _).drew.alloc (Nat.le_refl _) _ | exact ((Below.refl _ _).alloc (Nat.le_refl _) _).alloc (by simp) _)) (Pr2_9.below (by first | exact Below.refl _ _ | exact (Below.refl _ _).drew | exact (Below.refl _ _).alloc (Nat.le_refl _) _ | exact ((Below.refl _ _).alloc (Nat.le_refl _) _).drew | exact (Below.refl _ _).drew.alloc (Nat.le_refl _) _ | exact ((Below.refl _ _).alloc (Nat.le_refl _) _).alloc (by simp) _)) (hx.out.add hy.out) (by omega) (Rat.add_comm _ _)).mono ?_); (rintro e w10 ⟨rfl, hB⟩; have hB_10 : Below w9.heap.size w9 w10 := (by first | exact hB | exact below_drew hB | exact bel_alloc hB | exact below_drew (bel_alloc hB) | exact bel_alloc (below_drew hB) | exact bel_alloc (bel_alloc hB)); have A_10 := A_9.next hB_10; have cA_10_0 : _ = some (Value.bool s1) := A_10.cell 0; have cA_10_1 : _ = some (Value.slice a1 n1' c1) := A_10.cell 1; have cA_10_2 : _ = some (Value.slice b1 m1' d1) := A_10.cell 2; have B_10 := B_9.next hB_10; have cB_10_0 : _ = some (Value.bool s2) := B_10.cell 0; have cB_10_1 : _ = some (Value.slice a2 n2' c2) := B_10.cell 1; have cB_10_2 : _ = some (Value.slice b2 m2' d2) := B_10.cell 2; have C_10 := C_9.next hB_10; have cC_10_0 : _ = some (Value.bool s3) := C_10.cell 0; have cC_10_1 : _ = some (Value.slice a3 n3' c3) := C_10.cell 1; have cC_10_2 : _ = some (Value.slice b3 m3' d3) := C_10.cell 2; have Q1_10 := Q1_9.below hB_10; have Q2_10 := Q2_9.below hB_10; have Q3_10 := Q3_9.below hB_10; have hbC_10 := hbC_9.next hB_10; have Or1_10 := Or1_9.below hB_10; have Pr1_10 := Pr1_9.below hB_10; have Or2_10 := Or2_9.below hB_10; have Pr2_10 := Pr2_9.below hB_10; have hbel_10 := hbel_9.next hB_10; have hsz_10 := hB_10.size; clear A_9 cA_9_0 cA_9_1 cA_9_2 B_9 cB_9_0 cB_9_1 cB_9_2 C_9 cC_9_0 cC_9_1 cC_9_2 Q1_9 Q2_9 Q3_9 hbC_9 Or1_9 Pr1_9 Or2_9 Pr2_9 hbel_9 hB_10; try clear hB)))
        | (go_at_call 42; ((with_reducible refine (qadd (Q1_10.below (by first | exact Below.refl _ _ | exact (Below.refl _ _).drew | exact (Below.refl _ _).alloc (Nat.le_refl _) _ | exact ((Below.refl _ _).alloc (Nat.le_refl _) _).drew | exact (Below.refl _ _).drew.alloc (Nat.le_refl _) _ | exact ((Below.refl _ _).alloc (Nat.le_refl _) _).alloc (by simp) _)) (by omega) (Q2_10.below (by first | exact Below.refl _ _ | exact (Below.refl _ _).drew | exact (Below.refl _ _).alloc (Nat.le_refl _) _ | exact ((Below.refl _ _).alloc (Nat.le_refl _) _).drew | exact (Below.refl _ _).drew.alloc (Nat.le_refl _) _ | exact ((Below.refl _ _).alloc (Nat.le_refl _) _).alloc (by simp) _)) (by omega)).mono ?_); (rintro e w11 ⟨r3a, r3n, r3c, r3b, r3m, r3d, rfl, hO, hO', hD, hB⟩; have hB_11 : Below w10.heap.size w10 w11 := (by first | exact hB | exact below_drew hB | exact bel_alloc hB | exact below_drew (bel_alloc hB) | exact bel_alloc (below_drew hB) | exact bel_alloc (bel_alloc hB)); have A_11 := A_10.next hB_11; have cA_11_0 : _ = some (Value.bool s1) := A_11.cell 0; have cA_11_1 : _ = some (Value.slice a1 n1' c1) := A_11.cell 1; have cA_11_2 : _ = some (Value.slice b1 m1' d1) := A_11.cell 2; have B_11 := B_10.next hB_11; have cB_11_0 : _ = some (Value.bool s2) := B_11.cell 0; have cB_11_1 : _ = some (Value.slice a2 n2' c2) := B_11.cell 1; have cB_11_2 : _ = some (Value.slice b2 m2' d2) := B_11.cell 2; have C_11 := C_10.next hB_11; have cC_11_0 : _ = some (Value.bool s3) := C_11.cell 0; have cC_11_1 : _ = some (Value.slice a3 n3' c3) := C_11.cell 1; have cC_11_2 : _ = some (Value.slice b3 m3' d3) := C_11.cell 2; have Q1_11 := Q1_10.below hB_11; have Q2_11 := Q2_10.below hB_11; have Q3_11 := Q3_10.below hB_11; have hbC_11 := hbC_10.next hB_11; have Or1_11 := Or1_10.below hB_11; have Pr1_11 := Pr1_10.below hB_11; have Or2_11 := Or2_10.below hB_11; have Pr2_11 := Pr2_10.below hB_11; have hbel_11 := hbel_10.next hB_11; have hsz_11 := hB_11.size; clear A_10 cA_10_0 cA_10_1 cA_10_2 B_10 cB_10_0 cB_10_1 cB_10_2 C_10 cC_10_0 cC_10_1 cC_10_2 Q1_10 Q2_10 Q3_10 hbC_10 Or1_10 Pr1_10 Or2_10 Pr2_10 hbel_10 hB_11; have Or3_11 := hO; have ltOr3 := hO.ltB; have Pr3_11 := hO'; have ltPr3 := hO'.ltB; clear hO hO' hD; try clear hB)))
        | (go_at_call 42; ((with_reducible refine (qadd ((Or3_11.below (by first | exact Below.refl _ _ | exact (Below.refl _ _).drew | exact (Below.refl _ _).alloc (Nat.le_refl _) _ | exact ((Below.refl _ _).alloc (Nat.le_refl _) _).drew | exact (Below.refl _ _).drew.alloc (Nat.le_refl _) _ | exact ((Below.refl _ _).alloc (Nat.le_refl _) _).alloc (by simp) _)).rdQ (Pr3_11.below (by first | exact Below.refl _ _ | exact (Below.refl _ _).drew | exact (Below.refl _ _).alloc (Nat.le_refl _) _ | exact ((Below.refl _ _).alloc (Nat.le_refl _) _).drew | exact (Below.refl _ _).drew.alloc (Nat.le_refl _) _ | exact ((Below.refl _ _).alloc (Nat.le_refl _) _).alloc (by simp) _)) (hx.out.add hy.out)) (by omega) (Q3_11.below (by first | exact Below.refl _ _ | exact (Below.refl _ _).drew | exact (Below.refl _ _).alloc (Nat.le_refl _) _ | exact ((Below.refl _ _).alloc (Nat.le_refl _) _).drew | exact (Below.refl _ _).drew.alloc (Nat.le_refl _) _ | exact ((Below.refl _ _).alloc (Nat.le_refl _) _).alloc (by simp) _)) (by omega)).mono ?_); (rintro e w12 ⟨r4a, r4n, r4c, r4b, r4m, r4d, rfl, hO, hO', hD, hB⟩; have hB_12 : Below w11.heap.size w11 w12 := (by first | exact hB | exact below_drew hB | exact bel_alloc hB | exact below_drew (bel_alloc hB) | exact bel_alloc (below_drew hB) | exact bel_alloc (bel_alloc hB)); have A_12 := A_11.next hB_12; have cA_12_0 : _ = some (Value.bool s1) := A_12.cell 0; have cA_12_1 : _ = some (Value.slice a1 n1' c1) := A_12.cell 1; have cA_12_2 : _ = some (Value.slice b1 m1' d1) := A_12.cell 2; have B_12 := B_11.next hB_12; have cB_12_0 : _ = some (Value.bool s2) := B_12.cell 0; have cB_12_1 : _ = some (Value.slice a2 n2' c2) := B_12.cell 1; have cB_12_2 : _ = some (Value.slice b2 m2' d2) := B_12.cell 2; have C_12 := C_11.next hB_12; have cC_12_0 : _ = some (Value.bool s3) := C_12.cell 0; have cC_12_1 : _ = some (Value.slice a3 n3' c3) := C_12.cell 1; have cC_12_2 : _ = some (Value.slice b3 m3' d3) := C_12.cell 2; have Q1_12 := Q1_11.below hB_12; have Q2_12 := Q2_11.below hB_12; have Q3_12 := Q3_11.below hB_12; have hbC_12 := hbC_11.next hB_12; have Or1_12 := Or1_11.below hB_12; have Pr1_12 := Pr1_11.below hB_12; have Or2_12 := Or2_11.below hB_12; have Pr2_12 := Pr2_11.below hB_12; have Or3_12 := Or3_11.below hB_12; have Pr3_12 := Pr3_11.below hB_12; have hbel_12 := hbel_11.next hB_12; have hsz_12 := hB_12.size; clear A_11 cA_11_0 cA_11_1 cA_11_2 B_11 cB_11_0 cB_11_1 cB_11_2 C_11 cC_11_0 cC_11_1 cC_11_2 Q1_11 Q2_11 Q3_11 hbC_11 Or1_11 Pr1_11 Or2_11 Pr2_11 Or3_11 Pr3_11 hbel_11 hB_12; have Or4_12 := hO; have ltOr4 := hO.ltB; have Pr4_12 := hO'; have ltPr4 := hO'.ltB; clear hO hO' hD; try clear hB)))
        | (go_at_call 42; ((with_reducible refine (qadd (Q2_12.below (by first | exact Below.refl _ _ | exact (Below.refl _ _).drew | exact (Below.refl _ _).alloc (Nat.le_refl _) _ | exact ((Below.refl _ _).alloc (Nat.le_refl _) _).drew | exact (Below.refl _ _).drew.alloc (Nat.le_refl _) _ | exact ((Below.refl _ _).alloc (Nat.le_refl _) _).alloc (by simp) _)) (by omega) (Q3_12.below (by first | exact Below.refl _ _ | exact (Below.refl _ _).drew | exact (Below.refl _ _).alloc (Nat.le_refl _) _ | exact ((Below.refl _ _).alloc (Nat.le_refl _) _).drew | exact (Below.refl _ _).drew.alloc (Nat.le_refl _) _ | exact ((Below.refl _ _).alloc (Nat.le_refl _) _).alloc (by simp) _)) (by omega)).mono ?_); (rintro e w13 ⟨r5a, r5n, r5c, r5b, r5m, r5d, rfl, hO, hO', hD, hB⟩; have hB_13 : Below w12.heap.size w12 w13 := (by first | exact hB | exact below_drew hB | exact bel_alloc hB | exact below_drew (bel_alloc hB) | exact bel_alloc (below_drew hB) | exact bel_alloc (bel_alloc hB)); have A_13 := A_12.next hB_13; have cA_13_0 : _ = some (Value.bool s1) := A_13.cell 0; have cA_13_1 : _ = some (Value.slice a1 n1' c1) := A_13.cell 1; have cA_13_2 : _ = some (Value.slice b1 m1' d1) := A_13.cell 2; have B_13 := B_12.next hB_13; have cB_13_0 : _ = some (Value.bool s2) := B_13.cell 0; have cB_13_1 : _ = some (Value.slice a2 n2' c2) := B_13.cell 1; have cB_13_2 : _ = some (Value.slice b2 m2' d2) := B_13.cell 2; have C_13 := C_12.next hB_13; have cC_13_0 : _ = some (Value.bool s3) := C_13.cell 0; have cC_13_1 : _ = some (Value.slice a3 n3' c3) := C_13.cell 1; have cC_13_2 : _ = some (Value.slice b3 m3' d3) := C_13.cell 2; have Q1_13 := Q1_12.below hB_13; have Q2_13 := Q2_12.below hB_13; have Q3_13 := Q3_12.below hB_13; have hbC_13 := hbC_12.next hB_13; have Or1_13 := Or1_12.below hB_13; have Pr1_13 := Pr1_12.below hB_13; have Or2_13 := Or2_12.below hB_13; have Pr2_13 := Pr2_12.below hB_13; have Or3_13 := Or3_12.below hB_13; have Pr3_13 := Pr3_12.below hB_13; have Or4_13 := Or4_12.below hB_13; have Pr4_13 := Pr4_12.below hB_13; have hbel_13 := hbel_12.next hB_13; have hsz_13 := hB_13.size; clear A_12 cA_12_0 cA_12_1 cA_12_2 B_12 cB_12_0 cB_12_1 cB_12_2 C_12 cC_12_0 cC_12_1 cC_12_2 Q1_12 Q2_12 Q3_12 hbC_12 Or1_12 Pr1_12 Or2_12 Pr2_12 Or3_12 Pr3_12 Or4_12 Pr4_12 hbel_12 hB_13; have Or5_13 := hO; have ltOr5 := hO.ltB; have Pr5_13 := hO'; have ltPr5 := hO'.ltB; clear hO hO' hD; try clear hB)))
        | (go_at_call 42; ((with_reducible refine (qadd (Q1_13.below (by first | exact Below.refl _ _ | exact (Below.refl _ _).drew | exact (Below.refl _ _).alloc (Nat.le_refl _) _ | exact ((Below.refl _ _).alloc (Nat.le_refl _) _).drew | exact (Below.refl _ _).drew.alloc (Nat.le_refl _) _ | exact ((Below.refl _ _).alloc (Nat.le_refl _) _).alloc (by simp) _)) (by omega) ((Or5_13.below (by first | exact Below.refl _ _ | exact (Below.refl _ _).drew | exact (Below.refl _ _).alloc (Nat.le_refl _) _ | exact ((Below.refl _ _).alloc (Nat.le_refl _) _).drew | exact (Below.refl _ _).drew.alloc (Nat.le_refl _) _ | exact ((Below.refl _ _).alloc (Nat.le_refl _) _).alloc (by simp) _)).rdQ (Pr5_13.below (by first | exact Below.refl _ _ | exact (Below.refl _ _).drew | exact (Below.refl _ _).alloc (Nat.le_refl _) _ | exact ((Below.refl _ _).alloc (Nat.le_refl _) _).drew | exact (Below.refl _ _).drew.alloc (Nat.le_refl _) _ | exact ((Below.refl _ _).alloc (Nat.le_refl _) _).alloc (by simp) _)) (hy.out.add hz.out)) (by omega)).mono ?_); (rintro e w14 ⟨r6a, r6n, r6c, r6b, r6m, r6d, rfl, hO, hO', hD, hB⟩; have hB_14 : Below w13.heap.size w13 w14 := (by first | exact hB | exact below_drew hB | exact bel_alloc hB | exact below_drew (bel_alloc hB) | exact bel_alloc (below_drew hB) | exact bel_alloc (bel_alloc hB)); have A_14 := A_13.next hB_14; have cA_14_0 : _ = some (Value.bool s1) := A_14.cell 0; have cA_14_1 : _ = some (Value.slice a1 n1' c1) := A_14.cell 1; have cA_14_2 : _ = some (Value.slice b1 m1' d1) := A_14.cell 2; have B_14 := B_13.next hB_14; have cB_14_0 : _ = some (Value.bool s2) := B_14.cell 0; have cB_14_1 : _ = some (Value.slice a2 n2' c2) := B_14.cell 1; have cB_14_2 : _ = some (Value.slice b2 m2' d2) := B_14.cell 2; have C_14 := C_13.next hB_14; have cC_14_0 : _ = some (Value.bool s3) := C_14.cell 0; have cC_14_1 : _ = some (Value.slice a3 n3' c3) := C_14.cell 1; have cC_14_2 : _ = some (Value.slice b3 m3' d3) := C_14.cell 2; have Q1_14 := Q1_13.below hB_14; have Q2_14 := Q2_13.below hB_14; have Q3_14 := Q3_13.below hB_14; have hbC_14 := hbC_13.next hB_14; have Or1_14 := Or1_13.below hB_14; have Pr1_14 := Pr1_13.below hB_14; have Or2_14 := Or2_13.below hB_14; have Pr2_14 := Pr2_13.below hB_14; have Or3_14 := Or3_13.below hB_14; have Pr3_14 := Pr3_13.below hB_14; have Or4_14 := Or4_13.below hB_14; have Pr4_14 := Pr4_13.below hB_14; have Or5_14 := Or5_13.below hB_14; have Pr5_14 := Pr5_13.below hB_14; have hbel_14 := hbel_13.next hB_14; have hsz_14 := hB_14.size; clear A_13 cA_13_0 cA_13_1 cA_13_2 B_13 cB_13_0 cB_13_1 cB_13_2 C_13 cC_13_0 cC_13_1 cC_13_2 Q1_13 Q2_13 Q3_13 hbC_13 Or1_13 Pr1_13 Or2_13 Pr2_13 Or3_13 Pr3_13 Or4_13 Pr4_13 Or5_13 Pr5_13 hbel_13 hB_14; have Or6_14 := hO; have ltOr6 := hO.ltB; have Pr6_14 := hO'; have ltPr6 := hO'.ltB; clear hO hO' hD; try clear hB)))
        | (go_at_call 41; ((with_reducible refine (falike (Or4_14.below (by first | exact Below.refl _ _ | exact (Below.refl _ _).drew | exact (Below.refl _ _).alloc (Nat.le_refl _) _ | exact ((Below.refl _ _).alloc (Nat.le_refl _) _).drew | exact (Below.refl _ _).drew.alloc (Nat.le_refl _) _ | exact ((Below.refl _ _).alloc (Nat.le_refl _) _).alloc (by simp) _)) (Pr4_14.below (by first | exact Below.refl _ _ | exact (Below.refl _ _).drew | exact (Below.refl _ _).alloc (Nat.le_refl _) _ | exact ((Below.refl _ _).alloc (Nat.le_refl _) _).drew | exact (Below.refl _ _).drew.alloc (Nat.le_refl _) _ | exact ((Below.refl _ _).alloc (Nat.le_refl _) _).alloc (by simp) _)) (Or6_14.below (by first | exact Below.refl _ _ | exact (Below.refl _ _).drew | exact (Below.refl _ _).alloc (Nat.le_refl _) _ | exact ((Below.refl _ _).alloc (Nat.le_refl _) _).drew | exact (Below.refl _ _).drew.alloc (Nat.le_refl _) _ | exact ((Below.refl _ _).alloc (Nat.le_refl _) _).alloc (by simp) _)) (Pr6_14.below (by first | exact Below.refl _ _ | exact (Below.refl _ _).drew | exact (Below.refl _ _).alloc (Nat.le_refl _) _ | exact ((Below.refl _ _).alloc (Nat.le_refl _) _).drew | exact (Below.refl _ _).drew.alloc (Nat.le_refl _) _ | exact ((Below.refl _ _).alloc (Nat.le_refl _) _).alloc (by simp) _)) ((hx.out.add hy.out).add hz.out) (by omega) (Rat.add_assoc _ _ _)).mono ?_); (rintro e w15 ⟨rfl, hB⟩; have hB_15 : Below w14.heap.size w14 w15 := (by first | exact hB | exact below_drew hB | exact bel_alloc hB | exact below_drew (bel_alloc hB) | exact bel_alloc (below_drew hB) | exact bel_alloc (bel_alloc hB)); have A_15 := A_14.next hB_15; have cA_15_0 : _ = some (Value.bool s1) := A_15.cell 0; have cA_15_1 : _ = some (Value.slice a1 n1' c1) := A_15.cell 1; have cA_15_2 : _ = some (Value.slice b1 m1' d1) := A_15.cell 2; have B_15 := B_14.next hB_15; have cB_15_0 : _ = some (Value.bool s2) := B_15.cell 0; have cB_15_1 : _ = some (Value.slice a2 n2' c2) := B_15.cell 1; have cB_15_2 : _ = some (Value.slice b2 m2' d2) := B_15.cell 2; have C_15 := C_14.next hB_15; have cC_15_0 : _ = some (Value.bool s3) := C_15.cell 0; have cC_15_1 : _ = some (Value.slice a3 n3' c3) := C_15.cell 1; have cC_15_2 : _ = some (Value.slice b3 m3' d3) := C_15.cell 2; have Q1_15 := Q1_14.below hB_15; have Q2_15 := Q2_14.below hB_15; have Q3_15 := Q3_14.below hB_15; have hbC_15 := hbC_14.next hB_15; have Or1_15 := Or1_14.below hB_15; have Pr1_15 := Pr1_14.below hB_15; have Or2_15 := Or2_14.below hB_15; have Pr2_15 := Pr2_14.below hB_15; have Or3_15 := Or3_14.below hB_15; have Pr3_15 := Pr3_14.below hB_15; have Or4_15 := Or4_14.below hB_15; have Pr4_15 := Pr4_14.below hB_15; have Or5_15 := Or5_14.below hB_15; have Pr5_15 := Pr5_14.below hB_15; have Or6_15 := Or6_14.below hB_15; have Pr6_15 := Pr6_14.below hB_15; have hbel_15 := hbel_14.next hB_15; have hsz_15 := hB_15.size; clear A_14 cA_14_0 cA_14_1 cA_14_2 B_14 cB_14_0 cB_14_1 cB_14_2 C_14 cC_14_0 cC_14_1 cC_14_2 Q1_14 Q2_14 Q3_14 hbC_14 Or1_14 Pr1_14 Or2_14 Pr2_14 Or3_14 Pr3_14 Or4_14 Pr4_14 Or5_14 Pr5_14 Or6_14 Pr6_14 hbel_14 hB_15; try clear hB)))
        | (go_at_call 25; ((with_reducible refine (qsum (xs := ([⟨s1, a1, n1', c1, b1, m1', d1, x⟩, ⟨s2, a2, n2', c2, b2, m2', d2, y⟩, ⟨s3, a3, n3', c3, b3, m3', d3, z⟩] : List QI)) (by first | exact rdqs3 (blk_new' _ _ _ rfl) (Q1_15.below (by first | exact Below.refl _ _ | exact (Below.refl _ _).drew | exact (Below.refl _ _).alloc (Nat.le_refl _) _ | exact ((Below.refl _ _).alloc (Nat.le_refl _) _).drew | exact (Below.refl _ _).drew.alloc (Nat.le_refl _) _ | exact ((Below.refl _ _).alloc (Nat.le_refl _) _).alloc (by simp) _)) (Q2_15.below (by first | exact Below.refl _ _ | exact (Below.refl _ _).drew | exact (Below.refl _ _).alloc (Nat.le_refl _) _ | exact ((Below.refl _ _).alloc (Nat.le_refl _) _).drew | exact (Below.refl _ _).drew.alloc (Nat.le_refl _) _ | exact ((Below.refl _ _).alloc (Nat.le_refl _) _).alloc (by simp) _)) (Q3_15.below (by first | exact Below.refl _ _ | exact (Below.refl _ _).drew | exact (Below.refl _ _).alloc (Nat.le_refl _) _ | exact ((Below.refl _ _).alloc (Nat.le_refl _) _).drew | exact (Below.refl _ _).drew.alloc (Nat.le_refl _) _ | exact ((Below.refl _ _).alloc (Nat.le_refl _) _).alloc (by simp) _)) | exact rdqs3 ((blk_new' _ _ _ rfl).alloc _) (Q1_15.below (by first | exact Below.refl _ _ | exact (Below.refl _ _).drew | exact (Below.refl _ _).alloc (Nat.le_refl _) _ | exact ((Below.refl _ _).alloc (Nat.le_refl _) _).drew | exact (Below.refl _ _).drew.alloc (Nat.le_refl _) _ | exact ((Below.refl _ _).alloc (Nat.le_refl _) _).alloc (by simp) _)) (Q2_15.below (by first | exact Below.refl _ _ | exact (Below.refl _ _).drew | exact (Below.refl _ _).alloc (Nat.le_refl _) _ | exact ((Below.refl _ _).alloc (Nat.le_refl _) _).drew | exact (Below.refl _ _).drew.alloc (Nat.le_refl _) _ | exact ((Below.refl _ _).alloc (Nat.le_refl _) _).alloc (by simp) _)) (Q3_15.below (by first | exact Below.refl _ _ | exact (Below.refl _ _).drew | exact (Below.refl _ _).alloc (Nat.le_refl _) _ | exact ((Below.refl _ _).alloc (Nat.le_refl _) _).drew | exact (Below.refl _ _).drew.alloc (Nat.le_refl _) _ | exact ((Below.refl _ _).alloc (Nat.le_refl _) _).alloc (by simp) _)) | exact rdqs3 (blk_new' _ _ _ (by simp)) (Q1_15.below (by first | exact Below.refl _ _ | exact (Below.refl _ _).drew | exact (Below.refl _ _).alloc (Nat.le_refl _) _ | exact ((Below.refl _ _).alloc (Nat.le_refl _) _).drew | exact (Below.refl _ _).drew.alloc (Nat.le_refl _) _ | exact ((Below.refl _ _).alloc (Nat.le_refl _) _).alloc (by simp) _)) (Q2_15.below (by first | exact Below.refl _ _ | exact (Below.refl _ _).drew | exact (Below.refl _ _).alloc (Nat.le_refl _) _ | exact ((Below.refl _ _).alloc (Nat.le_refl _) _).drew | exact (Below.refl _ _).drew.alloc (Nat.le_refl _) _ | exact ((Below.refl _ _).alloc (Nat.le_refl _) _).alloc (by simp) _)) (Q3_15.below (by first | exact Below.refl _ _ | exact (Below.refl _ _).drew | exact (Below.refl _ _).alloc (Nat.le_refl _) _ | exact ((Below.refl _ _).alloc (Nat.le_refl _) _).drew | exact (Below.refl _ _).drew.alloc (Nat.le_refl _) _ | exact ((Below.refl _ _).alloc (Nat.le_refl _) _).alloc (by simp) _))) (by omega) (by omega)).mono ?_); (rw [show qsm [⟨s1, a1, n1', c1, b1, m1', d1, x⟩, ⟨s2, a2, n2', c2, b2, m2', d2, y⟩, ⟨s3, a3, n3', c3, b3, m3', d3, z⟩] 3 = x + y + z from qsm3 _ _ _]; rintro e w16 ⟨r7a, r7n, r7c, r7b, r7m, r7d, rfl, hO, hO', hD, hB⟩; have hB_16 : Below w15.heap.size w15 w16 := (by first | exact hB | exact below_drew hB | exact bel_alloc hB | exact below_drew (bel_alloc hB) | exact bel_alloc (below_drew hB) | exact bel_alloc (bel_alloc hB)); have A_16 := A_15.next hB_16; have cA_16_0 : _ = some (Value.bool s1) := A_16.cell 0; have cA_16_1 : _ = some (Value.slice a1 n1' c1) := A_16.cell 1; have cA_16_2 : _ = some (Value.slice b1 m1' d1) := A_16.cell 2; have B_16 := B_15.next hB_16; have cB_16_0 : _ = some (Value.bool s2) := B_16.cell 0; have cB_16_1 : _ = some (Value.slice a2 n2' c2) := B_16.cell 1; have cB_16_2 : _ = some (Value.slice b2 m2' d2) := B_16.cell 2; have C_16 := C_15.next hB_16; have cC_16_0 : _ = some (Value.bool s3) := C_16.cell 0; have cC_16_1 : _ = some (Value.slice a3 n3' c3) := C_16.cell 1; have cC_16_2 : _ = some (Value.slice b3 m3' d3) := C_16.cell 2; have Q1_16 := Q1_15.below hB_16; have Q2_16 := Q2_15.below hB_16; have Q3_16 := Q3_15.below hB_16; have hbC_16 := hbC_15.next hB_16; have Or1_16 := Or1_15.below hB_16; have Pr1_16 := Pr1_15.below hB_16; have Or2_16 := Or2_15.below hB_16; have Pr2_16 := Pr2_15.below hB_16; have Or3_16 := Or3_15.below hB_16; have Pr3_16 := Pr3_15.below hB_16; have Or4_16 := Or4_15.below hB_16; have Pr4_16 := Pr4_15.below hB_16; have Or5_16 := Or5_15.below hB_16; have Pr5_16 := Pr5_15.below hB_16; have Or6_16 := Or6_15.below hB_16; have Pr6_16 := Pr6_15.below hB_16; have hbel_16 := hbel_15.next hB_16; have hsz_16 := hB_16.size; clear A_15 cA_15_0 cA_15_1 cA_15_2 B_15 cB_15_0 cB_15_1 cB_15_2 C_15 cC_15_0 cC_15_1 cC_15_2 Q1_15 Q2_15 Q3_15 hbC_15 Or1_15 Pr1_15 Or2_15 Pr2_15 Or3_15 Pr3_15 Or4_15 Pr4_15 Or5_15 Pr5_15 Or6_15 Pr6_15 hbel_15 hB_16; (first | (have RW := ((blk_new' w15 #[Value.bool s3, Value.slice a3 n3' c3, Value.slice b3 m3' d3, Value.bool s1, Value.slice a1 n1' c1, Value.slice b1 m1' d1, Value.bool s2, Value.slice a2 n2' c2, Value.slice b2 m2' d2] 32 (g := w15.heap.size) rfl).alloc _).next hB) | (have RW := (blk_new' (w15.alloc (.cells #[Value.bool s1, Value.slice a1 n1' c1, Value.slice b1 m1' d1, Value.bool s2, Value.slice a2 n2' c2, Value.slice b2 m2' d2, Value.bool s3, Value.slice a3 n3' c3, Value.slice b3 m3' d3] 32)) #[Value.bool s3, Value.slice a3 n3' c3, Value.slice b3 m3' d3, Value.bool s1, Value.slice a1 n1' c1, Value.slice b1 m1' d1, Value.bool s2, Value.slice a2 n2' c2, Value.slice b2 m2' d2] 32 (g := w15.heap.size + 1) (by simp)).next hB) | skip); have Or7_16 := hO; have ltOr7 := hO.ltB; have Pr7_16 := hO'; have ltPr7 := hO'.ltB; clear hO hO' hD; try clear hB)))
        | (go_at_call 25; ((with_reducible refine (qsum (xs := ([⟨s3, a3, n3', c3, b3, m3', d3, z⟩, ⟨s1, a1, n1', c1, b1, m1', d1, x⟩, ⟨s2, a2, n2', c2, b2, m2', d2, y⟩] : List QI)) (by first | exact rdqs3 (RW) (Q3_16.below (by first | exact Below.refl _ _ | exact (Below.refl _ _).drew | exact (Below.refl _ _).alloc (Nat.le_refl _) _ | exact ((Below.refl _ _).alloc (Nat.le_refl _) _).drew | exact (Below.refl _ _).drew.alloc (Nat.le_refl _) _ | exact ((Below.refl _ _).alloc (Nat.le_refl _) _).alloc (by simp) _)) (Q1_16.below (by first | exact Below.refl _ _ | exact (Below.refl _ _).drew | exact (Below.refl _ _).alloc (Nat.le_refl _) _ | exact ((Below.refl _ _).alloc (Nat.le_refl _) _).drew | exact (Below.refl _ _).drew.alloc (Nat.le_refl _) _ | exact ((Below.refl _ _).alloc (Nat.le_refl _) _).alloc (by simp) _)) (Q2_16.below (by first | exact Below.refl _ _ | exact (Below.refl _ _).drew | exact (Below.refl _ _).alloc (Nat.le_refl _) _ | exact ((Below.refl _ _).alloc (Nat.le_refl _) _).drew | exact (Below.refl _ _).drew.alloc (Nat.le_refl _) _ | exact ((Below.refl _ _).alloc (Nat.le_refl _) _).alloc (by simp) _)) | exact rdqs3 (blk_new' _ _ _ rfl) (Q3_16.below (by first | exact Below.refl _ _ | exact (Below.refl _ _).drew | exact (Below.refl _ _).alloc (Nat.le_refl _) _ | exact ((Below.refl _ _).alloc (Nat.le_refl _) _).drew | exact (Below.refl _ _).drew.alloc (Nat.le_refl _) _ | exact ((Below.refl _ _).alloc (Nat.le_refl _) _).alloc (by simp) _)) (Q1_16.below (by first | exact Below.refl _ _ | exact (Below.refl _ _).drew | exact (Below.refl _ _).alloc (Nat.le_refl _) _ | exact ((Below.refl _ _).alloc (Nat.le_refl _) _).drew | exact (Below.refl _ _).drew.alloc (Nat.le_refl _) _ | exact ((Below.refl _ _).alloc (Nat.le_refl _) _).alloc (by simp) _)) (Q2_16.below (by first | exact Below.refl _ _ | exact (Below.refl _ _).drew | exact (Below.refl _ _).alloc (Nat.le_refl _) _ | exact ((Below.refl _ _).alloc (Nat.le_refl _) _).drew | exact (Below.refl _ _).drew.alloc (Nat.le_refl _) _ | exact ((Below.refl _ _).alloc (Nat.le_refl _) _).alloc (by simp) _)) | exact rdqs3 ((blk_new' _ _ _ rfl).alloc _) (Q3_16.below (by first | exact Below.refl _ _ | exact (Below.refl _ _).drew | exact (Below.refl _ _).alloc (Nat.le_refl _) _ | exact ((Below.refl _ _).alloc (Nat.le_refl _) _).drew | exact (Below.refl _ _).drew.alloc (Nat.le_refl _) _ | exact ((Below.refl _ _).alloc (Nat.le_refl _) _).alloc (by simp) _)) (Q1_16.below (by first | exact Below.refl _ _ | exact (Below.refl _ _).drew | exact (Below.refl _ _).alloc (Nat.le_refl _) _ | exact ((Below.refl _ _).alloc (Nat.le_refl _) _).drew | exact (Below.refl _ _).drew.alloc (Nat.le_refl _) _ | exact ((Below.refl _ _).alloc (Nat.le_refl _) _).alloc (by simp) _)) (Q2_16.below (by first | exact Below.refl _ _ | exact (Below.refl _ _).drew | exact (Below.refl _ _).alloc (Nat.le_refl _) _ | exact ((Below.refl _ _).alloc (Nat.le_refl _) _).drew | exact (Below.refl _ _).drew.alloc (Nat.le_refl _) _ | exact ((Below.refl _ _).alloc (Nat.le_refl _) _).alloc (by simp) _)) | exact rdqs3 (blk_new' _ _ _ (by simp)) (Q3_16.below (by first | exact Below.refl _ _ | exact (Below.refl _ _).drew | exact (Below.refl _ _).alloc (Nat.le_refl _) _ | exact ((Below.refl _ _).alloc (Nat.le_refl _) _).drew | exact (Below.refl _ _).drew.alloc (Nat.le_refl _) _ | exact ((Below.refl _ _).alloc (Nat.le_refl _) _).alloc (by simp) _)) (Q1_16.below (by first | exact Below.refl _ _ | exact (Below.refl _ _).drew | exact (Below.refl _ _).alloc (Nat.le_refl _) _ | exact ((Below.refl _ _).alloc (Nat.le_refl _) _).drew | exact (Below.refl _ _).drew.alloc (Nat.le_refl _) _ | exact ((Below.refl _ _).alloc (Nat.le_refl _) _).alloc (by simp) _)) (Q2_16.below (by first | exact Below.refl _ _ | exact (Below.refl _ _).drew | exact (Below.refl _ _).alloc (Nat.le_refl _) _ | exact ((Below.refl _ _).alloc (Nat.le_refl _) _).drew | exact (Below.refl _ _).drew.alloc (Nat.le_refl _) _ | exact ((Below.refl _ _).alloc (Nat.le_refl _) _).alloc (by simp) _))) (by omega) (by omega)).mono ?_); (rw [show qsm [⟨s3, a3, n3', c3, b3, m3', d3, z⟩, ⟨s1, a1, n1', c1, b1, m1', d1, x⟩, ⟨s2, a2, n2', c2, b2, m2', d2, y⟩] 3 = z + x + y from qsm3 _ _ _]; rintro e w17 ⟨r8a, r8n, r8c, r8b, r8m, r8d, rfl, hO, hO', hD, hB⟩; have hB_17 : Below w16.heap.size w16 w17 := (by first | exact hB | exact below_drew hB | exact bel_alloc hB | exact below_drew (bel_alloc hB) | exact bel_alloc (below_drew hB) | exact bel_alloc (bel_alloc hB)); have A_17 := A_16.next hB_17; have cA_17_0 : _ = some (Value.bool s1) := A_17.cell 0; have cA_17_1 : _ = some (Value.slice a1 n1' c1) := A_17.cell 1; have cA_17_2 : _ = some (Value.slice b1 m1' d1) := A_17.cell 2; have B_17 := B_16.next hB_17; have cB_17_0 : _ = some (Value.bool s2) := B_17.cell 0; have cB_17_1 : _ = some (Value.slice a2 n2' c2) := B_17.cell 1; have cB_17_2 : _ = some (Value.slice b2 m2' d2) := B_17.cell 2; have C_17 := C_16.next hB_17; have cC_17_0 : _ = some (Value.bool s3) := C_17.cell 0; have cC_17_1 : _ = some (Value.slice a3 n3' c3) := C_17.cell 1; have cC_17_2 : _ = some (Value.slice b3 m3' d3) := C_17.cell 2; have Q1_17 := Q1_16.below hB_17; have Q2_17 := Q2_16.below hB_17; have Q3_17 := Q3_16.below hB_17; have hbC_17 := hbC_16.next hB_17; have Or1_17 := Or1_16.below hB_17; have Pr1_17 := Pr1_16.below hB_17; have Or2_17 := Or2_16.below hB_17; have Pr2_17 := Pr2_16.below hB_17; have Or3_17 := Or3_16.below hB_17; have Pr3_17 := Pr3_16.below hB_17; have Or4_17 := Or4_16.below hB_17; have Pr4_17 := Pr4_16.below hB_17; have Or5_17 := Or5_16.below hB_17; have Pr5_17 := Pr5_16.below hB_17; have Or6_17 := Or6_16.below hB_17; have Pr6_17 := Pr6_16.below hB_17; have Or7_17 := Or7_16.below hB_17; have Pr7_17 := Pr7_16.below hB_17; have hbel_17 := hbel_16.next hB_17; have hsz_17 := hB_17.size; clear A_16 cA_16_0 cA_16_1 cA_16_2 B_16 cB_16_0 cB_16_1 cB_16_2 C_16 cC_16_0 cC_16_1 cC_16_2 Q1_16 Q2_16 Q3_16 hbC_16 Or1_16 Pr1_16 Or2_16 Pr2_16 Or3_16 Pr3_16 Or4_16 Pr4_16 Or5_16 Pr5_16 Or6_16 Pr6_16 Or7_16 Pr7_16 hbel_16 hB_17; have Or8_17 := hO; have ltOr8 := hO.ltB; have Pr8_17 := hO'; have ltPr8 := hO'.ltB; clear hO hO' hD; try clear hB)))
        | (go_at_call 41; ((with_reducible refine (falike (Or7_17.below (by first | exact Below.refl _ _ | exact (Below.refl _ _).drew | exact (Below.refl _ _).alloc (Nat.le_refl _) _ | exact ((Below.refl _ _).alloc (Nat.le_refl _) _).drew | exact (Below.refl _ _).drew.alloc (Nat.le_refl _) _ | exact ((Below.refl _ _).alloc (Nat.le_refl _) _).alloc (by simp) _)) (Pr7_17.below (by first | exact Below.refl _ _ | exact (Below.refl _ _).drew | exact (Below.refl _ _).alloc (Nat.le_refl _) _ | exact ((Below.refl _ _).alloc (Nat.le_refl _) _).drew | exact (Below.refl _ _).drew.alloc (Nat.le_refl _) _ | exact ((Below.refl _ _).alloc (Nat.le_refl _) _).alloc (by simp) _)) (Or8_17.below (by first | exact Below.refl _ _ | exact (Below.refl _ _).drew | exact (Below.refl _ _).alloc (Nat.le_refl _) _ | exact ((Below.refl _ _).alloc (Nat.le_refl _) _).drew | exact (Below.refl _ _).drew.alloc (Nat.le_refl _) _ | exact ((Below.refl _ _).alloc (Nat.le_refl _) _).alloc (by simp) _)) (Pr8_17.below (by first | exact Below.refl _ _ | exact (Below.refl _ _).drew | exact (Below.refl _ _).alloc (Nat.le_refl _) _ | exact ((Below.refl _ _).alloc (Nat.le_refl _) _).drew | exact (Below.refl _ _).drew.alloc (Nat.le_refl _) _ | exact ((Below.refl _ _).alloc (Nat.le_refl _) _).alloc (by simp) _)) ((hx.out.add hy.out).add hz.out) (by omega) (by rw [Rat.add_assoc z x y, Rat.add_comm z (x + y)])).mono ?_); (rintro e w18 ⟨rfl, hB⟩; have hB_18 : Below w17.heap.size w17 w18 := (by first | exact hB | exact below_drew hB | exact bel_alloc hB | exact below_drew (bel_alloc hB) | exact bel_alloc (below_drew hB) | exact bel_alloc (bel_alloc hB)); have A_18 := A_17.next hB_18; have cA_18_0 : _ = some (Value.bool s1) := A_18.cell 0; have cA_18_1 : _ = some (Value.slice a1 n1' c1) := A_18.cell 1; have cA_18_2 : _ = some (Value.slice b1 m1' d1) := A_18.cell 2; have B_18 := B_17.next hB_18; have cB_18_0 : _ = some (Value.bool s2) := B_18.cell 0; have cB_18_1 : _ = some (Value.slice a2 n2' c2) := B_18.cell 1; have cB_18_2 : _ = some (Value.slice b2 m2' d2) := B_18.cell 2; have C_18 := C_17.next hB_18; have cC_18_0 : _ = some (Value.bool s3) := C_18.cell 0; have cC_18_1 : _ = some (Value.slice a3 n3' c3) := C_18.cell 1; have cC_18_2 : _ = some (Value.slice b3 m3' d3) := C_18.cell 2; have Q1_18 := Q1_17.below hB_18; have Q2_18 := Q2_17.below hB_18; have Q3_18 := Q3_17.below hB_18; have hbC_18 := hbC_17.next hB_18; have Or1_18 := Or1_17.below hB_18; have Pr1_18 := Pr1_17.below hB_18; have Or2_18 := Or2_17.below hB_18; have Pr2_18 := Pr2_17.below hB_18; have Or3_18 := Or3_17.below hB_18; have Pr3_18 := Pr3_17.below hB_18; have Or4_18 := Or4_17.below hB_18; have Pr4_18 := Pr4_17.below hB_18; have Or5_18 := Or5_17.below hB_18; have Pr5_18 := Pr5_17.below hB_18; have Or6_18 := Or6_17.below hB_18; have Pr6_18 := Pr6_17.below hB_18; have Or7_18 := Or7_17.below hB_18; have Pr7_18 := Pr7_17.below hB_18; have Or8_18 := Or8_17.below hB_18; have Pr8_18 := Pr8_17.below hB_18; have hbel_18 := hbel_17.next hB_18; have hsz_18 := hB_18.size; clear A_17 cA_17_0 cA_17_1 cA_17_2 B_17 cB_17_0 cB_17_1 cB_17_2 C_17 cC_17_0 cC_17_1 cC_17_2 Q1_17 Q2_17 Q3_17 hbC_17 Or1_17 Pr1_17 Or2_17 Pr2_17 Or3_17 Pr3_17 Or4_17 Pr4_17 Or5_17 Pr5_17 Or6_17 Pr6_17 Or7_17 Pr7_17 Or8_17 Pr8_17 hbel_17 hB_18; try clear hB))))
    all_goals (go_wp2_with fail; go_meet; exact ⟨rfl, hbC_18⟩)
  case rest =>
    obtain ⟨rfl, hBc⟩ := hcut
    have hB_8 : Below v7.heap.size v7 wc := hBc
    have A_8 := A_7.next hB_8
    have cA_8_0 : _ = some (Value.bool s1) := A_8.cell 0
    have cA_8_1 : _ = some (Value.slice a1 n1' c1) := A_8.cell 1
    have cA_8_2 : _ = some (Value.slice b1 m1' d1) := A_8.cell 2
    have B_8 := B_7.next hB_8
    have cB_8_0 : _ = some (Value.bool s2) := B_8.cell 0
    have cB_8_1 : _ = some (Value.slice a2 n2' c2) := B_8.cell 1
    have cB_8_2 : _ = some (Value.slice b2 m2' d2) := B_8.cell 2
    have C_8 := C_7.next hB_8
    have cC_8_0 : _ = some (Value.bool s3) := C_8.cell 0
    have cC_8_1 : _ = some (Value.slice a3 n3' c3) := C_8.cell 1
    have cC_8_2 : _ = some (Value.slice b3 m3' d3) := C_8.cell 2
    have Q1_8 := Q1_7.below hB_8
    have Q2_8 := Q2_7.below hB_8
    have Q3_8 := Q3_7.below hB_8
    have hbel_8 := hbel_7.next hB_8
    have hsz_8 := hB_8.size
    clear A_7 cA_7_0 cA_7_1 cA_7_2 B_7 cB_7_0 cB_7_1 cB_7_2 C_7 cC_7_0 cC_7_1 cC_7_2 Q1_7 Q2_7 Q3_7 hbel_7 hB_8
    clear hBc
    obtain ⟨wc8, hwc⟩ : ∃ y : World, y = wc := ⟨_, rfl⟩
    subst hwc
    go_wp2_with fail
    go_region_held3 (fun w' => w'.cell? ⟨w2.heap.size, 0, none⟩ = some (Value.bool s1) ∧ w'.cell? ⟨w2.heap.size, 1, none⟩ = some (Value.slice a1 n1' c1) ∧ w'.cell? ⟨w2.heap.size, 2, none⟩ = some (Value.slice b1 m1' d1) ∧ w'.cell? ⟨w4.heap.size, 0, none⟩ = some (Value.bool s2) ∧ w'.cell? ⟨w4.heap.size, 1, none⟩ = some (Value.slice a2 n2' c2) ∧ w'.cell? ⟨w4.heap.size, 2, none⟩ = some (Value.slice b2 m2' d2) ∧ w'.cell? ⟨w6.heap.size, 0, none⟩ = some (Value.bool s3) ∧ w'.cell? ⟨w6.heap.size, 1, none⟩ = some (Value.slice a3 n3' c3) ∧ w'.cell? ⟨w6.heap.size, 2, none⟩ = some (Value.slice b3 m3' d3))
      (first | exact ⟨cA_8_0, cA_8_1, cA_8_2, cB_8_0, cB_8_1, cB_8_2, cC_8_0, cC_8_1, cC_8_2⟩ | exact ⟨cA_9_0, cA_9_1, cA_9_2, cB_9_0, cB_9_1, cB_9_2, cC_9_0, cC_9_1, cC_9_2⟩ | exact ⟨cA_10_0, cA_10_1, cA_10_2, cB_10_0, cB_10_1, cB_10_2, cC_10_0, cC_10_1, cC_10_2⟩ | exact ⟨cA_11_0, cA_11_1, cA_11_2, cB_11_0, cB_11_1, cB_11_2, cC_11_0, cC_11_1, cC_11_2⟩ | exact ⟨cA_12_0, cA_12_1, cA_12_2, cB_12_0, cB_12_1, cB_12_2, cC_12_0, cC_12_1, cC_12_2⟩ | exact ⟨cA_13_0, cA_13_1, cA_13_2, cB_13_0, cB_13_1, cB_13_2, cC_13_0, cC_13_1, cC_13_2⟩ | exact ⟨cA_14_0, cA_14_1, cA_14_2, cB_14_0, cB_14_1, cB_14_2, cC_14_0, cC_14_1, cC_14_2⟩ | exact ⟨cA_15_0, cA_15_1, cA_15_2, cB_15_0, cB_15_1, cB_15_2, cC_15_0, cC_15_1, cC_15_2⟩ | exact ⟨cA_16_0, cA_16_1, cA_16_2, cB_16_0, cB_16_1, cB_16_2, cC_16_0, cC_16_1, cC_16_2⟩ | go_keep)
      (first
        | (go_at_call 43; ((with_reducible refine (qmul (Q1_8.below (by first | exact Below.refl _ _ | exact (Below.refl _ _).drew | exact (Below.refl _ _).alloc (Nat.le_refl _) _ | exact ((Below.refl _ _).alloc (Nat.le_refl _) _).drew | exact (Below.refl _ _).drew.alloc (Nat.le_refl _) _ | exact ((Below.refl _ _).alloc (Nat.le_refl _) _).alloc (by simp) _)) (by omega) (Q2_8.below (by first | exact Below.refl _ _ | exact (Below.refl _ _).drew | exact (Below.refl _ _).alloc (Nat.le_refl _) _ | exact ((Below.refl _ _).alloc (Nat.le_refl _) _).drew | exact (Below.refl _ _).drew.alloc (Nat.le_refl _) _ | exact ((Below.refl _ _).alloc (Nat.le_refl _) _).alloc (by simp) _)) (by omega)).mono ?_); (rintro e w9 ⟨r9a, r9n, r9c, r9b, r9m, r9d, rfl, hO, hO', hD, hB⟩; have hB_9 : Below wc8.heap.size wc8 w9 := (by first | exact hB | exact below_drew hB | exact bel_alloc hB | exact below_drew (bel_alloc hB) | exact bel_alloc (below_drew hB) | exact bel_alloc (bel_alloc hB)); have A_9 := A_8.next hB_9; have cA_9_0 : _ = some (Value.bool s1) := A_9.cell 0; have cA_9_1 : _ = some (Value.slice a1 n1' c1) := A_9.cell 1; have cA_9_2 : _ = some (Value.slice b1 m1' d1) := A_9.cell 2; have B_9 := B_8.next hB_9; have cB_9_0 : _ = some (Value.bool s2) := B_9.cell 0; have cB_9_1 : _ = some (Value.slice a2 n2' c2) := B_9.cell 1; have cB_9_2 : _ = some (Value.slice b2 m2' d2) := B_9.cell 2; have C_9 := C_8.next hB_9; have cC_9_0 : _ = some (Value.bool s3) := C_9.cell 0; have cC_9_1 : _ = some (Value.slice a3 n3' c3) := C_9.cell 1; have cC_9_2 : _ = some (Value.slice b3 m3' d3) := C_9.cell 2; have Q1_9 := Q1_8.below hB_9; have Q2_9 := Q2_8.below hB_9; have Q3_9 := Q3_8.below hB_9; have hbel_9 := hbel_8.next hB_9; have hsz_9 := hB_9.size; clear A_8 cA_8_0 cA_8_1 cA_8_2 B_8 cB_8_0 cB_8_1 cB_8_2 C_8 cC_8_0 cC_8_1 cC_8_2 Q1_8 Q2_8 Q3_8 hbel_8 hB_9; have Or9_9 := hO; have ltOr9 := hO.ltB; have Pr9_9 := hO'; have ltPr9 := hO'.ltB; clear hO hO' hD; try clear hB)))
        | (go_at_call 43; ((with_reducible refine (qmul (Q2_9.below (by first | exact Below.refl _ _ | exact (Below.refl _ _).drew | exact (Below.refl _ _).alloc (Nat.le_refl _) _ | exact ((Below.refl _ _).alloc (Nat.le_refl _) _).drew | exact (Below.refl _ _).drew.alloc (Nat.le_refl _) _ | exact ((Below.refl _ _).alloc (Nat.le_refl _) _).alloc (by simp) _)) (by omega) (Q1_9.below (by first | exact Below.refl _ _ | exact (Below.refl _ _).drew | exact (Below.refl _ _).alloc (Nat.le_refl _) _ | exact ((Below.refl _ _).alloc (Nat.le_refl _) _).drew | exact (Below.refl _ _).drew.alloc (Nat.le_refl _) _ | exact ((Below.refl _ _).alloc (Nat.le_refl _) _).alloc (by simp) _)) (by omega)).mono ?_); (rintro e w10 ⟨r10a, r10n, r10c, r10b, r10m, r10d, rfl, hO, hO', hD, hB⟩; have hB_10 : Below w9.heap.size w9 w10 := (by first | exact hB | exact below_drew hB | exact bel_alloc hB | exact below_drew (bel_alloc hB) | exact bel_alloc (below_drew hB) | exact bel_alloc (bel_alloc hB)); have A_10 := A_9.next hB_10; have cA_10_0 : _ = some (Value.bool s1) := A_10.cell 0; have cA_10_1 : _ = some (Value.slice a1 n1' c1) := A_10.cell 1; have cA_10_2 : _ = some (Value.slice b1 m1' d1) := A_10.cell 2; have B_10 := B_9.next hB_10; have cB_10_0 : _ = some (Value.bool s2) := B_10.cell 0; have cB_10_1 : _ = some (Value.slice a2 n2' c2) := B_10.cell 1; have cB_10_2 : _ = some (Value.slice b2 m2' d2) := B_10.cell 2; have C_10 := C_9.next hB_10; have cC_10_0 : _ = some (Value.bool s3) := C_10.cell 0; have cC_10_1 : _ = some (Value.slice a3 n3' c3) := C_10.cell 1; have cC_10_2 : _ = some (Value.slice b3 m3' d3) := C_10.cell 2; have Q1_10 := Q1_9.below hB_10; have Q2_10 := Q2_9.below hB_10; have Q3_10 := Q3_9.below hB_10; have Or9_10 := Or9_9.below hB_10; have Pr9_10 := Pr9_9.below hB_10; have hbel_10 := hbel_9.next hB_10; have hsz_10 := hB_10.size; clear A_9 cA_9_0 cA_9_1 cA_9_2 B_9 cB_9_0 cB_9_1 cB_9_2 C_9 cC_9_0 cC_9_1 cC_9_2 Q1_9 Q2_9 Q3_9 Or9_9 Pr9_9 hbel_9 hB_10; have Or10_10 := hO; have ltOr10 := hO.ltB; have Pr10_10 := hO'; have ltPr10 := hO'.ltB; clear hO hO' hD; try clear hB)))
        | (go_at_call 41; ((with_reducible refine (falike (Or9_10.below (by first | exact Below.refl _ _ | exact (Below.refl _ _).drew | exact (Below.refl _ _).alloc (Nat.le_refl _) _ | exact ((Below.refl _ _).alloc (Nat.le_refl _) _).drew | exact (Below.refl _ _).drew.alloc (Nat.le_refl _) _ | exact ((Below.refl _ _).alloc (Nat.le_refl _) _).alloc (by simp) _)) (Pr9_10.below (by first | exact Below.refl _ _ | exact (Below.refl _ _).drew | exact (Below.refl _ _).alloc (Nat.le_refl _) _ | exact ((Below.refl _ _).alloc (Nat.le_refl _) _).drew | exact (Below.refl _ _).drew.alloc (Nat.le_refl _) _ | exact ((Below.refl _ _).alloc (Nat.le_refl _) _).alloc (by simp) _)) (Or10_10.below (by first | exact Below.refl _ _ | exact (Below.refl _ _).drew | exact (Below.refl _ _).alloc (Nat.le_refl _) _ | exact ((Below.refl _ _).alloc (Nat.le_refl _) _).drew | exact (Below.refl _ _).drew.alloc (Nat.le_refl _) _ | exact ((Below.refl _ _).alloc (Nat.le_refl _) _).alloc (by simp) _)) (Pr10_10.below (by first | exact Below.refl _ _ | exact (Below.refl _ _).drew | exact (Below.refl _ _).alloc (Nat.le_refl _) _ | exact ((Below.refl _ _).alloc (Nat.le_refl _) _).drew | exact (Below.refl _ _).drew.alloc (Nat.le_refl _) _ | exact ((Below.refl _ _).alloc (Nat.le_refl _) _).alloc (by simp) _)) (hx.out.mul hy.out) (by omega) (Rat.mul_comm _ _)).mono ?_); (rintro e w11 ⟨rfl, hB⟩; have hB_11 : Below w10.heap.size w10 w11 := (by first | exact hB | exact below_drew hB | exact bel_alloc hB | exact below_drew (bel_alloc hB) | exact bel_alloc (below_drew hB) | exact bel_alloc (bel_alloc hB)); have A_11 := A_10.next hB_11; have cA_11_0 : _ = some (Value.bool s1) := A_11.cell 0; have cA_11_1 : _ = some (Value.slice a1 n1' c1) := A_11.cell 1; have cA_11_2 : _ = some (Value.slice b1 m1' d1) := A_11.cell 2; have B_11 := B_10.next hB_11; have cB_11_0 : _ = some (Value.bool s2) := B_11.cell 0; have cB_11_1 : _ = some (Value.slice a2 n2' c2) := B_11.cell 1; have cB_11_2 : _ = some (Value.slice b2 m2' d2) := B_11.cell 2; have C_11 := C_10.next hB_11; have cC_11_0 : _ = some (Value.bool s3) := C_11.cell 0; have cC_11_1 : _ = some (Value.slice a3 n3' c3) := C_11.cell 1; have cC_11_2 : _ = some (Value.slice b3 m3' d3) := C_11.cell 2; have Q1_11 := Q1_10.below hB_11; have Q2_11 := Q2_10.below hB_11; have Q3_11 := Q3_10.below hB_11; have Or9_11 := Or9_10.below hB_11; have Pr9_11 := Pr9_10.below hB_11; have Or10_11 := Or10_10.below hB_11; have Pr10_11 := Pr10_10.below hB_11; have hbel_11 := hbel_10.next hB_11; have hsz_11 := hB_11.size; clear A_10 cA_10_0 cA_10_1 cA_10_2 B_10 cB_10_0 cB_10_1 cB_10_2 C_10 cC_10_0 cC_10_1 cC_10_2 Q1_10 Q2_10 Q3_10 Or9_10 Pr9_10 Or10_10 Pr10_10 hbel_10 hB_11; try clear hB)))
        | (go_at_call 43; ((with_reducible refine (qmul (Q1_11.below (by first | exact Below.refl _ _ | exact (Below.refl _ _).drew | exact (Below.refl _ _).alloc (Nat.le_refl _) _ | exact ((Below.refl _ _).alloc (Nat.le_refl _) _).drew | exact (Below.refl _ _).drew.alloc (Nat.le_refl _) _ | exact ((Below.refl _ _).alloc (Nat.le_refl _) _).alloc (by simp) _)) (by omega) (Q2_11.below (by first | exact Below.refl _ _ | exact (Below.refl _ _).drew | exact (Below.refl _ _).alloc (Nat.le_refl _) _ | exact ((Below.refl _ _).alloc (Nat.le_refl _) _).drew | exact (Below.refl _ _).drew.alloc (Nat.le_refl _) _ | exact ((Below.refl _ _).alloc (Nat.le_refl _) _).alloc (by simp) _)) (by omega)).mono ?_); (rintro e w12 ⟨r11a, r11n, r11c, r11b, r11m, r11d, rfl, hO, hO', hD, hB⟩; have hB_12 : Below w11.heap.size w11 w12 := (by first | exact hB | exact below_drew hB | exact bel_alloc hB | exact below_drew (bel_alloc hB) | exact bel_alloc (below_drew hB) | exact bel_alloc (bel_alloc hB)); have A_12 := A_11.next hB_12; have cA_12_0 : _ = some (Value.bool s1) := A_12.cell 0; have cA_12_1 : _ = some (Value.slice a1 n1' c1) := A_12.cell 1; have cA_12_2 : _ = some (Value.slice b1 m1' d1) := A_12.cell 2; have B_12 := B_11.next hB_12; have cB_12_0 : _ = some (Value.bool s2) := B_12.cell 0; have cB_12_1 : _ = some (Value.slice a2 n2' c2) := B_12.cell 1; have cB_12_2 : _ = some (Value.slice b2 m2' d2) := B_12.cell 2; have C_12 := C_11.next hB_12; have cC_12_0 : _ = some (Value.bool s3) := C_12.cell 0; have cC_12_1 : _ = some (Value.slice a3 n3' c3) := C_12.cell 1; have cC_12_2 : _ = some (Value.slice b3 m3' d3) := C_12.cell 2; have Q1_12 := Q1_11.below hB_12; have Q2_12 := Q2_11.below hB_12; have Q3_12 := Q3_11.below hB_12; have Or9_12 := Or9_11.below hB_12; have Pr9_12 := Pr9_11.below hB_12; have Or10_12 := Or10_11.below hB_12; have Pr10_12 := Pr10_11.below hB_12; have hbel_12 := hbel_11.next hB_12; have hsz_12 := hB_12.size; clear A_11 cA_11_0 cA_11_1 cA_11_2 B_11 cB_11_0 cB_11_1 cB_11_2 C_11 cC_11_0 cC_11_1 cC_11_2 Q1_11 Q2_11 Q3_11 Or9_11 Pr9_11 Or10_11 Pr10_11 hbel_11 hB_12; have Or11_12 := hO; have ltOr11 := hO.ltB; have Pr11_12 := hO'; have ltPr11 := hO'.ltB; clear hO hO' hD; try clear hB)))
        | (go_at_call 43; ((with_reducible refine (qmul ((Or11_12.below (by first | exact Below.refl _ _ | exact (Below.refl _ _).drew | exact (Below.refl _ _).alloc (Nat.le_refl _) _ | exact ((Below.refl _ _).alloc (Nat.le_refl _) _).drew | exact (Below.refl _ _).drew.alloc (Nat.le_refl _) _ | exact ((Below.refl _ _).alloc (Nat.le_refl _) _).alloc (by simp) _)).rdQ (Pr11_12.below (by first | exact Below.refl _ _ | exact (Below.refl _ _).drew | exact (Below.refl _ _).alloc (Nat.le_refl _) _ | exact ((Below.refl _ _).alloc (Nat.le_refl _) _).drew | exact (Below.refl _ _).drew.alloc (Nat.le_refl _) _ | exact ((Below.refl _ _).alloc (Nat.le_refl _) _).alloc (by simp) _)) (hx.out.mul hy.out)) (by omega) (Q3_12.below (by first | exact Below.refl _ _ | exact (Below.refl _ _).drew | exact (Below.refl _ _).alloc (Nat.le_refl _) _ | exact ((Below.refl _ _).alloc (Nat.le_refl _) _).drew | exact (Below.refl _ _).drew.alloc (Nat.le_refl _) _ | exact ((Below.refl _ _).alloc (Nat.le_refl _) _).alloc (by simp) _)) (by omega)).mono ?_); (rintro e w13 ⟨r12a, r12n, r12c, r12b, r12m, r12d, rfl, hO, hO', hD, hB⟩; have hB_13 : Below w12.heap.size w12 w13 := (by first | exact hB | exact below_drew hB | exact bel_alloc hB | exact below_drew (bel_alloc hB) | exact bel_alloc (below_drew hB) | exact bel_alloc (bel_alloc hB)); have A_13 := A_12.next hB_13; have cA_13_0 : _ = some (Value.bool s1) := A_13.cell 0; have cA_13_1 : _ = some (Value.slice a1 n1' c1) := A_13.cell 1; have cA_13_2 : _ = some (Value.slice b1 m1' d1) := A_13.cell 2; have B_13 := B_12.next hB_13; have cB_13_0 : _ = some (Value.bool s2) := B_13.cell 0; have cB_13_1 : _ = some (Value.slice a2 n2' c2) := B_13.cell 1; have cB_13_2 : _ = some (Value.slice b2 m2' d2) := B_13.cell 2; have C_13 := C_12.next hB_13; have cC_13_0 : _ = some (Value.bool s3) := C_13.cell 0; have cC_13_1 : _ = some (Value.slice a3 n3' c3) := C_13.cell 1; have cC_13_2 : _ = some (Value.slice b3 m3' d3) := C_13.cell 2; have Q1_13 := Q1_12.below hB_13; have Q2_13 := Q2_12.below hB_13; have Q3_13 := Q3_12.below hB_13; have Or9_13 := Or9_12.below hB_13; have Pr9_13 := Pr9_12.below hB_13; have Or10_13 := Or10_12.below hB_13; have Pr10_13 := Pr10_12.below hB_13; have Or11_13 := Or11_12.below hB_13; have Pr11_13 := Pr11_12.below hB_13; have hbel_13 := hbel_12.next hB_13; have hsz_13 := hB_13.size; clear A_12 cA_12_0 cA_12_1 cA_12_2 B_12 cB_12_0 cB_12_1 cB_12_2 C_12 cC_12_0 cC_12_1 cC_12_2 Q1_12 Q2_12 Q3_12 Or9_12 Pr9_12 Or10_12 Pr10_12 Or11_12 Pr11_12 hbel_12 hB_13; have Or12_13 := hO; have ltOr12 := hO.ltB; have Pr12_13 := hO'; have ltPr12 := hO'.ltB; clear hO hO' hD; try clear hB)))
        | (go_at_call 43; ((with_reducible refine (qmul (Q2_13.below (by first | exact Below.refl _ _ | exact (Below.refl _ _).drew | exact (Below.refl _ _).alloc (Nat.le_refl _) _ | exact ((Below.refl _ _).alloc (Nat.le_refl _) _).drew | exact (Below.refl _ _).drew.alloc (Nat.le_refl _) _ | exact ((Below.refl _ _).alloc (Nat.le_refl _) _).alloc (by simp) _)) (by omega) (Q3_13.below (by first | exact Below.refl _ _ | exact (Below.refl _ _).drew | exact (Below.refl _ _).alloc (Nat.le_refl _) _ | exact ((Below.refl _ _).alloc (Nat.le_refl _) _).drew | exact (Below.refl _ _).drew.alloc (Nat.le_refl _) _ | exact ((Below.refl _ _).alloc (Nat.le_refl _) _).alloc (by simp) _)) (by omega)).mono ?_); (rintro e w14 ⟨r13a, r13n, r13c, r13b, r13m, r13d, rfl, hO, hO', hD, hB⟩; have hB_14 : Below w13.heap.size w13 w14 := (by first | exact hB | exact below_drew hB | exact bel_alloc hB | exact below_drew (bel_alloc hB) | exact bel_alloc (below_drew hB) | exact bel_alloc (bel_alloc hB)); have A_14 := A_13.next hB_14; have cA_14_0 : _ = some (Value.bool s1) := A_14.cell 0; have cA_14_1 : _ = some (Value.slice a1 n1' c1) := A_14.cell 1; have cA_14_2 : _ = some (Value.slice b1 m1' d1) := A_14.cell 2; have B_14 := B_13.next hB_14; have cB_14_0 : _ = some (Value.bool s2) := B_14.cell 0; have cB_14_1 : _ = some (Value.slice a2 n2' c2) := B_14.cell 1; have cB_14_2 : _ = some (Value.slice b2 m2' d2) := B_14.cell 2; have C_14 := C_13.next hB_14; have cC_14_0 : _ = some (Value.bool s3) := C_14.cell 0; have cC_14_1 : _ = some (Value.slice a3 n3' c3) := C_14.cell 1; have cC_14_2 : _ = some (Value.slice b3 m3' d3) := C_14.cell 2; have Q1_14 := Q1_13.below hB_14; have Q2_14 := Q2_13.below hB_14; have Q3_14 := Q3_13.below hB_14; have Or9_14 := Or9_13.below hB_14; have Pr9_14 := Pr9_13.below hB_14; have Or10_14 := Or10_13.below hB_14; have Pr10_14 := Pr10_13.below hB_14; have Or11_14 := Or11_13.below hB_14; have Pr11_14 := Pr11_13.below hB_14; have Or12_14 := Or12_13.below hB_14; have Pr12_14 := Pr12_13.below hB_14; have hbel_14 := hbel_13.next hB_14; have hsz_14 := hB_14.size; clear A_13 cA_13_0 cA_13_1 cA_13_2 B_13 cB_13_0 cB_13_1 cB_13_2 C_13 cC_13_0 cC_13_1 cC_13_2 Q1_13 Q2_13 Q3_13 Or9_13 Pr9_13 Or10_13 Pr10_13 Or11_13 Pr11_13 Or12_13 Pr12_13 hbel_13 hB_14; have Or13_14 := hO; have ltOr13 := hO.ltB; have Pr13_14 := hO'; have ltPr13 := hO'.ltB; clear hO hO' hD; try clear hB)))
        | (go_at_call 43; ((with_reducible refine (qmul (Q1_14.below (by first | exact Below.refl _ _ | exact (Below.refl _ _).drew | exact (Below.refl _ _).alloc (Nat.le_refl _) _ | exact ((Below.refl _ _).alloc (Nat.le_refl _) _).drew | exact (Below.refl _ _).drew.alloc (Nat.le_refl _) _ | exact ((Below.refl _ _).alloc (Nat.le_refl _) _).alloc (by simp) _)) (by omega) ((Or13_14.below (by first | exact Below.refl _ _ | exact (Below.refl _ _).drew | exact (Below.refl _ _).alloc (Nat.le_refl _) _ | exact ((Below.refl _ _).alloc (Nat.le_refl _) _).drew | exact (Below.refl _ _).drew.alloc (Nat.le_refl _) _ | exact ((Below.refl _ _).alloc (Nat.le_refl _) _).alloc (by simp) _)).rdQ (Pr13_14.below (by first | exact Below.refl _ _ | exact (Below.refl _ _).drew | exact (Below.refl _ _).alloc (Nat.le_refl _) _ | exact ((Below.refl _ _).alloc (Nat.le_refl _) _).drew | exact (Below.refl _ _).drew.alloc (Nat.le_refl _) _ | exact ((Below.refl _ _).alloc (Nat.le_refl _) _).alloc (by simp) _)) (hy.out.mul hz.out)) (by omega)).mono ?_); (rintro e w15 ⟨r14a, r14n, r14c, r14b, r14m, r14d, rfl, hO, hO', hD, hB⟩; have hB_15 : Below w14.heap.size w14 w15 := (by first | exact hB | exact below_drew hB | exact bel_alloc hB | exact below_drew (bel_alloc hB) | exact bel_alloc (below_drew hB) | exact bel_alloc (bel_alloc hB)); have A_15 := A_14.next hB_15; have cA_15_0 : _ = some (Value.bool s1) := A_15.cell 0; have cA_15_1 : _ = some (Value.slice a1 n1' c1) := A_15.cell 1; have cA_15_2 : _ = some (Value.slice b1 m1' d1) := A_15.cell 2; have B_15 := B_14.next hB_15; have cB_15_0 : _ = some (Value.bool s2) := B_15.cell 0; have cB_15_1 : _ = some (Value.slice a2 n2' c2) := B_15.cell 1; have cB_15_2 : _ = some (Value.slice b2 m2' d2) := B_15.cell 2; have C_15 := C_14.next hB_15; have cC_15_0 : _ = some (Value.bool s3) := C_15.cell 0; have cC_15_1 : _ = some (Value.slice a3 n3' c3) := C_15.cell 1; have cC_15_2 : _ = some (Value.slice b3 m3' d3) := C_15.cell 2; have Q1_15 := Q1_14.below hB_15; have Q2_15 := Q2_14.below hB_15; have Q3_15 := Q3_14.below hB_15; have Or9_15 := Or9_14.below hB_15; have Pr9_15 := Pr9_14.below hB_15; have Or10_15 := Or10_14.below hB_15; have Pr10_15 := Pr10_14.below hB_15; have Or11_15 := Or11_14.below hB_15; have Pr11_15 := Pr11_14.below hB_15; have Or12_15 := Or12_14.below hB_15; have Pr12_15 := Pr12_14.below hB_15; have Or13_15 := Or13_14.below hB_15; have Pr13_15 := Pr13_14.below hB_15; have hbel_15 := hbel_14.next hB_15; have hsz_15 := hB_15.size; clear A_14 cA_14_0 cA_14_1 cA_14_2 B_14 cB_14_0 cB_14_1 cB_14_2 C_14 cC_14_0 cC_14_1 cC_14_2 Q1_14 Q2_14 Q3_14 Or9_14 Pr9_14 Or10_14 Pr10_14 Or11_14 Pr11_14 Or12_14 Pr12_14 Or13_14 Pr13_14 hbel_14 hB_15; have Or14_15 := hO; have ltOr14 := hO.ltB; have Pr14_15 := hO'; have ltPr14 := hO'.ltB; clear hO hO' hD; try clear hB)))
        | (go_at_call 41; ((with_reducible refine (falike (Or12_15.below (by first | exact Below.refl _ _ | exact (Below.refl _ _).drew | exact (Below.refl _ _).alloc (Nat.le_refl _) _ | exact ((Below.refl _ _).alloc (Nat.le_refl _) _).drew | exact (Below.refl _ _).drew.alloc (Nat.le_refl _) _ | exact ((Below.refl _ _).alloc (Nat.le_refl _) _).alloc (by simp) _)) (Pr12_15.below (by first | exact Below.refl _ _ | exact (Below.refl _ _).drew | exact (Below.refl _ _).alloc (Nat.le_refl _) _ | exact ((Below.refl _ _).alloc (Nat.le_refl _) _).drew | exact (Below.refl _ _).drew.alloc (Nat.le_refl _) _ | exact ((Below.refl _ _).alloc (Nat.le_refl _) _).alloc (by simp) _)) (Or14_15.below (by first | exact Below.refl _ _ | exact (Below.refl _ _).drew | exact (Below.refl _ _).alloc (Nat.le_refl _) _ | exact ((Below.refl _ _).alloc (Nat.le_refl _) _).drew | exact (Below.refl _ _).drew.alloc (Nat.le_refl _) _ | exact ((Below.refl _ _).alloc (Nat.le_refl _) _).alloc (by simp) _)) (Pr14_15.below (by first | exact Below.refl _ _ | exact (Below.refl _ _).drew | exact (Below.refl _ _).alloc (Nat.le_refl _) _ | exact ((Below.refl _ _).alloc (Nat.le_refl _) _).drew | exact (Below.refl _ _).drew.alloc (Nat.le_refl _) _ | exact ((Below.refl _ _).alloc (Nat.le_refl _) _).alloc (by simp) _)) ((hx.out.mul hy.out).mul hz.out) (by omega) (Rat.mul_assoc _ _ _)).mono ?_); (rintro e w16 ⟨rfl, hB⟩; have hB_16 : Below w15.heap.size w15 w16 := (by first | exact hB | exact below_drew hB | exact bel_alloc hB | exact below_drew (bel_alloc hB) | exact bel_alloc (below_drew hB) | exact bel_alloc (bel_alloc hB)); have A_16 := A_15.next hB_16; have cA_16_0 : _ = some (Value.bool s1) := A_16.cell 0; have cA_16_1 : _ = some (Value.slice a1 n1' c1) := A_16.cell 1; have cA_16_2 : _ = some (Value.slice b1 m1' d1) := A_16.cell 2; have B_16 := B_15.next hB_16; have cB_16_0 : _ = some (Value.bool s2) := B_16.cell 0; have cB_16_1 : _ = some (Value.slice a2 n2' c2) := B_16.cell 1; have cB_16_2 : _ = some (Value.slice b2 m2' d2) := B_16.cell 2; have C_16 := C_15.next hB_16; have cC_16_0 : _ = some (Value.bool s3) := C_16.cell 0; have cC_16_1 : _ = some (Value.slice a3 n3' c3) := C_16.cell 1; have cC_16_2 : _ = some (Value.slice b3 m3' d3) := C_16.cell 2; have Q1_16 := Q1_15.below hB_16; have Q2_16 := Q2_15.below hB_16; have Q3_16 := Q3_15.below hB_16; have Or9_16 := Or9_15.below hB_16; have Pr9_16 := Pr9_15.below hB_16; have Or10_16 := Or10_15.below hB_16; have Pr10_16 := Pr10_15.below hB_16; have Or11_16 := Or11_15.below hB_16; have Pr11_16 := Pr11_15.below hB_16; have Or12_16 := Or12_15.below hB_16; have Pr12_16 := Pr12_15.below hB_16; have Or13_16 := Or13_15.below hB_16; have Pr13_16 := Pr13_15.below hB_16; have Or14_16 := Or14_15.below hB_16; have Pr14_16 := Pr14_15.below hB_16; have hbel_16 := hbel_15.next hB_16; have hsz_16 := hB_16.size; clear A_15 cA_15_0 cA_15_1 cA_15_2 B_15 cB_15_0 cB_15_1 cB_15_2 C_15 cC_15_0 cC_15_1 cC_15_2 Q1_15 Q2_15 Q3_15 Or9_15 Pr9_15 Or10_15 Pr10_15 Or11_15 Pr11_15 Or12_15 Pr12_15 Or13_15 Pr13_15 Or14_15 Pr14_15 hbel_15 hB_16; try clear hB))))
    clear Or9_16
    clear Pr9_16
    clear Or10_16
    clear Pr10_16
    clear Or11_16
    clear Pr11_16
    clear Or12_16
    clear Pr12_16
    clear Or13_16
    clear Pr13_16
    clear Or14_16
    clear Pr14_16
    go_wp2_with fail
    go_region_held3 (fun w' => w'.cell? ⟨w2.heap.size, 0, none⟩ = some (Value.bool s1) ∧ w'.cell? ⟨w2.heap.size, 1, none⟩ = some (Value.slice a1 n1' c1) ∧ w'.cell? ⟨w2.heap.size, 2, none⟩ = some (Value.slice b1 m1' d1) ∧ w'.cell? ⟨w4.heap.size, 0, none⟩ = some (Value.bool s2) ∧ w'.cell? ⟨w4.heap.size, 1, none⟩ = some (Value.slice a2 n2' c2) ∧ w'.cell? ⟨w4.heap.size, 2, none⟩ = some (Value.slice b2 m2' d2) ∧ w'.cell? ⟨w6.heap.size, 0, none⟩ = some (Value.bool s3) ∧ w'.cell? ⟨w6.heap.size, 1, none⟩ = some (Value.slice a3 n3' c3) ∧ w'.cell? ⟨w6.heap.size, 2, none⟩ = some (Value.slice b3 m3' d3))
      (first | exact ⟨cA_16_0, cA_16_1, cA_16_2, cB_16_0, cB_16_1, cB_16_2, cC_16_0, cC_16_1, cC_16_2⟩ | exact ⟨cA_17_0, cA_17_1, cA_17_2, cB_17_0, cB_17_1, cB_17_2, cC_17_0, cC_17_1, cC_17_2⟩ | exact ⟨cA_18_0, cA_18_1, cA_18_2, cB_18_0, cB_18_1, cB_18_2, cC_18_0, cC_18_1, cC_18_2⟩ | exact ⟨cA_19_0, cA_19_1, cA_19_2, cB_19_0, cB_19_1, cB_19_2, cC_19_0, cC_19_1, cC_19_2⟩ | exact ⟨cA_20_0, cA_20_1, cA_20_2, cB_20_0, cB_20_1, cB_20_2, cC_20_0, cC_20_1, cC_20_2⟩ | exact ⟨cA_21_0, cA_21_1, cA_21_2, cB_21_0, cB_21_1, cB_21_2, cC_21_0, cC_21_1, cC_21_2⟩ | exact ⟨cA_22_0, cA_22_1, cA_22_2, cB_22_0, cB_22_1, cB_22_2, cC_22_0, cC_22_1, cC_22_2⟩ | exact ⟨cA_23_0, cA_23_1, cA_23_2, cB_23_0, cB_23_1, cB_23_2, cC_23_0, cC_23_1, cC_23_2⟩ | exact ⟨cA_24_0, cA_24_1, cA_24_2, cB_24_0, cB_24_1, cB_24_2, cC_24_0, cC_24_1, cC_24_2⟩ | exact ⟨cA_25_0, cA_25_1, cA_25_2, cB_25_0, cB_25_1, cB_25_2, cC_25_0, cC_25_1, cC_25_2⟩ | exact ⟨cA_26_0, cA_26_1, cA_26_2, cB_26_0, cB_26_1, cB_26_2, cC_26_0, cC_26_1, cC_26_2⟩ | exact ⟨cA_27_0, cA_27_1, cA_27_2, cB_27_0, cB_27_1, cB_27_2, cC_27_0, cC_27_1, cC_27_2⟩ | exact ⟨cA_28_0, cA_28_1, cA_28_2, cB_28_0, cB_28_1, cB_28_2, cC_28_0, cC_28_1, cC_28_2⟩ | go_keep)
      (first
        | (go_at_call 42; ((with_reducible refine (qadd (Q2_16.below (by first | exact Below.refl _ _ | exact (Below.refl _ _).drew | exact (Below.refl _ _).alloc (Nat.le_refl _) _ | exact ((Below.refl _ _).alloc (Nat.le_refl _) _).drew | exact (Below.refl _ _).drew.alloc (Nat.le_refl _) _ | exact ((Below.refl _ _).alloc (Nat.le_refl _) _).alloc (by simp) _)) (by omega) (Q3_16.below (by first | exact Below.refl _ _ | exact (Below.refl _ _).drew | exact (Below.refl _ _).alloc (Nat.le_refl _) _ | exact ((Below.refl _ _).alloc (Nat.le_refl _) _).drew | exact (Below.refl _ _).drew.alloc (Nat.le_refl _) _ | exact ((Below.refl _ _).alloc (Nat.le_refl _) _).alloc (by simp) _)) (by omega)).mono ?_); (rintro e w17 ⟨r15a, r15n, r15c, r15b, r15m, r15d, rfl, hO, hO', hD, hB⟩; have hB_17 : Below w16.heap.size w16 w17 := (by first | exact hB | exact below_drew hB | exact bel_alloc hB | exact below_drew (bel_alloc hB) | exact bel_alloc (below_drew hB) | exact bel_alloc (bel_alloc hB)); have A_17 := A_16.next hB_17; have cA_17_0 : _ = some (Value.bool s1) := A_17.cell 0; have cA_17_1 : _ = some (Value.slice a1 n1' c1) := A_17.cell 1; have cA_17_2 : _ = some (Value.slice b1 m1' d1) := A_17.cell 2; have B_17 := B_16.next hB_17; have cB_17_0 : _ = some (Value.bool s2) := B_17.cell 0; have cB_17_1 : _ = some (Value.slice a2 n2' c2) := B_17.cell 1; have cB_17_2 : _ = some (Value.slice b2 m2' d2) := B_17.cell 2; have C_17 := C_16.next hB_17; have cC_17_0 : _ = some (Value.bool s3) := C_17.cell 0; have cC_17_1 : _ = some (Value.slice a3 n3' c3) := C_17.cell 1; have cC_17_2 : _ = some (Value.slice b3 m3' d3) := C_17.cell 2; have Q1_17 := Q1_16.below hB_17; have Q2_17 := Q2_16.below hB_17; have Q3_17 := Q3_16.below hB_17; have hbel_17 := hbel_16.next hB_17; have hsz_17 := hB_17.size; clear A_16 cA_16_0 cA_16_1 cA_16_2 B_16 cB_16_0 cB_16_1 cB_16_2 C_16 cC_16_0 cC_16_1 cC_16_2 Q1_16 Q2_16 Q3_16 hbel_16 hB_17; have Or15_17 := hO; have ltOr15 := hO.ltB; have Pr15_17 := hO'; have ltPr15 := hO'.ltB; clear hO hO' hD; try clear hB)))
        | (go_at_call 43; ((with_reducible refine (qmul (Q1_17.below (by first | exact Below.refl _ _ | exact (Below.refl _ _).drew | exact (Below.refl _ _).alloc (Nat.le_refl _) _ | exact ((Below.refl _ _).alloc (Nat.le_refl _) _).drew | exact (Below.refl _ _).drew.alloc (Nat.le_refl _) _ | exact ((Below.refl _ _).alloc (Nat.le_refl _) _).alloc (by simp) _)) (by omega) ((Or15_17.below (by first | exact Below.refl _ _ | exact (Below.refl _ _).drew | exact (Below.refl _ _).alloc (Nat.le_refl _) _ | exact ((Below.refl _ _).alloc (Nat.le_refl _) _).drew | exact (Below.refl _ _).drew.alloc (Nat.le_refl _) _ | exact ((Below.refl _ _).alloc (Nat.le_refl _) _).alloc (by simp) _)).rdQ (Pr15_17.below (by first | exact Below.refl _ _ | exact (Below.refl _ _).drew | exact (Below.refl _ _).alloc (Nat.le_refl _) _ | exact ((Below.refl _ _).alloc (Nat.le_refl _) _).drew | exact (Below.refl _ _).drew.alloc (Nat.le_refl _) _ | exact ((Below.refl _ _).alloc (Nat.le_refl _) _).alloc (by simp) _)) (hy.out.add hz.out)) (by omega)).mono ?_); (rintro e w18 ⟨r16a, r16n, r16c, r16b, r16m, r16d, rfl, hO, hO', hD, hB⟩; have hB_18 : Below w17.heap.size w17 w18 := (by first | exact hB | exact below_drew hB | exact bel_alloc hB | exact below_drew (bel_alloc hB) | exact bel_alloc (below_drew hB) | exact bel_alloc (bel_alloc hB)); have A_18 := A_17.next hB_18; have cA_18_0 : _ = some (Value.bool s1) := A_18.cell 0; have cA_18_1 : _ = some (Value.slice a1 n1' c1) := A_18.cell 1; have cA_18_2 : _ = some (Value.slice b1 m1' d1) := A_18.cell 2; have B_18 := B_17.next hB_18; have cB_18_0 : _ = some (Value.bool s2) := B_18.cell 0; have cB_18_1 : _ = some (Value.slice a2 n2' c2) := B_18.cell 1; have cB_18_2 : _ = some (Value.slice b2 m2' d2) := B_18.cell 2; have C_18 := C_17.next hB_18; have cC_18_0 : _ = some (Value.bool s3) := C_18.cell 0; have cC_18_1 : _ = some (Value.slice a3 n3' c3) := C_18.cell 1; have cC_18_2 : _ = some (Value.slice b3 m3' d3) := C_18.cell 2; have Q1_18 := Q1_17.below hB_18; have Q2_18 := Q2_17.below hB_18; have Q3_18 := Q3_17.below hB_18; have Or15_18 := Or15_17.below hB_18; have Pr15_18 := Pr15_17.below hB_18; have hbel_18 := hbel_17.next hB_18; have hsz_18 := hB_18.size; clear A_17 cA_17_0 cA_17_1 cA_17_2 B_17 cB_17_0 cB_17_1 cB_17_2 C_17 cC_17_0 cC_17_1 cC_17_2 Q1_17 Q2_17 Q3_17 Or15_17 Pr15_17 hbel_17 hB_18; have Or16_18 := hO; have ltOr16 := hO.ltB; have Pr16_18 := hO'; have ltPr16 := hO'.ltB; clear hO hO' hD; try clear hB)))
        | (go_at_call 43; ((with_reducible refine (qmul (Q1_18.below (by first | exact Below.refl _ _ | exact (Below.refl _ _).drew | exact (Below.refl _ _).alloc (Nat.le_refl _) _ | exact ((Below.refl _ _).alloc (Nat.le_refl _) _).drew | exact (Below.refl _ _).drew.alloc (Nat.le_refl _) _ | exact ((Below.refl _ _).alloc (Nat.le_refl _) _).alloc (by simp) _)) (by omega) (Q2_18.below (by first | exact Below.refl _ _ | exact (Below.refl _ _).drew | exact (Below.refl _ _).alloc (Nat.le_refl _) _ | exact ((Below.refl _ _).alloc (Nat.le_refl _) _).drew | exact (Below.refl _ _).drew.alloc (Nat.le_refl _) _ | exact ((Below.refl _ _).alloc (Nat.le_refl _) _).alloc (by simp) _)) (by omega)).mono ?_); (rintro e w19 ⟨r17a, r17n, r17c, r17b, r17m, r17d, rfl, hO, hO', hD, hB⟩; have hB_19 : Below w18.heap.size w18 w19 := (by first | exact hB | exact below_drew hB | exact bel_alloc hB | exact below_drew (bel_alloc hB) | exact bel_alloc (below_drew hB) | exact bel_alloc (bel_alloc hB)); have A_19 := A_18.next hB_19; have cA_19_0 : _ = some (Value.bool s1) := A_19.cell 0; have cA_19_1 : _ = some (Value.slice a1 n1' c1) := A_19.cell 1; have cA_19_2 : _ = some (Value.slice b1 m1' d1) := A_19.cell 2; have B_19 := B_18.next hB_19; have cB_19_0 : _ = some (Value.bool s2) := B_19.cell 0; have cB_19_1 : _ = some (Value.slice a2 n2' c2) := B_19.cell 1; have cB_19_2 : _ = some (Value.slice b2 m2' d2) := B_19.cell 2; have C_19 := C_18.next hB_19; have cC_19_0 : _ = some (Value.bool s3) := C_19.cell 0; have cC_19_1 : _ = some (Value.slice a3 n3' c3) := C_19.cell 1; have cC_19_2 : _ = some (Value.slice b3 m3' d3) := C_19.cell 2; have Q1_19 := Q1_18.below hB_19; have Q2_19 := Q2_18.below hB_19; have Q3_19 := Q3_18.below hB_19; have Or15_19 := Or15_18.below hB_19; have Pr15_19 := Pr15_18.below hB_19; have Or16_19 := Or16_18.below hB_19; have Pr16_19 := Pr16_18.below hB_19; have hbel_19 := hbel_18.next hB_19; have hsz_19 := hB_19.size; clear A_18 cA_18_0 cA_18_1 cA_18_2 B_18 cB_18_0 cB_18_1 cB_18_2 C_18 cC_18_0 cC_18_1 cC_18_2 Q1_18 Q2_18 Q3_18 Or15_18 Pr15_18 Or16_18 Pr16_18 hbel_18 hB_19; have Or17_19 := hO; have ltOr17 := hO.ltB; have Pr17_19 := hO'; have ltPr17 := hO'.ltB; clear hO hO' hD; try clear hB)))
        | (go_at_call 43; ((with_reducible refine (qmul (Q1_19.below (by first | exact Below.refl _ _ | exact (Below.refl _ _).drew | exact (Below.refl _ _).alloc (Nat.le_refl _) _ | exact ((Below.refl _ _).alloc (Nat.le_refl _) _).drew | exact (Below.refl _ _).drew.alloc (Nat.le_refl _) _ | exact ((Below.refl _ _).alloc (Nat.le_refl _) _).alloc (by simp) _)) (by omega) (Q3_19.below (by first | exact Below.refl _ _ | exact (Below.refl _ _).drew | exact (Below.refl _ _).alloc (Nat.le_refl _) _ | exact ((Below.refl _ _).alloc (Nat.le_refl _) _).drew | exact (Below.refl _ _).drew.alloc (Nat.le_refl _) _ | exact ((Below.refl _ _).alloc (Nat.le_refl _) _).alloc (by simp) _)) (by omega)).mono ?_); (rintro e w20 ⟨r18a, r18n, r18c, r18b, r18m, r18d, rfl, hO, hO', hD, hB⟩; have hB_20 : Below w19.heap.size w19 w20 := (by first | exact hB | exact below_drew hB | exact bel_alloc hB | exact below_drew (bel_alloc hB) | exact bel_alloc (below_drew hB) | exact bel_alloc (bel_alloc hB)); have A_20 := A_19.next hB_20; have cA_20_0 : _ = some (Value.bool s1) := A_20.cell 0; have cA_20_1 : _ = some (Value.slice a1 n1' c1) := A_20.cell 1; have cA_20_2 : _ = some (Value.slice b1 m1' d1) := A_20.cell 2; have B_20 := B_19.next hB_20; have cB_20_0 : _ = some (Value.bool s2) := B_20.cell 0; have cB_20_1 : _ = some (Value.slice a2 n2' c2) := B_20.cell 1; have cB_20_2 : _ = some (Value.slice b2 m2' d2) := B_20.cell 2; have C_20 := C_19.next hB_20; have cC_20_0 : _ = some (Value.bool s3) := C_20.cell 0; have cC_20_1 : _ = some (Value.slice a3 n3' c3) := C_20.cell 1; have cC_20_2 : _ = some (Value.slice b3 m3' d3) := C_20.cell 2; have Q1_20 := Q1_19.below hB_20; have Q2_20 := Q2_19.below hB_20; have Q3_20 := Q3_19.below hB_20; have Or15_20 := Or15_19.below hB_20; have Pr15_20 := Pr15_19.below hB_20; have Or16_20 := Or16_19.below hB_20; have Pr16_20 := Pr16_19.below hB_20; have Or17_20 := Or17_19.below hB_20; have Pr17_20 := Pr17_19.below hB_20; have hbel_20 := hbel_19.next hB_20; have hsz_20 := hB_20.size; clear A_19 cA_19_0 cA_19_1 cA_19_2 B_19 cB_19_0 cB_19_1 cB_19_2 C_19 cC_19_0 cC_19_1 cC_19_2 Q1_19 Q2_19 Q3_19 Or15_19 Pr15_19 Or16_19 Pr16_19 Or17_19 Pr17_19 hbel_19 hB_20; have Or18_20 := hO; have ltOr18 := hO.ltB; have Pr18_20 := hO'; have ltPr18 := hO'.ltB; clear hO hO' hD; try clear hB)))
        | (go_at_call 42; ((with_reducible refine (qadd ((Or17_20.below (by first | exact Below.refl _ _ | exact (Below.refl _ _).drew | exact (Below.refl _ _).alloc (Nat.le_refl _) _ | exact ((Below.refl _ _).alloc (Nat.le_refl _) _).drew | exact (Below.refl _ _).drew.alloc (Nat.le_refl _) _ | exact ((Below.refl _ _).alloc (Nat.le_refl _) _).alloc (by simp) _)).rdQ (Pr17_20.below (by first | exact Below.refl _ _ | exact (Below.refl _ _).drew | exact (Below.refl _ _).alloc (Nat.le_refl _) _ | exact ((Below.refl _ _).alloc (Nat.le_refl _) _).drew | exact (Below.refl _ _).drew.alloc (Nat.le_refl _) _ | exact ((Below.refl _ _).alloc (Nat.le_refl _) _).alloc (by simp) _)) (hx.out.mul hy.out)) (by omega) ((Or18_20.below (by first | exact Below.refl _ _ | exact (Below.refl _ _).drew | exact (Below.refl _ _).alloc (Nat.le_refl _) _ | exact ((Below.refl _ _).alloc (Nat.le_refl _) _).drew | exact (Below.refl _ _).drew.alloc (Nat.le_refl _) _ | exact ((Below.refl _ _).alloc (Nat.le_refl _) _).alloc (by simp) _)).rdQ (Pr18_20.below (by first | exact Below.refl _ _ | exact (Below.refl _ _).drew | exact (Below.refl _ _).alloc (Nat.le_refl _) _ | exact ((Below.refl _ _).alloc (Nat.le_refl _) _).drew | exact (Below.refl _ _).drew.alloc (Nat.le_refl _) _ | exact ((Below.refl _ _).alloc (Nat.le_refl _) _).alloc (by simp) _)) (hx.out.mul hz.out)) (by omega)).mono ?_); (rintro e w21 ⟨r19a, r19n, r19c, r19b, r19m, r19d, rfl, hO, hO', hD, hB⟩; have hB_21 : Below w20.heap.size w20 w21 := (by first | exact hB | exact below_drew hB | exact bel_alloc hB | exact below_drew (bel_alloc hB) | exact bel_alloc (below_drew hB) | exact bel_alloc (bel_alloc hB)); have A_21 := A_20.next hB_21; have cA_21_0 : _ = some (Value.bool s1) := A_21.cell 0; have cA_21_1 : _ = some (Value.slice a1 n1' c1) := A_21.cell 1; have cA_21_2 : _ = some (Value.slice b1 m1' d1) := A_21.cell 2; have B_21 := B_20.next hB_21; have cB_21_0 : _ = some (Value.bool s2) := B_21.cell 0; have cB_21_1 : _ = some (Value.slice a2 n2' c2) := B_21.cell 1; have cB_21_2 : _ = some (Value.slice b2 m2' d2) := B_21.cell 2; have C_21 := C_20.next hB_21; have cC_21_0 : _ = some (Value.bool s3) := C_21.cell 0; have cC_21_1 : _ = some (Value.slice a3 n3' c3) := C_21.cell 1; have cC_21_2 : _ = some (Value.slice b3 m3' d3) := C_21.cell 2; have Q1_21 := Q1_20.below hB_21; have Q2_21 := Q2_20.below hB_21; have Q3_21 := Q3_20.below hB_21; have Or15_21 := Or15_20.below hB_21; have Pr15_21 := Pr15_20.below hB_21; have Or16_21 := Or16_20.below hB_21; have Pr16_21 := Pr16_20.below hB_21; have Or17_21 := Or17_20.below hB_21; have Pr17_21 := Pr17_20.below hB_21; have Or18_21 := Or18_20.below hB_21; have Pr18_21 := Pr18_20.below hB_21; have hbel_21 := hbel_20.next hB_21; have hsz_21 := hB_21.size; clear A_20 cA_20_0 cA_20_1 cA_20_2 B_20 cB_20_0 cB_20_1 cB_20_2 C_20 cC_20_0 cC_20_1 cC_20_2 Q1_20 Q2_20 Q3_20 Or15_20 Pr15_20 Or16_20 Pr16_20 Or17_20 Pr17_20 Or18_20 Pr18_20 hbel_20 hB_21; have Or19_21 := hO; have ltOr19 := hO.ltB; have Pr19_21 := hO'; have ltPr19 := hO'.ltB; clear hO hO' hD; try clear hB)))
        | (go_at_call 41; ((with_reducible refine (falike (Or16_21.below (by first | exact Below.refl _ _ | exact (Below.refl _ _).drew | exact (Below.refl _ _).alloc (Nat.le_refl _) _ | exact ((Below.refl _ _).alloc (Nat.le_refl _) _).drew | exact (Below.refl _ _).drew.alloc (Nat.le_refl _) _ | exact ((Below.refl _ _).alloc (Nat.le_refl _) _).alloc (by simp) _)) (Pr16_21.below (by first | exact Below.refl _ _ | exact (Below.refl _ _).drew | exact (Below.refl _ _).alloc (Nat.le_refl _) _ | exact ((Below.refl _ _).alloc (Nat.le_refl _) _).drew | exact (Below.refl _ _).drew.alloc (Nat.le_refl _) _ | exact ((Below.refl _ _).alloc (Nat.le_refl _) _).alloc (by simp) _)) (Or19_21.below (by first | exact Below.refl _ _ | exact (Below.refl _ _).drew | exact (Below.refl _ _).alloc (Nat.le_refl _) _ | exact ((Below.refl _ _).alloc (Nat.le_refl _) _).drew | exact (Below.refl _ _).drew.alloc (Nat.le_refl _) _ | exact ((Below.refl _ _).alloc (Nat.le_refl _) _).alloc (by simp) _)) (Pr19_21.below (by first | exact Below.refl _ _ | exact (Below.refl _ _).drew | exact (Below.refl _ _).alloc (Nat.le_refl _) _ | exact ((Below.refl _ _).alloc (Nat.le_refl _) _).drew | exact (Below.refl _ _).drew.alloc (Nat.le_refl _) _ | exact ((Below.refl _ _).alloc (Nat.le_refl _) _).alloc (by simp) _)) (hx.out.mul (hy.out.add hz.out)) (by omega) (Rat.mul_add _ _ _)).mono ?_); (rintro e w22 ⟨rfl, hB⟩; have hB_22 : Below w21.heap.size w21 w22 := (by first | exact hB | exact below_drew hB | exact bel_alloc hB | exact below_drew (bel_alloc hB) | exact bel_alloc (below_drew hB) | exact bel_alloc (bel_alloc hB)); have A_22 := A_21.next hB_22; have cA_22_0 : _ = some (Value.bool s1) := A_22.cell 0; have cA_22_1 : _ = some (Value.slice a1 n1' c1) := A_22.cell 1; have cA_22_2 : _ = some (Value.slice b1 m1' d1) := A_22.cell 2; have B_22 := B_21.next hB_22; have cB_22_0 : _ = some (Value.bool s2) := B_22.cell 0; have cB_22_1 : _ = some (Value.slice a2 n2' c2) := B_22.cell 1; have cB_22_2 : _ = some (Value.slice b2 m2' d2) := B_22.cell 2; have C_22 := C_21.next hB_22; have cC_22_0 : _ = some (Value.bool s3) := C_22.cell 0; have cC_22_1 : _ = some (Value.slice a3 n3' c3) := C_22.cell 1; have cC_22_2 : _ = some (Value.slice b3 m3' d3) := C_22.cell 2; have Q1_22 := Q1_21.below hB_22; have Q2_22 := Q2_21.below hB_22; have Q3_22 := Q3_21.below hB_22; have Or15_22 := Or15_21.below hB_22; have Pr15_22 := Pr15_21.below hB_22; have Or16_22 := Or16_21.below hB_22; have Pr16_22 := Pr16_21.below hB_22; have Or17_22 := Or17_21.below hB_22; have Pr17_22 := Pr17_21.below hB_22; have Or18_22 := Or18_21.below hB_22; have Pr18_22 := Pr18_21.below hB_22; have Or19_22 := Or19_21.below hB_22; have Pr19_22 := Pr19_21.below hB_22; have hbel_22 := hbel_21.next hB_22; have hsz_22 := hB_22.size; clear A_21 cA_21_0 cA_21_1 cA_21_2 B_21 cB_21_0 cB_21_1 cB_21_2 C_21 cC_21_0 cC_21_1 cC_21_2 Q1_21 Q2_21 Q3_21 Or15_21 Pr15_21 Or16_21 Pr16_21 Or17_21 Pr17_21 Or18_21 Pr18_21 Or19_21 Pr19_21 hbel_21 hB_22; try clear hB)))
        | (go_at_call 42; ((with_reducible refine (qadd (Q1_22.below (by first | exact Below.refl _ _ | exact (Below.refl _ _).drew | exact (Below.refl _ _).alloc (Nat.le_refl _) _ | exact ((Below.refl _ _).alloc (Nat.le_refl _) _).drew | exact (Below.refl _ _).drew.alloc (Nat.le_refl _) _ | exact ((Below.refl _ _).alloc (Nat.le_refl _) _).alloc (by simp) _)) (by omega) (Q2_22.below (by first | exact Below.refl _ _ | exact (Below.refl _ _).drew | exact (Below.refl _ _).alloc (Nat.le_refl _) _ | exact ((Below.refl _ _).alloc (Nat.le_refl _) _).drew | exact (Below.refl _ _).drew.alloc (Nat.le_refl _) _ | exact ((Below.refl _ _).alloc (Nat.le_refl _) _).alloc (by simp) _)) (by omega)).mono ?_); (rintro e w23 ⟨r20a, r20n, r20c, r20b, r20m, r20d, rfl, hO, hO', hD, hB⟩; have hB_23 : Below w22.heap.size w22 w23 := (by first | exact hB | exact below_drew hB | exact bel_alloc hB | exact below_drew (bel_alloc hB) | exact bel_alloc (below_drew hB) | exact bel_alloc (bel_alloc hB)); have A_23 := A_22.next hB_23; have cA_23_0 : _ = some (Value.bool s1) := A_23.cell 0; have cA_23_1 : _ = some (Value.slice a1 n1' c1) := A_23.cell 1; have cA_23_2 : _ = some (Value.slice b1 m1' d1) := A_23.cell 2; have B_23 := B_22.next hB_23; have cB_23_0 : _ = some (Value.bool s2) := B_23.cell 0; have cB_23_1 : _ = some (Value.slice a2 n2' c2) := B_23.cell 1; have cB_23_2 : _ = some (Value.slice b2 m2' d2) := B_23.cell 2; have C_23 := C_22.next hB_23; have cC_23_0 : _ = some (Value.bool s3) := C_23.cell 0; have cC_23_1 : _ = some (Value.slice a3 n3' c3) := C_23.cell 1; have cC_23_2 : _ = some (Value.slice b3 m3' d3) := C_23.cell 2; have Q1_23 := Q1_22.below hB_23; have Q2_23 := Q2_22.below hB_23; have Q3_23 := Q3_22.below hB_23; have Or15_23 := Or15_22.below hB_23; have Pr15_23 := Pr15_22.below hB_23; have Or16_23 := Or16_22.below hB_23; have Pr16_23 := Pr16_22.below hB_23; have Or17_23 := Or17_22.below hB_23; have Pr17_23 := Pr17_22.below hB_23; have Or18_23 := Or18_22.below hB_23; have Pr18_23 := Pr18_22.below hB_23; have Or19_23 := Or19_22.below hB_23; have Pr19_23 := Pr19_22.below hB_23; have hbel_23 := hbel_22.next hB_23; have hsz_23 := hB_23.size; clear A_22 cA_22_0 cA_22_1 cA_22_2 B_22 cB_22_0 cB_22_1 cB_22_2 C_22 cC_22_0 cC_22_1 cC_22_2 Q1_22 Q2_22 Q3_22 Or15_22 Pr15_22 Or16_22 Pr16_22 Or17_22 Pr17_22 Or18_22 Pr18_22 Or19_22 Pr19_22 hbel_22 hB_23; have Or20_23 := hO; have ltOr20 := hO.ltB; have Pr20_23 := hO'; have ltPr20 := hO'.ltB; clear hO hO' hD; try clear hB)))
        | (go_at_call 44; ((with_reducible refine (qsub ((Or20_23.below (by first | exact Below.refl _ _ | exact (Below.refl _ _).drew | exact (Below.refl _ _).alloc (Nat.le_refl _) _ | exact ((Below.refl _ _).alloc (Nat.le_refl _) _).drew | exact (Below.refl _ _).drew.alloc (Nat.le_refl _) _ | exact ((Below.refl _ _).alloc (Nat.le_refl _) _).alloc (by simp) _)).rdQ (Pr20_23.below (by first | exact Below.refl _ _ | exact (Below.refl _ _).drew | exact (Below.refl _ _).alloc (Nat.le_refl _) _ | exact ((Below.refl _ _).alloc (Nat.le_refl _) _).drew | exact (Below.refl _ _).drew.alloc (Nat.le_refl _) _ | exact ((Below.refl _ _).alloc (Nat.le_refl _) _).alloc (by simp) _)) (hx.out.add hy.out)) (by omega) (Q2_23.below (by first | exact Below.refl _ _ | exact (Below.refl _ _).drew | exact (Below.refl _ _).alloc (Nat.le_refl _) _ | exact ((Below.refl _ _).alloc (Nat.le_refl _) _).drew | exact (Below.refl _ _).drew.alloc (Nat.le_refl _) _ | exact ((Below.refl _ _).alloc (Nat.le_refl _) _).alloc (by simp) _)) (by omega)).mono ?_); (rintro e w24 ⟨r21a, r21n, r21c, r21b, r21m, r21d, rfl, hO, hO', hD, hB⟩; have hB_24 : Below w23.heap.size w23 w24 := (by first | exact hB | exact below_drew hB | exact bel_alloc hB | exact below_drew (bel_alloc hB) | exact bel_alloc (below_drew hB) | exact bel_alloc (bel_alloc hB)); have A_24 := A_23.next hB_24; have cA_24_0 : _ = some (Value.bool s1) := A_24.cell 0; have cA_24_1 : _ = some (Value.slice a1 n1' c1) := A_24.cell 1; have cA_24_2 : _ = some (Value.slice b1 m1' d1) := A_24.cell 2; have B_24 := B_23.next hB_24; have cB_24_0 : _ = some (Value.bool s2) := B_24.cell 0; have cB_24_1 : _ = some (Value.slice a2 n2' c2) := B_24.cell 1; have cB_24_2 : _ = some (Value.slice b2 m2' d2) := B_24.cell 2; have C_24 := C_23.next hB_24; have cC_24_0 : _ = some (Value.bool s3) := C_24.cell 0; have cC_24_1 : _ = some (Value.slice a3 n3' c3) := C_24.cell 1; have cC_24_2 : _ = some (Value.slice b3 m3' d3) := C_24.cell 2; have Q1_24 := Q1_23.below hB_24; have Q2_24 := Q2_23.below hB_24; have Q3_24 := Q3_23.below hB_24; have Or15_24 := Or15_23.below hB_24; have Pr15_24 := Pr15_23.below hB_24; have Or16_24 := Or16_23.below hB_24; have Pr16_24 := Pr16_23.below hB_24; have Or17_24 := Or17_23.below hB_24; have Pr17_24 := Pr17_23.below hB_24; have Or18_24 := Or18_23.below hB_24; have Pr18_24 := Pr18_23.below hB_24; have Or19_24 := Or19_23.below hB_24; have Pr19_24 := Pr19_23.below hB_24; have Or20_24 := Or20_23.below hB_24; have Pr20_24 := Pr20_23.below hB_24; have hbel_24 := hbel_23.next hB_24; have hsz_24 := hB_24.size; clear A_23 cA_23_0 cA_23_1 cA_23_2 B_23 cB_23_0 cB_23_1 cB_23_2 C_23 cC_23_0 cC_23_1 cC_23_2 Q1_23 Q2_23 Q3_23 Or15_23 Pr15_23 Or16_23 Pr16_23 Or17_23 Pr17_23 Or18_23 Pr18_23 Or19_23 Pr19_23 Or20_23 Pr20_23 hbel_23 hB_24; have Or21_24 := hO; have ltOr21 := hO.ltB; have Pr21_24 := hO'; have ltPr21 := hO'.ltB; clear hO hO' hD; try clear hB)))
        | (go_at_call 39; ((with_reducible refine (qcmp ((Or21_24.below (by first | exact Below.refl _ _ | exact (Below.refl _ _).drew | exact (Below.refl _ _).alloc (Nat.le_refl _) _ | exact ((Below.refl _ _).alloc (Nat.le_refl _) _).drew | exact (Below.refl _ _).drew.alloc (Nat.le_refl _) _ | exact ((Below.refl _ _).alloc (Nat.le_refl _) _).alloc (by simp) _)).rdQ (Pr21_24.below (by first | exact Below.refl _ _ | exact (Below.refl _ _).drew | exact (Below.refl _ _).alloc (Nat.le_refl _) _ | exact ((Below.refl _ _).alloc (Nat.le_refl _) _).drew | exact (Below.refl _ _).drew.alloc (Nat.le_refl _) _ | exact ((Below.refl _ _).alloc (Nat.le_refl _) _).alloc (by simp) _)) ((hx.out.add hy.out).sub hy.out)) (by omega) (Q1_24.below (by first | exact Below.refl _ _ | exact (Below.refl _ _).drew | exact (Below.refl _ _).alloc (Nat.le_refl _) _ | exact ((Below.refl _ _).alloc (Nat.le_refl _) _).drew | exact (Below.refl _ _).drew.alloc (Nat.le_refl _) _ | exact ((Below.refl _ _).alloc (Nat.le_refl _) _).alloc (by simp) _)) (by omega)).mono ?_); (rw [show cmpQ (x + y - y) x = 0 from cmpQ_eq Rat.add_sub_cancel]; rintro e w25 ⟨rfl, hB⟩; have hB_25 : Below w24.heap.size w24 w25 := (by first | exact hB | exact below_drew hB | exact bel_alloc hB | exact below_drew (bel_alloc hB) | exact bel_alloc (below_drew hB) | exact bel_alloc (bel_alloc hB)); have A_25 := A_24.next hB_25; have cA_25_0 : _ = some (Value.bool s1) := A_25.cell 0; have cA_25_1 : _ = some (Value.slice a1 n1' c1) := A_25.cell 1; have cA_25_2 : _ = some (Value.slice b1 m1' d1) := A_25.cell 2; have B_25 := B_24.next hB_25; have cB_25_0 : _ = some (Value.bool s2) := B_25.cell 0; have cB_25_1 : _ = some (Value.slice a2 n2' c2) := B_25.cell 1; have cB_25_2 : _ = some (Value.slice b2 m2' d2) := B_25.cell 2; have C_25 := C_24.next hB_25; have cC_25_0 : _ = some (Value.bool s3) := C_25.cell 0; have cC_25_1 : _ = some (Value.slice a3 n3' c3) := C_25.cell 1; have cC_25_2 : _ = some (Value.slice b3 m3' d3) := C_25.cell 2; have Q1_25 := Q1_24.below hB_25; have Q2_25 := Q2_24.below hB_25; have Q3_25 := Q3_24.below hB_25; have Or15_25 := Or15_24.below hB_25; have Pr15_25 := Pr15_24.below hB_25; have Or16_25 := Or16_24.below hB_25; have Pr16_25 := Pr16_24.below hB_25; have Or17_25 := Or17_24.below hB_25; have Pr17_25 := Pr17_24.below hB_25; have Or18_25 := Or18_24.below hB_25; have Pr18_25 := Pr18_24.below hB_25; have Or19_25 := Or19_24.below hB_25; have Pr19_25 := Pr19_24.below hB_25; have Or20_25 := Or20_24.below hB_25; have Pr20_25 := Pr20_24.below hB_25; have Or21_25 := Or21_24.below hB_25; have Pr21_25 := Pr21_24.below hB_25; have hbel_25 := hbel_24.next hB_25; have hsz_25 := hB_25.size; clear A_24 cA_24_0 cA_24_1 cA_24_2 B_24 cB_24_0 cB_24_1 cB_24_2 C_24 cC_24_0 cC_24_1 cC_24_2 Q1_24 Q2_24 Q3_24 Or15_24 Pr15_24 Or16_24 Pr16_24 Or17_24 Pr17_24 Or18_24 Pr18_24 Or19_24 Pr19_24 Or20_24 Pr20_24 Or21_24 Pr21_24 hbel_24 hB_25; try clear hB)))
        | (go_at_call 38; ((with_reducible refine (qneg (Q1_25.below (by first | exact Below.refl _ _ | exact (Below.refl _ _).drew | exact (Below.refl _ _).alloc (Nat.le_refl _) _ | exact ((Below.refl _ _).alloc (Nat.le_refl _) _).drew | exact (Below.refl _ _).drew.alloc (Nat.le_refl _) _ | exact ((Below.refl _ _).alloc (Nat.le_refl _) _).alloc (by simp) _)) (by omega)).mono ?_); (rw [hnx.out]; rintro e w26 ⟨r22a, r22n, r22c, r22b, r22m, r22d, rfl, hO, hO', hD, hB⟩; have hB_26 : Below w25.heap.size w25 w26 := (by first | exact hB | exact below_drew hB | exact bel_alloc hB | exact below_drew (bel_alloc hB) | exact bel_alloc (below_drew hB) | exact bel_alloc (bel_alloc hB)); have A_26 := A_25.next hB_26; have cA_26_0 : _ = some (Value.bool s1) := A_26.cell 0; have cA_26_1 : _ = some (Value.slice a1 n1' c1) := A_26.cell 1; have cA_26_2 : _ = some (Value.slice b1 m1' d1) := A_26.cell 2; have B_26 := B_25.next hB_26; have cB_26_0 : _ = some (Value.bool s2) := B_26.cell 0; have cB_26_1 : _ = some (Value.slice a2 n2' c2) := B_26.cell 1; have cB_26_2 : _ = some (Value.slice b2 m2' d2) := B_26.cell 2; have C_26 := C_25.next hB_26; have cC_26_0 : _ = some (Value.bool s3) := C_26.cell 0; have cC_26_1 : _ = some (Value.slice a3 n3' c3) := C_26.cell 1; have cC_26_2 : _ = some (Value.slice b3 m3' d3) := C_26.cell 2; have Q1_26 := Q1_25.below hB_26; have Q2_26 := Q2_25.below hB_26; have Q3_26 := Q3_25.below hB_26; have Or15_26 := Or15_25.below hB_26; have Pr15_26 := Pr15_25.below hB_26; have Or16_26 := Or16_25.below hB_26; have Pr16_26 := Pr16_25.below hB_26; have Or17_26 := Or17_25.below hB_26; have Pr17_26 := Pr17_25.below hB_26; have Or18_26 := Or18_25.below hB_26; have Pr18_26 := Pr18_25.below hB_26; have Or19_26 := Or19_25.below hB_26; have Pr19_26 := Pr19_25.below hB_26; have Or20_26 := Or20_25.below hB_26; have Pr20_26 := Pr20_25.below hB_26; have Or21_26 := Or21_25.below hB_26; have Pr21_26 := Pr21_25.below hB_26; have hbel_26 := hbel_25.next hB_26; have hsz_26 := hB_26.size; clear A_25 cA_25_0 cA_25_1 cA_25_2 B_25 cB_25_0 cB_25_1 cB_25_2 C_25 cC_25_0 cC_25_1 cC_25_2 Q1_25 Q2_25 Q3_25 Or15_25 Pr15_25 Or16_25 Pr16_25 Or17_25 Pr17_25 Or18_25 Pr18_25 Or19_25 Pr19_25 Or20_25 Pr20_25 Or21_25 Pr21_25 hbel_25 hB_26; have Or22_26 := hO; have ltOr22 := hO.ltB; have Pr22_26 := hO'; have ltPr22 := hO'.ltB; clear hO hO' hD; try clear hB)))
        | (go_at_call 42; ((with_reducible refine (qadd (Q1_26.below (by first | exact Below.refl _ _ | exact (Below.refl _ _).drew | exact (Below.refl _ _).alloc (Nat.le_refl _) _ | exact ((Below.refl _ _).alloc (Nat.le_refl _) _).drew | exact (Below.refl _ _).drew.alloc (Nat.le_refl _) _ | exact ((Below.refl _ _).alloc (Nat.le_refl _) _).alloc (by simp) _)) (by omega) ((Or22_26.below (by first | exact Below.refl _ _ | exact (Below.refl _ _).drew | exact (Below.refl _ _).alloc (Nat.le_refl _) _ | exact ((Below.refl _ _).alloc (Nat.le_refl _) _).drew | exact (Below.refl _ _).drew.alloc (Nat.le_refl _) _ | exact ((Below.refl _ _).alloc (Nat.le_refl _) _).alloc (by simp) _)).rdQ (Pr22_26.below (by first | exact Below.refl _ _ | exact (Below.refl _ _).drew | exact (Below.refl _ _).alloc (Nat.le_refl _) _ | exact ((Below.refl _ _).alloc (Nat.le_refl _) _).drew | exact (Below.refl _ _).drew.alloc (Nat.le_refl _) _ | exact ((Below.refl _ _).alloc (Nat.le_refl _) _).alloc (by simp) _)) hnq.out) (by omega)).mono ?_); (rintro e w27 ⟨r23a, r23n, r23c, r23b, r23m, r23d, rfl, hO, hO', hD, hB⟩; have hB_27 : Below w26.heap.size w26 w27 := (by first | exact hB | exact below_drew hB | exact bel_alloc hB | exact below_drew (bel_alloc hB) | exact bel_alloc (below_drew hB) | exact bel_alloc (bel_alloc hB)); have A_27 := A_26.next hB_27; have cA_27_0 : _ = some (Value.bool s1) := A_27.cell 0; have cA_27_1 : _ = some (Value.slice a1 n1' c1) := A_27.cell 1; have cA_27_2 : _ = some (Value.slice b1 m1' d1) := A_27.cell 2; have B_27 := B_26.next hB_27; have cB_27_0 : _ = some (Value.bool s2) := B_27.cell 0; have cB_27_1 : _ = some (Value.slice a2 n2' c2) := B_27.cell 1; have cB_27_2 : _ = some (Value.slice b2 m2' d2) := B_27.cell 2; have C_27 := C_26.next hB_27; have cC_27_0 : _ = some (Value.bool s3) := C_27.cell 0; have cC_27_1 : _ = some (Value.slice a3 n3' c3) := C_27.cell 1; have cC_27_2 : _ = some (Value.slice b3 m3' d3) := C_27.cell 2; have Q1_27 := Q1_26.below hB_27; have Q2_27 := Q2_26.below hB_27; have Q3_27 := Q3_26.below hB_27; have Or15_27 := Or15_26.below hB_27; have Pr15_27 := Pr15_26.below hB_27; have Or16_27 := Or16_26.below hB_27; have Pr16_27 := Pr16_26.below hB_27; have Or17_27 := Or17_26.below hB_27; have Pr17_27 := Pr17_26.below hB_27; have Or18_27 := Or18_26.below hB_27; have Pr18_27 := Pr18_26.below hB_27; have Or19_27 := Or19_26.below hB_27; have Pr19_27 := Pr19_26.below hB_27; have Or20_27 := Or20_26.below hB_27; have Pr20_27 := Pr20_26.below hB_27; have Or21_27 := Or21_26.below hB_27; have Pr21_27 := Pr21_26.below hB_27; have Or22_27 := Or22_26.below hB_27; have Pr22_27 := Pr22_26.below hB_27; have hbel_27 := hbel_26.next hB_27; have hsz_27 := hB_27.size; clear A_26 cA_26_0 cA_26_1 cA_26_2 B_26 cB_26_0 cB_26_1 cB_26_2 C_26 cC_26_0 cC_26_1 cC_26_2 Q1_26 Q2_26 Q3_26 Or15_26 Pr15_26 Or16_26 Pr16_26 Or17_26 Pr17_26 Or18_26 Pr18_26 Or19_26 Pr19_26 Or20_26 Pr20_26 Or21_26 Pr21_26 Or22_26 Pr22_26 hbel_26 hB_27; have Or23_27 := hO; have ltOr23 := hO.ltB; have Pr23_27 := hO'; have ltPr23 := hO'.ltB; clear hO hO' hD; try clear hB)))
        | (go_at_call 45; ((with_reducible refine (qsign ((Or23_27.below (by first | exact Below.refl _ _ | exact (Below.refl _ _).drew | exact (Below.refl _ _).alloc (Nat.le_refl _) _ | exact ((Below.refl _ _).alloc (Nat.le_refl _) _).drew | exact (Below.refl _ _).drew.alloc (Nat.le_refl _) _ | exact ((Below.refl _ _).alloc (Nat.le_refl _) _).alloc (by simp) _)).rdQ (Pr23_27.below (by first | exact Below.refl _ _ | exact (Below.refl _ _).drew | exact (Below.refl _ _).alloc (Nat.le_refl _) _ | exact ((Below.refl _ _).alloc (Nat.le_refl _) _).drew | exact (Below.refl _ _).drew.alloc (Nat.le_refl _) _ | exact ((Below.refl _ _).alloc (Nat.le_refl _) _).alloc (by simp) _)) (hx.out.add hnq.out)) (by omega)).mono ?_); (rw [show sgnQ (x + nx) = 0 by rw [← hnx.out, Rat.add_neg_cancel]; rfl]; rintro e w28 ⟨rfl, hB⟩; have hB_28 : Below w27.heap.size w27 w28 := (by first | exact hB | exact below_drew hB | exact bel_alloc hB | exact below_drew (bel_alloc hB) | exact bel_alloc (below_drew hB) | exact bel_alloc (bel_alloc hB)); have A_28 := A_27.next hB_28; have cA_28_0 : _ = some (Value.bool s1) := A_28.cell 0; have cA_28_1 : _ = some (Value.slice a1 n1' c1) := A_28.cell 1; have cA_28_2 : _ = some (Value.slice b1 m1' d1) := A_28.cell 2; have B_28 := B_27.next hB_28; have cB_28_0 : _ = some (Value.bool s2) := B_28.cell 0; have cB_28_1 : _ = some (Value.slice a2 n2' c2) := B_28.cell 1; have cB_28_2 : _ = some (Value.slice b2 m2' d2) := B_28.cell 2; have C_28 := C_27.next hB_28; have cC_28_0 : _ = some (Value.bool s3) := C_28.cell 0; have cC_28_1 : _ = some (Value.slice a3 n3' c3) := C_28.cell 1; have cC_28_2 : _ = some (Value.slice b3 m3' d3) := C_28.cell 2; have Q1_28 := Q1_27.below hB_28; have Q2_28 := Q2_27.below hB_28; have Q3_28 := Q3_27.below hB_28; have Or15_28 := Or15_27.below hB_28; have Pr15_28 := Pr15_27.below hB_28; have Or16_28 := Or16_27.below hB_28; have Pr16_28 := Pr16_27.below hB_28; have Or17_28 := Or17_27.below hB_28; have Pr17_28 := Pr17_27.below hB_28; have Or18_28 := Or18_27.below hB_28; have Pr18_28 := Pr18_27.below hB_28; have Or19_28 := Or19_27.below hB_28; have Pr19_28 := Pr19_27.below hB_28; have Or20_28 := Or20_27.below hB_28; have Pr20_28 := Pr20_27.below hB_28; have Or21_28 := Or21_27.below hB_28; have Pr21_28 := Pr21_27.below hB_28; have Or22_28 := Or22_27.below hB_28; have Pr22_28 := Pr22_27.below hB_28; have Or23_28 := Or23_27.below hB_28; have Pr23_28 := Pr23_27.below hB_28; have hbel_28 := hbel_27.next hB_28; have hsz_28 := hB_28.size; clear A_27 cA_27_0 cA_27_1 cA_27_2 B_27 cB_27_0 cB_27_1 cB_27_2 C_27 cC_27_0 cC_27_1 cC_27_2 Q1_27 Q2_27 Q3_27 Or15_27 Pr15_27 Or16_27 Pr16_27 Or17_27 Pr17_27 Or18_27 Pr18_27 Or19_27 Pr19_27 Or20_27 Pr20_27 Or21_27 Pr21_27 Or22_27 Pr22_27 Or23_27 Pr23_27 hbel_27 hB_28; try clear hB))))
    clear Or15_28
    clear Pr15_28
    clear Or16_28
    clear Pr16_28
    clear Or17_28
    clear Pr17_28
    clear Or18_28
    clear Pr18_28
    clear Or19_28
    clear Pr19_28
    clear Or20_28
    clear Pr20_28
    clear Or21_28
    clear Pr21_28
    clear Or22_28
    clear Pr22_28
    clear Or23_28
    clear Pr23_28
    go_wp2_with fail
    refine (qadd Q1_28 (by omega) Q2_28 (by omega)).mono ?_
    rintro e w29 ⟨r24a, r24n, r24c, r24b, r24m, r24d, rfl, hO, hO', hD, hB⟩
    have hB_29 : Below w28.heap.size w28 w29 := (by first | exact hB | exact below_drew hB | exact bel_alloc hB | exact below_drew (bel_alloc hB) | exact bel_alloc (below_drew hB) | exact bel_alloc (bel_alloc hB))
    have A_29 := A_28.next hB_29
    have cA_29_0 : _ = some (Value.bool s1) := A_29.cell 0
    have cA_29_1 : _ = some (Value.slice a1 n1' c1) := A_29.cell 1
    have cA_29_2 : _ = some (Value.slice b1 m1' d1) := A_29.cell 2
    have B_29 := B_28.next hB_29
    have cB_29_0 : _ = some (Value.bool s2) := B_29.cell 0
    have cB_29_1 : _ = some (Value.slice a2 n2' c2) := B_29.cell 1
    have cB_29_2 : _ = some (Value.slice b2 m2' d2) := B_29.cell 2
    have C_29 := C_28.next hB_29
    have cC_29_0 : _ = some (Value.bool s3) := C_29.cell 0
    have cC_29_1 : _ = some (Value.slice a3 n3' c3) := C_29.cell 1
    have cC_29_2 : _ = some (Value.slice b3 m3' d3) := C_29.cell 2
    have Q1_29 := Q1_28.below hB_29
    have Q2_29 := Q2_28.below hB_29
    have Q3_29 := Q3_28.below hB_29
    have hbel_29 := hbel_28.next hB_29
    have hsz_29 := hB_29.size
    clear A_28 cA_28_0 cA_28_1 cA_28_2 B_28 cB_28_0 cB_28_1 cB_28_2 C_28 cC_28_0 cC_28_1 cC_28_2 Q1_28 Q2_28 Q3_28 hbel_28 hB_29
    have Or24_29 := hO
    have ltOr24 := hO.ltB
    have Pr24_29 := hO'
    have ltPr24 := hO'.ltB
    clear hO hO' hD
    try clear hB
    go_wp2_with fail
    refine (flowest Or24_29 Pr24_29 (hx.out.add hy.out) (by omega)).mono ?_
    rintro e w30 ⟨rfl, hB⟩
    have hB_30 : Below w29.heap.size w29 w30 := (by first | exact hB | exact below_drew hB | exact bel_alloc hB | exact below_drew (bel_alloc hB) | exact bel_alloc (below_drew hB) | exact bel_alloc (bel_alloc hB))
    have A_30 := A_29.next hB_30
    have cA_30_0 : _ = some (Value.bool s1) := A_30.cell 0
    have cA_30_1 : _ = some (Value.slice a1 n1' c1) := A_30.cell 1
    have cA_30_2 : _ = some (Value.slice b1 m1' d1) := A_30.cell 2
    have B_30 := B_29.next hB_30
    have cB_30_0 : _ = some (Value.bool s2) := B_30.cell 0
    have cB_30_1 : _ = some (Value.slice a2 n2' c2) := B_30.cell 1
    have cB_30_2 : _ = some (Value.slice b2 m2' d2) := B_30.cell 2
    have C_30 := C_29.next hB_30
    have cC_30_0 : _ = some (Value.bool s3) := C_30.cell 0
    have cC_30_1 : _ = some (Value.slice a3 n3' c3) := C_30.cell 1
    have cC_30_2 : _ = some (Value.slice b3 m3' d3) := C_30.cell 2
    have Q1_30 := Q1_29.below hB_30
    have Q2_30 := Q2_29.below hB_30
    have Q3_30 := Q3_29.below hB_30
    have Or24_30 := Or24_29.below hB_30
    have Pr24_30 := Pr24_29.below hB_30
    have hbel_30 := hbel_29.next hB_30
    have hsz_30 := hB_30.size
    clear A_29 cA_29_0 cA_29_1 cA_29_2 B_29 cB_29_0 cB_29_1 cB_29_2 C_29 cC_29_0 cC_29_1 cC_29_2 Q1_29 Q2_29 Q3_29 Or24_29 Pr24_29 hbel_29 hB_30
    try clear hB
    go_wp2_with fail
    refine (qmul Q1_30 (by omega) Q3_30 (by omega)).mono ?_
    rintro e w31 ⟨r25a, r25n, r25c, r25b, r25m, r25d, rfl, hO, hO', hD, hB⟩
    have hB_31 : Below w30.heap.size w30 w31 := (by first | exact hB | exact below_drew hB | exact bel_alloc hB | exact below_drew (bel_alloc hB) | exact bel_alloc (below_drew hB) | exact bel_alloc (bel_alloc hB))
    have A_31 := A_30.next hB_31
    have cA_31_0 : _ = some (Value.bool s1) := A_31.cell 0
    have cA_31_1 : _ = some (Value.slice a1 n1' c1) := A_31.cell 1
    have cA_31_2 : _ = some (Value.slice b1 m1' d1) := A_31.cell 2
    have B_31 := B_30.next hB_31
    have cB_31_0 : _ = some (Value.bool s2) := B_31.cell 0
    have cB_31_1 : _ = some (Value.slice a2 n2' c2) := B_31.cell 1
    have cB_31_2 : _ = some (Value.slice b2 m2' d2) := B_31.cell 2
    have C_31 := C_30.next hB_31
    have cC_31_0 : _ = some (Value.bool s3) := C_31.cell 0
    have cC_31_1 : _ = some (Value.slice a3 n3' c3) := C_31.cell 1
    have cC_31_2 : _ = some (Value.slice b3 m3' d3) := C_31.cell 2
    have Q1_31 := Q1_30.below hB_31
    have Q2_31 := Q2_30.below hB_31
    have Q3_31 := Q3_30.below hB_31
    have Or24_31 := Or24_30.below hB_31
    have Pr24_31 := Pr24_30.below hB_31
    have hbel_31 := hbel_30.next hB_31
    have hsz_31 := hB_31.size
    clear A_30 cA_30_0 cA_30_1 cA_30_2 B_30 cB_30_0 cB_30_1 cB_30_2 C_30 cC_30_0 cC_30_1 cC_30_2 Q1_30 Q2_30 Q3_30 Or24_30 Pr24_30 hbel_30 hB_31
    have Or25_31 := hO
    have ltOr25 := hO.ltB
    have Pr25_31 := hO'
    have ltPr25 := hO'.ltB
    clear hO hO' hD
    try clear hB
    go_wp2_with fail
    refine (flowest Or25_31 Pr25_31 (hx.out.mul hz.out) (by omega)).mono ?_
    rintro e w32 ⟨rfl, hB⟩
    have hB_32 : Below w31.heap.size w31 w32 := (by first | exact hB | exact below_drew hB | exact bel_alloc hB | exact below_drew (bel_alloc hB) | exact bel_alloc (below_drew hB) | exact bel_alloc (bel_alloc hB))
    have A_32 := A_31.next hB_32
    have cA_32_0 : _ = some (Value.bool s1) := A_32.cell 0
    have cA_32_1 : _ = some (Value.slice a1 n1' c1) := A_32.cell 1
    have cA_32_2 : _ = some (Value.slice b1 m1' d1) := A_32.cell 2
    have B_32 := B_31.next hB_32
    have cB_32_0 : _ = some (Value.bool s2) := B_32.cell 0
    have cB_32_1 : _ = some (Value.slice a2 n2' c2) := B_32.cell 1
    have cB_32_2 : _ = some (Value.slice b2 m2' d2) := B_32.cell 2
    have C_32 := C_31.next hB_32
    have cC_32_0 : _ = some (Value.bool s3) := C_32.cell 0
    have cC_32_1 : _ = some (Value.slice a3 n3' c3) := C_32.cell 1
    have cC_32_2 : _ = some (Value.slice b3 m3' d3) := C_32.cell 2
    have Q1_32 := Q1_31.below hB_32
    have Q2_32 := Q2_31.below hB_32
    have Q3_32 := Q3_31.below hB_32
    have Or24_32 := Or24_31.below hB_32
    have Pr24_32 := Pr24_31.below hB_32
    have Or25_32 := Or25_31.below hB_32
    have Pr25_32 := Pr25_31.below hB_32
    have hbel_32 := hbel_31.next hB_32
    have hsz_32 := hB_32.size
    clear A_31 cA_31_0 cA_31_1 cA_31_2 B_31 cB_31_0 cB_31_1 cB_31_2 C_31 cC_31_0 cC_31_1 cC_31_2 Q1_31 Q2_31 Q3_31 Or24_31 Pr24_31 Or25_31 Pr25_31 hbel_31 hB_32
    try clear hB
    go_wp2_with fail
    refine (qsub Q2_32 (by omega) Q3_32 (by omega)).mono ?_
    rintro e w33 ⟨r26a, r26n, r26c, r26b, r26m, r26d, rfl, hO, hO', hD, hB⟩
    have hB_33 : Below w32.heap.size w32 w33 := (by first | exact hB | exact below_drew hB | exact bel_alloc hB | exact below_drew (bel_alloc hB) | exact bel_alloc (below_drew hB) | exact bel_alloc (bel_alloc hB))
    have A_33 := A_32.next hB_33
    have cA_33_0 : _ = some (Value.bool s1) := A_33.cell 0
    have cA_33_1 : _ = some (Value.slice a1 n1' c1) := A_33.cell 1
    have cA_33_2 : _ = some (Value.slice b1 m1' d1) := A_33.cell 2
    have B_33 := B_32.next hB_33
    have cB_33_0 : _ = some (Value.bool s2) := B_33.cell 0
    have cB_33_1 : _ = some (Value.slice a2 n2' c2) := B_33.cell 1
    have cB_33_2 : _ = some (Value.slice b2 m2' d2) := B_33.cell 2
    have C_33 := C_32.next hB_33
    have cC_33_0 : _ = some (Value.bool s3) := C_33.cell 0
    have cC_33_1 : _ = some (Value.slice a3 n3' c3) := C_33.cell 1
    have cC_33_2 : _ = some (Value.slice b3 m3' d3) := C_33.cell 2
    have Q1_33 := Q1_32.below hB_33
    have Q2_33 := Q2_32.below hB_33
    have Q3_33 := Q3_32.below hB_33
    have Or24_33 := Or24_32.below hB_33
    have Pr24_33 := Pr24_32.below hB_33
    have Or25_33 := Or25_32.below hB_33
    have Pr25_33 := Pr25_32.below hB_33
    have hbel_33 := hbel_32.next hB_33
    have hsz_33 := hB_33.size
    clear A_32 cA_32_0 cA_32_1 cA_32_2 B_32 cB_32_0 cB_32_1 cB_32_2 C_32 cC_32_0 cC_32_1 cC_32_2 Q1_32 Q2_32 Q3_32 Or24_32 Pr24_32 Or25_32 Pr25_32 hbel_32 hB_33
    have Or26_33 := hO
    have ltOr26 := hO.ltB
    have Pr26_33 := hO'
    have ltPr26 := hO'.ltB
    clear hO hO' hD
    try clear hB
    go_wp2_with fail
    refine (flowest Or26_33 Pr26_33 (hy.out.sub hz.out) (by omega)).mono ?_
    rintro e w34 ⟨rfl, hB⟩
    have hB_34 : Below w33.heap.size w33 w34 := (by first | exact hB | exact below_drew hB | exact bel_alloc hB | exact below_drew (bel_alloc hB) | exact bel_alloc (below_drew hB) | exact bel_alloc (bel_alloc hB))
    have A_34 := A_33.next hB_34
    have cA_34_0 : _ = some (Value.bool s1) := A_34.cell 0
    have cA_34_1 : _ = some (Value.slice a1 n1' c1) := A_34.cell 1
    have cA_34_2 : _ = some (Value.slice b1 m1' d1) := A_34.cell 2
    have B_34 := B_33.next hB_34
    have cB_34_0 : _ = some (Value.bool s2) := B_34.cell 0
    have cB_34_1 : _ = some (Value.slice a2 n2' c2) := B_34.cell 1
    have cB_34_2 : _ = some (Value.slice b2 m2' d2) := B_34.cell 2
    have C_34 := C_33.next hB_34
    have cC_34_0 : _ = some (Value.bool s3) := C_34.cell 0
    have cC_34_1 : _ = some (Value.slice a3 n3' c3) := C_34.cell 1
    have cC_34_2 : _ = some (Value.slice b3 m3' d3) := C_34.cell 2
    have Q1_34 := Q1_33.below hB_34
    have Q2_34 := Q2_33.below hB_34
    have Q3_34 := Q3_33.below hB_34
    have Or24_34 := Or24_33.below hB_34
    have Pr24_34 := Pr24_33.below hB_34
    have Or25_34 := Or25_33.below hB_34
    have Pr25_34 := Pr25_33.below hB_34
    have Or26_34 := Or26_33.below hB_34
    have Pr26_34 := Pr26_33.below hB_34
    have hbel_34 := hbel_33.next hB_34
    have hsz_34 := hB_34.size
    clear A_33 cA_33_0 cA_33_1 cA_33_2 B_33 cB_33_0 cB_33_1 cB_33_2 C_33 cC_33_0 cC_33_1 cC_33_2 Q1_33 Q2_33 Q3_33 Or24_33 Pr24_33 Or25_33 Pr25_33 Or26_33 Pr26_33 hbel_33 hB_34
    try clear hB
    go_wp2_with fail
    refine (qneg Q1_34 (by omega)).mono ?_
    rw [hnx.out]
    rintro e w35 ⟨r27a, r27n, r27c, r27b, r27m, r27d, rfl, hO, hO', hD, hB⟩
    have hB_35 : Below w34.heap.size w34 w35 := (by first | exact hB | exact below_drew hB | exact bel_alloc hB | exact below_drew (bel_alloc hB) | exact bel_alloc (below_drew hB) | exact bel_alloc (bel_alloc hB))
    have A_35 := A_34.next hB_35
    have cA_35_0 : _ = some (Value.bool s1) := A_35.cell 0
    have cA_35_1 : _ = some (Value.slice a1 n1' c1) := A_35.cell 1
    have cA_35_2 : _ = some (Value.slice b1 m1' d1) := A_35.cell 2
    have B_35 := B_34.next hB_35
    have cB_35_0 : _ = some (Value.bool s2) := B_35.cell 0
    have cB_35_1 : _ = some (Value.slice a2 n2' c2) := B_35.cell 1
    have cB_35_2 : _ = some (Value.slice b2 m2' d2) := B_35.cell 2
    have C_35 := C_34.next hB_35
    have cC_35_0 : _ = some (Value.bool s3) := C_35.cell 0
    have cC_35_1 : _ = some (Value.slice a3 n3' c3) := C_35.cell 1
    have cC_35_2 : _ = some (Value.slice b3 m3' d3) := C_35.cell 2
    have Q1_35 := Q1_34.below hB_35
    have Q2_35 := Q2_34.below hB_35
    have Q3_35 := Q3_34.below hB_35
    have Or24_35 := Or24_34.below hB_35
    have Pr24_35 := Pr24_34.below hB_35
    have Or25_35 := Or25_34.below hB_35
    have Pr25_35 := Pr25_34.below hB_35
    have Or26_35 := Or26_34.below hB_35
    have Pr26_35 := Pr26_34.below hB_35
    have hbel_35 := hbel_34.next hB_35
    have hsz_35 := hB_35.size
    clear A_34 cA_34_0 cA_34_1 cA_34_2 B_34 cB_34_0 cB_34_1 cB_34_2 C_34 cC_34_0 cC_34_1 cC_34_2 Q1_34 Q2_34 Q3_34 Or24_34 Pr24_34 Or25_34 Pr25_34 Or26_34 Pr26_34 hbel_34 hB_35
    have Or27_35 := hO
    have ltOr27 := hO.ltB
    have Pr27_35 := hO'
    have ltPr27 := hO'.ltB
    clear hO hO' hD
    try clear hB
    go_wp2_with fail
    refine (flowest Or27_35 Pr27_35 hnq.out (by omega)).mono ?_
    rintro e w36 ⟨rfl, hB⟩
    have hB_36 : Below w35.heap.size w35 w36 := (by first | exact hB | exact below_drew hB | exact bel_alloc hB | exact below_drew (bel_alloc hB) | exact bel_alloc (below_drew hB) | exact bel_alloc (bel_alloc hB))
    have A_36 := A_35.next hB_36
    have cA_36_0 : _ = some (Value.bool s1) := A_36.cell 0
    have cA_36_1 : _ = some (Value.slice a1 n1' c1) := A_36.cell 1
    have cA_36_2 : _ = some (Value.slice b1 m1' d1) := A_36.cell 2
    have B_36 := B_35.next hB_36
    have cB_36_0 : _ = some (Value.bool s2) := B_36.cell 0
    have cB_36_1 : _ = some (Value.slice a2 n2' c2) := B_36.cell 1
    have cB_36_2 : _ = some (Value.slice b2 m2' d2) := B_36.cell 2
    have C_36 := C_35.next hB_36
    have cC_36_0 : _ = some (Value.bool s3) := C_36.cell 0
    have cC_36_1 : _ = some (Value.slice a3 n3' c3) := C_36.cell 1
    have cC_36_2 : _ = some (Value.slice b3 m3' d3) := C_36.cell 2
    have Q1_36 := Q1_35.below hB_36
    have Q2_36 := Q2_35.below hB_36
    have Q3_36 := Q3_35.below hB_36
    have Or24_36 := Or24_35.below hB_36
    have Pr24_36 := Pr24_35.below hB_36
    have Or25_36 := Or25_35.below hB_36
    have Pr25_36 := Pr25_35.below hB_36
    have Or26_36 := Or26_35.below hB_36
    have Pr26_36 := Pr26_35.below hB_36
    have Or27_36 := Or27_35.below hB_36
    have Pr27_36 := Pr27_35.below hB_36
    have hbel_36 := hbel_35.next hB_36
    have hsz_36 := hB_36.size
    clear A_35 cA_35_0 cA_35_1 cA_35_2 B_35 cB_35_0 cB_35_1 cB_35_2 C_35 cC_35_0 cC_35_1 cC_35_2 Q1_35 Q2_35 Q3_35 Or24_35 Pr24_35 Or25_35 Pr25_35 Or26_35 Pr26_35 Or27_35 Pr27_35 hbel_35 hB_36
    try clear hB
    go_wp2_with fail
    refine (qsub Q1_36 (by omega) Q1_36 (by omega)).mono ?_
    rintro e w37 ⟨r28a, r28n, r28c, r28b, r28m, r28d, rfl, hO, hO', hD, hB⟩
    have hB_37 : Below w36.heap.size w36 w37 := (by first | exact hB | exact below_drew hB | exact bel_alloc hB | exact below_drew (bel_alloc hB) | exact bel_alloc (below_drew hB) | exact bel_alloc (bel_alloc hB))
    have A_37 := A_36.next hB_37
    have cA_37_0 : _ = some (Value.bool s1) := A_37.cell 0
    have cA_37_1 : _ = some (Value.slice a1 n1' c1) := A_37.cell 1
    have cA_37_2 : _ = some (Value.slice b1 m1' d1) := A_37.cell 2
    have B_37 := B_36.next hB_37
    have cB_37_0 : _ = some (Value.bool s2) := B_37.cell 0
    have cB_37_1 : _ = some (Value.slice a2 n2' c2) := B_37.cell 1
    have cB_37_2 : _ = some (Value.slice b2 m2' d2) := B_37.cell 2
    have C_37 := C_36.next hB_37
    have cC_37_0 : _ = some (Value.bool s3) := C_37.cell 0
    have cC_37_1 : _ = some (Value.slice a3 n3' c3) := C_37.cell 1
    have cC_37_2 : _ = some (Value.slice b3 m3' d3) := C_37.cell 2
    have Q1_37 := Q1_36.below hB_37
    have Q2_37 := Q2_36.below hB_37
    have Q3_37 := Q3_36.below hB_37
    have Or24_37 := Or24_36.below hB_37
    have Pr24_37 := Pr24_36.below hB_37
    have Or25_37 := Or25_36.below hB_37
    have Pr25_37 := Pr25_36.below hB_37
    have Or26_37 := Or26_36.below hB_37
    have Pr26_37 := Pr26_36.below hB_37
    have Or27_37 := Or27_36.below hB_37
    have Pr27_37 := Pr27_36.below hB_37
    have hbel_37 := hbel_36.next hB_37
    have hsz_37 := hB_37.size
    clear A_36 cA_36_0 cA_36_1 cA_36_2 B_36 cB_36_0 cB_36_1 cB_36_2 C_36 cC_36_0 cC_36_1 cC_36_2 Q1_36 Q2_36 Q3_36 Or24_36 Pr24_36 Or25_36 Pr25_36 Or26_36 Pr26_36 Or27_36 Pr27_36 hbel_36 hB_37
    have Or28_37 := hO
    have ltOr28 := hO.ltB
    have Pr28_37 := hO'
    have ltPr28 := hO'.ltB
    clear hO hO' hD
    try clear hB
    go_wp2_with fail
    refine (flowest Or28_37 Pr28_37 (hx.out.sub hx.out) (by omega)).mono ?_
    rintro e w38 ⟨rfl, hB⟩
    have hB_38 : Below w37.heap.size w37 w38 := (by first | exact hB | exact below_drew hB | exact bel_alloc hB | exact below_drew (bel_alloc hB) | exact bel_alloc (below_drew hB) | exact bel_alloc (bel_alloc hB))
    have A_38 := A_37.next hB_38
    have cA_38_0 : _ = some (Value.bool s1) := A_38.cell 0
    have cA_38_1 : _ = some (Value.slice a1 n1' c1) := A_38.cell 1
    have cA_38_2 : _ = some (Value.slice b1 m1' d1) := A_38.cell 2
    have B_38 := B_37.next hB_38
    have cB_38_0 : _ = some (Value.bool s2) := B_38.cell 0
    have cB_38_1 : _ = some (Value.slice a2 n2' c2) := B_38.cell 1
    have cB_38_2 : _ = some (Value.slice b2 m2' d2) := B_38.cell 2
    have C_38 := C_37.next hB_38
    have cC_38_0 : _ = some (Value.bool s3) := C_38.cell 0
    have cC_38_1 : _ = some (Value.slice a3 n3' c3) := C_38.cell 1
    have cC_38_2 : _ = some (Value.slice b3 m3' d3) := C_38.cell 2
    have Q1_38 := Q1_37.below hB_38
    have Q2_38 := Q2_37.below hB_38
    have Q3_38 := Q3_37.below hB_38
    have Or24_38 := Or24_37.below hB_38
    have Pr24_38 := Pr24_37.below hB_38
    have Or25_38 := Or25_37.below hB_38
    have Pr25_38 := Pr25_37.below hB_38
    have Or26_38 := Or26_37.below hB_38
    have Pr26_38 := Pr26_37.below hB_38
    have Or27_38 := Or27_37.below hB_38
    have Pr27_38 := Pr27_37.below hB_38
    have Or28_38 := Or28_37.below hB_38
    have Pr28_38 := Pr28_37.below hB_38
    have hbel_38 := hbel_37.next hB_38
    have hsz_38 := hB_38.size
    clear A_37 cA_37_0 cA_37_1 cA_37_2 B_37 cB_37_0 cB_37_1 cB_37_2 C_37 cC_37_0 cC_37_1 cC_37_2 Q1_37 Q2_37 Q3_37 Or24_37 Pr24_37 Or25_37 Pr25_37 Or26_37 Pr26_37 Or27_37 Pr27_37 Or28_37 Pr28_37 hbel_37 hB_38
    try clear hB
    clear Or24_38
    clear Pr24_38
    clear Or25_38
    clear Pr25_38
    clear Or26_38
    clear Pr26_38
    clear Or27_38
    clear Pr27_38
    clear Or28_38
    clear Pr28_38
    have hcs := sgn_sub_cmp x y
    have hcw := cmpQ_swap x y
    have hcwh := hid hcw
    have hcsh := hid hcs
    have hrg := cmpQ_range x y
    clear hcw hcs
    by_cases hy0 : y = 0
    · skip
      have hs0 := hid (show sgnQ y = 0 by rw [hy0]; rfl)
      have he0 := hid (qE_zero hy0)
      clear hy0
      go_wp2_with fail
      refine (qdiv Q1_38 (by omega) Q2_38 (by omega)).mono ?_
      rw [he0.out]
      rintro e w39 ⟨ua, un, uc, ub, um, ud, rfl, hO, hO', hD, hB⟩
      have hB_39 : Below w38.heap.size w38 w39 := (by first | exact hB | exact below_drew hB | exact bel_alloc hB | exact below_drew (bel_alloc hB) | exact bel_alloc (below_drew hB) | exact bel_alloc (bel_alloc hB))
      have A_39 := A_38.next hB_39
      have cA_39_0 : _ = some (Value.bool s1) := A_39.cell 0
      have cA_39_1 : _ = some (Value.slice a1 n1' c1) := A_39.cell 1
      have cA_39_2 : _ = some (Value.slice b1 m1' d1) := A_39.cell 2
      have B_39 := B_38.next hB_39
      have cB_39_0 : _ = some (Value.bool s2) := B_39.cell 0
      have cB_39_1 : _ = some (Value.slice a2 n2' c2) := B_39.cell 1
      have cB_39_2 : _ = some (Value.slice b2 m2' d2) := B_39.cell 2
      have C_39 := C_38.next hB_39
      have cC_39_0 : _ = some (Value.bool s3) := C_39.cell 0
      have cC_39_1 : _ = some (Value.slice a3 n3' c3) := C_39.cell 1
      have cC_39_2 : _ = some (Value.slice b3 m3' d3) := C_39.cell 2
      have Q1_39 := Q1_38.below hB_39
      have Q2_39 := Q2_38.below hB_39
      have Q3_39 := Q3_38.below hB_39
      have hbel_39 := hbel_38.next hB_39
      have hsz_39 := hB_39.size
      clear A_38 cA_38_0 cA_38_1 cA_38_2 B_38 cB_38_0 cB_38_1 cB_38_2 C_38 cC_38_0 cC_38_1 cC_38_2 Q1_38 Q2_38 Q3_38 hbel_38 hB_39
      have Ou_39 := hO
      have ltOu := hO.ltB
      have Pu_39 := hO'
      have ltPu := hO'.ltB
      clear hO hO' hD
      try clear hB
      have hbx := blk_new w39 #[Value.bool (qsg (x / y) 11), Value.slice ua un uc, Value.slice ub um ud] 32
      have hbB := (Below.refl w39.heap.size w39).alloc (Nat.le_refl _) (.cells #[Value.bool (qsg (x / y) 11), Value.slice ua un uc, Value.slice ub um ud] 32)
      have hltD := hbx.lt
      have hB_40 : Below w39.heap.size w39 (w39.alloc (.cells #[Value.bool (qsg (x / y) 11), Value.slice ua un uc, Value.slice ub um ud] 32)) := hbB
      have A_40 := A_39.next hB_40
      have cA_40_0 : _ = some (Value.bool s1) := A_40.cell 0
      have cA_40_1 : _ = some (Value.slice a1 n1' c1) := A_40.cell 1
      have cA_40_2 : _ = some (Value.slice b1 m1' d1) := A_40.cell 2
      have B_40 := B_39.next hB_40
      have cB_40_0 : _ = some (Value.bool s2) := B_40.cell 0
      have cB_40_1 : _ = some (Value.slice a2 n2' c2) := B_40.cell 1
      have cB_40_2 : _ = some (Value.slice b2 m2' d2) := B_40.cell 2
      have C_40 := C_39.next hB_40
      have cC_40_0 : _ = some (Value.bool s3) := C_40.cell 0
      have cC_40_1 : _ = some (Value.slice a3 n3' c3) := C_40.cell 1
      have cC_40_2 : _ = some (Value.slice b3 m3' d3) := C_40.cell 2
      have Q1_40 := Q1_39.below hB_40
      have Q2_40 := Q2_39.below hB_40
      have Q3_40 := Q3_39.below hB_40
      have Ou_40 := Ou_39.below hB_40
      have Pu_40 := Pu_39.below hB_40
      have hbel_40 := hbel_39.next hB_40
      have hsz_40 := hB_40.size
      clear hB_40
      have D_40 := hbx
      clear hbx hbB
      have cD_40_0 : _ = some (Value.bool (qsg (x / y) 11)) := D_40.cell 0
      have cD_40_1 : _ = some (Value.slice ua un uc) := D_40.cell 1
      have cD_40_2 : _ = some (Value.slice ub um ud) := D_40.cell 2
      go_wp2_with fail
      clear A_39 cA_39_0 cA_39_1 cA_39_2 B_39 cB_39_0 cB_39_1 cB_39_2 C_39 cC_39_0 cC_39_1 cC_39_2 Q1_39 Q2_39 Q3_39 Ou_39 Pu_39 hbel_39
      generalize (w39.alloc (.cells #[Value.bool (qsg (x / y) 11), Value.slice ua un uc, Value.slice ub um ud] 32)) = v40 at *
      go_wp2_with fail
      refine (qsign Q2_40 (by omega)).mono ?_
      rw [hs0.out]
      rintro e w41 ⟨rfl, hB⟩
      have hB_41 : Below v40.heap.size v40 w41 := (by first | exact hB | exact below_drew hB | exact bel_alloc hB | exact below_drew (bel_alloc hB) | exact bel_alloc (below_drew hB) | exact bel_alloc (bel_alloc hB))
      have A_41 := A_40.next hB_41
      have cA_41_0 : _ = some (Value.bool s1) := A_41.cell 0
      have cA_41_1 : _ = some (Value.slice a1 n1' c1) := A_41.cell 1
      have cA_41_2 : _ = some (Value.slice b1 m1' d1) := A_41.cell 2
      have B_41 := B_40.next hB_41
      have cB_41_0 : _ = some (Value.bool s2) := B_41.cell 0
      have cB_41_1 : _ = some (Value.slice a2 n2' c2) := B_41.cell 1
      have cB_41_2 : _ = some (Value.slice b2 m2' d2) := B_41.cell 2
      have C_41 := C_40.next hB_41
      have cC_41_0 : _ = some (Value.bool s3) := C_41.cell 0
      have cC_41_1 : _ = some (Value.slice a3 n3' c3) := C_41.cell 1
      have cC_41_2 : _ = some (Value.slice b3 m3' d3) := C_41.cell 2
      have D_41 := D_40.next hB_41
      have cD_41_0 : _ = some (Value.bool (qsg (x / y) 11)) := D_41.cell 0
      have cD_41_1 : _ = some (Value.slice ua un uc) := D_41.cell 1
      have cD_41_2 : _ = some (Value.slice ub um ud) := D_41.cell 2
      have Q1_41 := Q1_40.below hB_41
      have Q2_41 := Q2_40.below hB_41
      have Q3_41 := Q3_40.below hB_41
      have Ou_41 := Ou_40.below hB_41
      have Pu_41 := Pu_40.below hB_41
      have hbel_41 := hbel_40.next hB_41
      have hsz_41 := hB_41.size
      clear A_40 cA_40_0 cA_40_1 cA_40_2 B_40 cB_40_0 cB_40_1 cB_40_2 C_40 cC_40_0 cC_40_1 cC_40_2 D_40 cD_40_0 cD_40_1 cD_40_2 Q1_40 Q2_40 Q3_40 Ou_40 Pu_40 hbel_40 hB_41
      try clear hB
      go_wp2
      go_ret
      exact ⟨rfl, hbel_41⟩
    · skip
      have hs0 : (sgnQ y == (0 : Int)) = false := by rcases sgnQ_cases y with ⟨_, e⟩ | ⟨h, _⟩ | ⟨_, e⟩ <;> first | (rw [e]; rfl) | exact absurd h hy0
      have he0 := hid (qE_pos hy0)
      have hdm := hid (Rat.div_mul_cancel (a := x) hy0)
      have hqd := hid (hx.out.div hy.out (by omega))
      clear hy0
      go_wp2_with fail
      refine ((qdiv Q1_38 (by omega) Q2_38 (by omega)).mono fun e w' h => retqe_ok h he0.out).mono ?_
      rintro e w39 ⟨ua, un, uc, ub, um, ud, rfl, hO, hO', hD, hB⟩
      have hB_39 : Below w38.heap.size w38 w39 := (by first | exact hB | exact below_drew hB | exact bel_alloc hB | exact below_drew (bel_alloc hB) | exact bel_alloc (below_drew hB) | exact bel_alloc (bel_alloc hB))
      have A_39 := A_38.next hB_39
      have cA_39_0 : _ = some (Value.bool s1) := A_39.cell 0
      have cA_39_1 : _ = some (Value.slice a1 n1' c1) := A_39.cell 1
      have cA_39_2 : _ = some (Value.slice b1 m1' d1) := A_39.cell 2
      have B_39 := B_38.next hB_39
      have cB_39_0 : _ = some (Value.bool s2) := B_39.cell 0
      have cB_39_1 : _ = some (Value.slice a2 n2' c2) := B_39.cell 1
      have cB_39_2 : _ = some (Value.slice b2 m2' d2) := B_39.cell 2
      have C_39 := C_38.next hB_39
      have cC_39_0 : _ = some (Value.bool s3) := C_39.cell 0
      have cC_39_1 : _ = some (Value.slice a3 n3' c3) := C_39.cell 1
      have cC_39_2 : _ = some (Value.slice b3 m3' d3) := C_39.cell 2
      have Q1_39 := Q1_38.below hB_39
      have Q2_39 := Q2_38.below hB_39
      have Q3_39 := Q3_38.below hB_39
      have hbel_39 := hbel_38.next hB_39
      have hsz_39 := hB_39.size
      clear A_38 cA_38_0 cA_38_1 cA_38_2 B_38 cB_38_0 cB_38_1 cB_38_2 C_38 cC_38_0 cC_38_1 cC_38_2 Q1_38 Q2_38 Q3_38 hbel_38 hB_39
      have Ou_39 := hO
      have ltOu := hO.ltB
      have Pu_39 := hO'
      have ltPu := hO'.ltB
      clear hO hO' hD
      try clear hB
      have hbx := blk_new w39 #[Value.bool (decide ((x / y).num < 0)), Value.slice ua un uc, Value.slice ub um ud] 32
      have hbB := (Below.refl w39.heap.size w39).alloc (Nat.le_refl _) (.cells #[Value.bool (decide ((x / y).num < 0)), Value.slice ua un uc, Value.slice ub um ud] 32)
      have hltD := hbx.lt
      have hB_40 : Below w39.heap.size w39 (w39.alloc (.cells #[Value.bool (decide ((x / y).num < 0)), Value.slice ua un uc, Value.slice ub um ud] 32)) := hbB
      have A_40 := A_39.next hB_40
      have cA_40_0 : _ = some (Value.bool s1) := A_40.cell 0
      have cA_40_1 : _ = some (Value.slice a1 n1' c1) := A_40.cell 1
      have cA_40_2 : _ = some (Value.slice b1 m1' d1) := A_40.cell 2
      have B_40 := B_39.next hB_40
      have cB_40_0 : _ = some (Value.bool s2) := B_40.cell 0
      have cB_40_1 : _ = some (Value.slice a2 n2' c2) := B_40.cell 1
      have cB_40_2 : _ = some (Value.slice b2 m2' d2) := B_40.cell 2
      have C_40 := C_39.next hB_40
      have cC_40_0 : _ = some (Value.bool s3) := C_40.cell 0
      have cC_40_1 : _ = some (Value.slice a3 n3' c3) := C_40.cell 1
      have cC_40_2 : _ = some (Value.slice b3 m3' d3) := C_40.cell 2
      have Q1_40 := Q1_39.below hB_40
      have Q2_40 := Q2_39.below hB_40
      have Q3_40 := Q3_39.below hB_40
      have Ou_40 := Ou_39.below hB_40
      have Pu_40 := Pu_39.below hB_40
      have hbel_40 := hbel_39.next hB_40
      have hsz_40 := hB_40.size
      clear hB_40
      have D_40 := hbx
      clear hbx hbB
      have cD_40_0 : _ = some (Value.bool (decide ((x / y).num < 0))) := D_40.cell 0
      have cD_40_1 : _ = some (Value.slice ua un uc) := D_40.cell 1
      have cD_40_2 : _ = some (Value.slice ub um ud) := D_40.cell 2
      go_wp2_with fail
      clear A_39 cA_39_0 cA_39_1 cA_39_2 B_39 cB_39_0 cB_39_1 cB_39_2 C_39 cC_39_0 cC_39_1 cC_39_2 Q1_39 Q2_39 Q3_39 Ou_39 Pu_39 hbel_39
      generalize (w39.alloc (.cells #[Value.bool (decide ((x / y).num < 0)), Value.slice ua un uc, Value.slice ub um ud] 32)) = v40 at *
      go_wp2_with fail
      refine (qsign Q2_40 (by omega)).mono ?_
      rintro e w41 ⟨rfl, hB⟩
      have hB_41 : Below v40.heap.size v40 w41 := (by first | exact hB | exact below_drew hB | exact bel_alloc hB | exact below_drew (bel_alloc hB) | exact bel_alloc (below_drew hB) | exact bel_alloc (bel_alloc hB))
      have A_41 := A_40.next hB_41
      have cA_41_0 : _ = some (Value.bool s1) := A_41.cell 0
      have cA_41_1 : _ = some (Value.slice a1 n1' c1) := A_41.cell 1
      have cA_41_2 : _ = some (Value.slice b1 m1' d1) := A_41.cell 2
      have B_41 := B_40.next hB_41
      have cB_41_0 : _ = some (Value.bool s2) := B_41.cell 0
      have cB_41_1 : _ = some (Value.slice a2 n2' c2) := B_41.cell 1
      have cB_41_2 : _ = some (Value.slice b2 m2' d2) := B_41.cell 2
      have C_41 := C_40.next hB_41
      have cC_41_0 : _ = some (Value.bool s3) := C_41.cell 0
      have cC_41_1 : _ = some (Value.slice a3 n3' c3) := C_41.cell 1
      have cC_41_2 : _ = some (Value.slice b3 m3' d3) := C_41.cell 2
      have D_41 := D_40.next hB_41
      have cD_41_0 : _ = some (Value.bool (decide ((x / y).num < 0))) := D_41.cell 0
      have cD_41_1 : _ = some (Value.slice ua un uc) := D_41.cell 1
      have cD_41_2 : _ = some (Value.slice ub um ud) := D_41.cell 2
      have Q1_41 := Q1_40.below hB_41
      have Q2_41 := Q2_40.below hB_41
      have Q3_41 := Q3_40.below hB_41
      have Ou_41 := Ou_40.below hB_41
      have Pu_41 := Pu_40.below hB_41
      have hbel_41 := hbel_40.next hB_41
      have hsz_41 := hB_41.size
      clear A_40 cA_40_0 cA_40_1 cA_40_2 B_40 cB_40_0 cB_40_1 cB_40_2 C_40 cC_40_0 cC_40_1 cC_40_2 D_40 cD_40_0 cD_40_1 cD_40_2 Q1_40 Q2_40 Q3_40 Ou_40 Pu_40 hbel_40 hB_41
      try clear hB
      go_wp2_with fail
      go_region_held3 (fun w' => w'.cell? ⟨w2.heap.size, 0, none⟩ = some (Value.bool s1) ∧ w'.cell? ⟨w2.heap.size, 1, none⟩ = some (Value.slice a1 n1' c1) ∧ w'.cell? ⟨w2.heap.size, 2, none⟩ = some (Value.slice b1 m1' d1) ∧ w'.cell? ⟨w4.heap.size, 0, none⟩ = some (Value.bool s2) ∧ w'.cell? ⟨w4.heap.size, 1, none⟩ = some (Value.slice a2 n2' c2) ∧ w'.cell? ⟨w4.heap.size, 2, none⟩ = some (Value.slice b2 m2' d2) ∧ w'.cell? ⟨w6.heap.size, 0, none⟩ = some (Value.bool s3) ∧ w'.cell? ⟨w6.heap.size, 1, none⟩ = some (Value.slice a3 n3' c3) ∧ w'.cell? ⟨w6.heap.size, 2, none⟩ = some (Value.slice b3 m3' d3) ∧ w'.cell? ⟨w39.heap.size, 0, none⟩ = some (Value.bool (decide ((x / y).num < 0))) ∧ w'.cell? ⟨w39.heap.size, 1, none⟩ = some (Value.slice ua un uc) ∧ w'.cell? ⟨w39.heap.size, 2, none⟩ = some (Value.slice ub um ud))
        (first | exact ⟨cA_41_0, cA_41_1, cA_41_2, cB_41_0, cB_41_1, cB_41_2, cC_41_0, cC_41_1, cC_41_2, cD_41_0, cD_41_1, cD_41_2⟩ | exact ⟨cA_42_0, cA_42_1, cA_42_2, cB_42_0, cB_42_1, cB_42_2, cC_42_0, cC_42_1, cC_42_2, cD_42_0, cD_42_1, cD_42_2⟩ | exact ⟨cA_43_0, cA_43_1, cA_43_2, cB_43_0, cB_43_1, cB_43_2, cC_43_0, cC_43_1, cC_43_2, cD_43_0, cD_43_1, cD_43_2⟩ | exact ⟨cA_44_0, cA_44_1, cA_44_2, cB_44_0, cB_44_1, cB_44_2, cC_44_0, cC_44_1, cC_44_2, cD_44_0, cD_44_1, cD_44_2⟩ | go_keep)
        (first
          | (go_at_call 40; ((with_reducible refine (flowest (Ou_41.below (by first | exact Below.refl _ _ | exact (Below.refl _ _).drew | exact (Below.refl _ _).alloc (Nat.le_refl _) _ | exact ((Below.refl _ _).alloc (Nat.le_refl _) _).drew | exact (Below.refl _ _).drew.alloc (Nat.le_refl _) _ | exact ((Below.refl _ _).alloc (Nat.le_refl _) _).alloc (by simp) _)) (Pu_41.below (by first | exact Below.refl _ _ | exact (Below.refl _ _).drew | exact (Below.refl _ _).alloc (Nat.le_refl _) _ | exact ((Below.refl _ _).alloc (Nat.le_refl _) _).drew | exact (Below.refl _ _).drew.alloc (Nat.le_refl _) _ | exact ((Below.refl _ _).alloc (Nat.le_refl _) _).alloc (by simp) _)) hqd.out (by omega)).mono ?_); (rintro e w42 ⟨rfl, hB⟩; have hB_42 : Below w41.heap.size w41 w42 := (by first | exact hB | exact below_drew hB | exact bel_alloc hB | exact below_drew (bel_alloc hB) | exact bel_alloc (below_drew hB) | exact bel_alloc (bel_alloc hB)); have A_42 := A_41.next hB_42; have cA_42_0 : _ = some (Value.bool s1) := A_42.cell 0; have cA_42_1 : _ = some (Value.slice a1 n1' c1) := A_42.cell 1; have cA_42_2 : _ = some (Value.slice b1 m1' d1) := A_42.cell 2; have B_42 := B_41.next hB_42; have cB_42_0 : _ = some (Value.bool s2) := B_42.cell 0; have cB_42_1 : _ = some (Value.slice a2 n2' c2) := B_42.cell 1; have cB_42_2 : _ = some (Value.slice b2 m2' d2) := B_42.cell 2; have C_42 := C_41.next hB_42; have cC_42_0 : _ = some (Value.bool s3) := C_42.cell 0; have cC_42_1 : _ = some (Value.slice a3 n3' c3) := C_42.cell 1; have cC_42_2 : _ = some (Value.slice b3 m3' d3) := C_42.cell 2; have D_42 := D_41.next hB_42; have cD_42_0 : _ = some (Value.bool (decide ((x / y).num < 0))) := D_42.cell 0; have cD_42_1 : _ = some (Value.slice ua un uc) := D_42.cell 1; have cD_42_2 : _ = some (Value.slice ub um ud) := D_42.cell 2; have Q1_42 := Q1_41.below hB_42; have Q2_42 := Q2_41.below hB_42; have Q3_42 := Q3_41.below hB_42; have Ou_42 := Ou_41.below hB_42; have Pu_42 := Pu_41.below hB_42; have hbel_42 := hbel_41.next hB_42; have hsz_42 := hB_42.size; clear A_41 cA_41_0 cA_41_1 cA_41_2 B_41 cB_41_0 cB_41_1 cB_41_2 C_41 cC_41_0 cC_41_1 cC_41_2 D_41 cD_41_0 cD_41_1 cD_41_2 Q1_41 Q2_41 Q3_41 Ou_41 Pu_41 hbel_41 hB_42; try clear hB)))
          | (go_at_call 43; ((with_reducible refine (qmul ((Ou_42.below (by first | exact Below.refl _ _ | exact (Below.refl _ _).drew | exact (Below.refl _ _).alloc (Nat.le_refl _) _ | exact ((Below.refl _ _).alloc (Nat.le_refl _) _).drew | exact (Below.refl _ _).drew.alloc (Nat.le_refl _) _ | exact ((Below.refl _ _).alloc (Nat.le_refl _) _).alloc (by simp) _)).rdQ (Pu_42.below (by first | exact Below.refl _ _ | exact (Below.refl _ _).drew | exact (Below.refl _ _).alloc (Nat.le_refl _) _ | exact ((Below.refl _ _).alloc (Nat.le_refl _) _).drew | exact (Below.refl _ _).drew.alloc (Nat.le_refl _) _ | exact ((Below.refl _ _).alloc (Nat.le_refl _) _).alloc (by simp) _)) hqd.out) (by omega) (Q2_42.below (by first | exact Below.refl _ _ | exact (Below.refl _ _).drew | exact (Below.refl _ _).alloc (Nat.le_refl _) _ | exact ((Below.refl _ _).alloc (Nat.le_refl _) _).drew | exact (Below.refl _ _).drew.alloc (Nat.le_refl _) _ | exact ((Below.refl _ _).alloc (Nat.le_refl _) _).alloc (by simp) _)) (by omega)).mono ?_); (rintro e w43 ⟨r29a, r29n, r29c, r29b, r29m, r29d, rfl, hO, hO', hD, hB⟩; have hB_43 : Below w42.heap.size w42 w43 := (by first | exact hB | exact below_drew hB | exact bel_alloc hB | exact below_drew (bel_alloc hB) | exact bel_alloc (below_drew hB) | exact bel_alloc (bel_alloc hB)); have A_43 := A_42.next hB_43; have cA_43_0 : _ = some (Value.bool s1) := A_43.cell 0; have cA_43_1 : _ = some (Value.slice a1 n1' c1) := A_43.cell 1; have cA_43_2 : _ = some (Value.slice b1 m1' d1) := A_43.cell 2; have B_43 := B_42.next hB_43; have cB_43_0 : _ = some (Value.bool s2) := B_43.cell 0; have cB_43_1 : _ = some (Value.slice a2 n2' c2) := B_43.cell 1; have cB_43_2 : _ = some (Value.slice b2 m2' d2) := B_43.cell 2; have C_43 := C_42.next hB_43; have cC_43_0 : _ = some (Value.bool s3) := C_43.cell 0; have cC_43_1 : _ = some (Value.slice a3 n3' c3) := C_43.cell 1; have cC_43_2 : _ = some (Value.slice b3 m3' d3) := C_43.cell 2; have D_43 := D_42.next hB_43; have cD_43_0 : _ = some (Value.bool (decide ((x / y).num < 0))) := D_43.cell 0; have cD_43_1 : _ = some (Value.slice ua un uc) := D_43.cell 1; have cD_43_2 : _ = some (Value.slice ub um ud) := D_43.cell 2; have Q1_43 := Q1_42.below hB_43; have Q2_43 := Q2_42.below hB_43; have Q3_43 := Q3_42.below hB_43; have Ou_43 := Ou_42.below hB_43; have Pu_43 := Pu_42.below hB_43; have hbel_43 := hbel_42.next hB_43; have hsz_43 := hB_43.size; clear A_42 cA_42_0 cA_42_1 cA_42_2 B_42 cB_42_0 cB_42_1 cB_42_2 C_42 cC_42_0 cC_42_1 cC_42_2 D_42 cD_42_0 cD_42_1 cD_42_2 Q1_42 Q2_42 Q3_42 Ou_42 Pu_42 hbel_42 hB_43; have Or29_43 := hO; have ltOr29 := hO.ltB; have Pr29_43 := hO'; have ltPr29 := hO'.ltB; clear hO hO' hD; try clear hB)))
          | (go_at_call 39; ((with_reducible refine (qcmp ((Or29_43.below (by first | exact Below.refl _ _ | exact (Below.refl _ _).drew | exact (Below.refl _ _).alloc (Nat.le_refl _) _ | exact ((Below.refl _ _).alloc (Nat.le_refl _) _).drew | exact (Below.refl _ _).drew.alloc (Nat.le_refl _) _ | exact ((Below.refl _ _).alloc (Nat.le_refl _) _).alloc (by simp) _)).rdQ (Pr29_43.below (by first | exact Below.refl _ _ | exact (Below.refl _ _).drew | exact (Below.refl _ _).alloc (Nat.le_refl _) _ | exact ((Below.refl _ _).alloc (Nat.le_refl _) _).drew | exact (Below.refl _ _).drew.alloc (Nat.le_refl _) _ | exact ((Below.refl _ _).alloc (Nat.le_refl _) _).alloc (by simp) _)) (hqd.out.mul hy.out)) (by omega) (Q1_43.below (by first | exact Below.refl _ _ | exact (Below.refl _ _).drew | exact (Below.refl _ _).alloc (Nat.le_refl _) _ | exact ((Below.refl _ _).alloc (Nat.le_refl _) _).drew | exact (Below.refl _ _).drew.alloc (Nat.le_refl _) _ | exact ((Below.refl _ _).alloc (Nat.le_refl _) _).alloc (by simp) _)) (by omega)).mono ?_); (rw [show cmpQ (x / y * y) x = 0 from cmpQ_eq hdm.out]; rintro e w44 ⟨rfl, hB⟩; have hB_44 : Below w43.heap.size w43 w44 := (by first | exact hB | exact below_drew hB | exact bel_alloc hB | exact below_drew (bel_alloc hB) | exact bel_alloc (below_drew hB) | exact bel_alloc (bel_alloc hB)); have A_44 := A_43.next hB_44; have cA_44_0 : _ = some (Value.bool s1) := A_44.cell 0; have cA_44_1 : _ = some (Value.slice a1 n1' c1) := A_44.cell 1; have cA_44_2 : _ = some (Value.slice b1 m1' d1) := A_44.cell 2; have B_44 := B_43.next hB_44; have cB_44_0 : _ = some (Value.bool s2) := B_44.cell 0; have cB_44_1 : _ = some (Value.slice a2 n2' c2) := B_44.cell 1; have cB_44_2 : _ = some (Value.slice b2 m2' d2) := B_44.cell 2; have C_44 := C_43.next hB_44; have cC_44_0 : _ = some (Value.bool s3) := C_44.cell 0; have cC_44_1 : _ = some (Value.slice a3 n3' c3) := C_44.cell 1; have cC_44_2 : _ = some (Value.slice b3 m3' d3) := C_44.cell 2; have D_44 := D_43.next hB_44; have cD_44_0 : _ = some (Value.bool (decide ((x / y).num < 0))) := D_44.cell 0; have cD_44_1 : _ = some (Value.slice ua un uc) := D_44.cell 1; have cD_44_2 : _ = some (Value.slice ub um ud) := D_44.cell 2; have Q1_44 := Q1_43.below hB_44; have Q2_44 := Q2_43.below hB_44; have Q3_44 := Q3_43.below hB_44; have Ou_44 := Ou_43.below hB_44; have Pu_44 := Pu_43.below hB_44; have Or29_44 := Or29_43.below hB_44; have Pr29_44 := Pr29_43.below hB_44; have hbel_44 := hbel_43.next hB_44; have hsz_44 := hB_44.size; clear A_43 cA_43_0 cA_43_1 cA_43_2 B_43 cB_43_0 cB_43_1 cB_43_2 C_43 cC_43_0 cC_43_1 cC_43_2 D_43 cD_43_0 cD_43_1 cD_43_2 Q1_43 Q2_43 Q3_43 Ou_43 Pu_43 Or29_43 Pr29_43 hbel_43 hB_44; try clear hB))))
      clear Or29_44
      clear Pr29_44
      have hwc : IntKind.i64.wrap (cmpQ x y) = cmpQ x y := by rw [IntKind.wrap_i64]; omega
      have hcc : (cmpQ x y == cmpQ x y) = true := beq_self_eq_true _
      have hwn : IntKind.i64.wrap (-(-cmpQ x y)) = cmpQ x y := by rw [Int.neg_neg]; exact hwc
      go_wp2_with fail
      go_region_held3 (fun w' => w'.cell? ⟨w2.heap.size, 0, none⟩ = some (Value.bool s1) ∧ w'.cell? ⟨w2.heap.size, 1, none⟩ = some (Value.slice a1 n1' c1) ∧ w'.cell? ⟨w2.heap.size, 2, none⟩ = some (Value.slice b1 m1' d1) ∧ w'.cell? ⟨w4.heap.size, 0, none⟩ = some (Value.bool s2) ∧ w'.cell? ⟨w4.heap.size, 1, none⟩ = some (Value.slice a2 n2' c2) ∧ w'.cell? ⟨w4.heap.size, 2, none⟩ = some (Value.slice b2 m2' d2) ∧ w'.cell? ⟨w6.heap.size, 0, none⟩ = some (Value.bool s3) ∧ w'.cell? ⟨w6.heap.size, 1, none⟩ = some (Value.slice a3 n3' c3) ∧ w'.cell? ⟨w6.heap.size, 2, none⟩ = some (Value.slice b3 m3' d3) ∧ w'.cell? ⟨w39.heap.size, 0, none⟩ = some (Value.bool (decide ((x / y).num < 0))) ∧ w'.cell? ⟨w39.heap.size, 1, none⟩ = some (Value.slice ua un uc) ∧ w'.cell? ⟨w39.heap.size, 2, none⟩ = some (Value.slice ub um ud))
        (first | exact ⟨cA_44_0, cA_44_1, cA_44_2, cB_44_0, cB_44_1, cB_44_2, cC_44_0, cC_44_1, cC_44_2, cD_44_0, cD_44_1, cD_44_2⟩ | exact ⟨cA_45_0, cA_45_1, cA_45_2, cB_45_0, cB_45_1, cB_45_2, cC_45_0, cC_45_1, cC_45_2, cD_45_0, cD_45_1, cD_45_2⟩ | exact ⟨cA_46_0, cA_46_1, cA_46_2, cB_46_0, cB_46_1, cB_46_2, cC_46_0, cC_46_1, cC_46_2, cD_46_0, cD_46_1, cD_46_2⟩ | exact ⟨cA_47_0, cA_47_1, cA_47_2, cB_47_0, cB_47_1, cB_47_2, cC_47_0, cC_47_1, cC_47_2, cD_47_0, cD_47_1, cD_47_2⟩ | exact ⟨cA_48_0, cA_48_1, cA_48_2, cB_48_0, cB_48_1, cB_48_2, cC_48_0, cC_48_1, cC_48_2, cD_48_0, cD_48_1, cD_48_2⟩ | exact ⟨cA_49_0, cA_49_1, cA_49_2, cB_49_0, cB_49_1, cB_49_2, cC_49_0, cC_49_1, cC_49_2, cD_49_0, cD_49_1, cD_49_2⟩ | go_keep)
        (first
          | (go_at_call 39; ((with_reducible refine (qcmp (Q1_44.below (by first | exact Below.refl _ _ | exact (Below.refl _ _).drew | exact (Below.refl _ _).alloc (Nat.le_refl _) _ | exact ((Below.refl _ _).alloc (Nat.le_refl _) _).drew | exact (Below.refl _ _).drew.alloc (Nat.le_refl _) _ | exact ((Below.refl _ _).alloc (Nat.le_refl _) _).alloc (by simp) _)) (by omega) (Q2_44.below (by first | exact Below.refl _ _ | exact (Below.refl _ _).drew | exact (Below.refl _ _).alloc (Nat.le_refl _) _ | exact ((Below.refl _ _).alloc (Nat.le_refl _) _).drew | exact (Below.refl _ _).drew.alloc (Nat.le_refl _) _ | exact ((Below.refl _ _).alloc (Nat.le_refl _) _).alloc (by simp) _)) (by omega)).mono ?_); (rintro e w45 ⟨rfl, hB⟩; have hB_45 : Below w44.heap.size w44 w45 := (by first | exact hB | exact below_drew hB | exact bel_alloc hB | exact below_drew (bel_alloc hB) | exact bel_alloc (below_drew hB) | exact bel_alloc (bel_alloc hB)); have A_45 := A_44.next hB_45; have cA_45_0 : _ = some (Value.bool s1) := A_45.cell 0; have cA_45_1 : _ = some (Value.slice a1 n1' c1) := A_45.cell 1; have cA_45_2 : _ = some (Value.slice b1 m1' d1) := A_45.cell 2; have B_45 := B_44.next hB_45; have cB_45_0 : _ = some (Value.bool s2) := B_45.cell 0; have cB_45_1 : _ = some (Value.slice a2 n2' c2) := B_45.cell 1; have cB_45_2 : _ = some (Value.slice b2 m2' d2) := B_45.cell 2; have C_45 := C_44.next hB_45; have cC_45_0 : _ = some (Value.bool s3) := C_45.cell 0; have cC_45_1 : _ = some (Value.slice a3 n3' c3) := C_45.cell 1; have cC_45_2 : _ = some (Value.slice b3 m3' d3) := C_45.cell 2; have D_45 := D_44.next hB_45; have cD_45_0 : _ = some (Value.bool (decide ((x / y).num < 0))) := D_45.cell 0; have cD_45_1 : _ = some (Value.slice ua un uc) := D_45.cell 1; have cD_45_2 : _ = some (Value.slice ub um ud) := D_45.cell 2; have Q1_45 := Q1_44.below hB_45; have Q2_45 := Q2_44.below hB_45; have Q3_45 := Q3_44.below hB_45; have Ou_45 := Ou_44.below hB_45; have Pu_45 := Pu_44.below hB_45; have hbel_45 := hbel_44.next hB_45; have hsz_45 := hB_45.size; clear A_44 cA_44_0 cA_44_1 cA_44_2 B_44 cB_44_0 cB_44_1 cB_44_2 C_44 cC_44_0 cC_44_1 cC_44_2 D_44 cD_44_0 cD_44_1 cD_44_2 Q1_44 Q2_44 Q3_44 Ou_44 Pu_44 hbel_44 hB_45; try clear hB)))
          | (go_at_call 44; ((with_reducible refine (qsub (Q1_45.below (by first | exact Below.refl _ _ | exact (Below.refl _ _).drew | exact (Below.refl _ _).alloc (Nat.le_refl _) _ | exact ((Below.refl _ _).alloc (Nat.le_refl _) _).drew | exact (Below.refl _ _).drew.alloc (Nat.le_refl _) _ | exact ((Below.refl _ _).alloc (Nat.le_refl _) _).alloc (by simp) _)) (by omega) (Q2_45.below (by first | exact Below.refl _ _ | exact (Below.refl _ _).drew | exact (Below.refl _ _).alloc (Nat.le_refl _) _ | exact ((Below.refl _ _).alloc (Nat.le_refl _) _).drew | exact (Below.refl _ _).drew.alloc (Nat.le_refl _) _ | exact ((Below.refl _ _).alloc (Nat.le_refl _) _).alloc (by simp) _)) (by omega)).mono ?_); (rintro e w46 ⟨r30a, r30n, r30c, r30b, r30m, r30d, rfl, hO, hO', hD, hB⟩; have hB_46 : Below w45.heap.size w45 w46 := (by first | exact hB | exact below_drew hB | exact bel_alloc hB | exact below_drew (bel_alloc hB) | exact bel_alloc (below_drew hB) | exact bel_alloc (bel_alloc hB)); have A_46 := A_45.next hB_46; have cA_46_0 : _ = some (Value.bool s1) := A_46.cell 0; have cA_46_1 : _ = some (Value.slice a1 n1' c1) := A_46.cell 1; have cA_46_2 : _ = some (Value.slice b1 m1' d1) := A_46.cell 2; have B_46 := B_45.next hB_46; have cB_46_0 : _ = some (Value.bool s2) := B_46.cell 0; have cB_46_1 : _ = some (Value.slice a2 n2' c2) := B_46.cell 1; have cB_46_2 : _ = some (Value.slice b2 m2' d2) := B_46.cell 2; have C_46 := C_45.next hB_46; have cC_46_0 : _ = some (Value.bool s3) := C_46.cell 0; have cC_46_1 : _ = some (Value.slice a3 n3' c3) := C_46.cell 1; have cC_46_2 : _ = some (Value.slice b3 m3' d3) := C_46.cell 2; have D_46 := D_45.next hB_46; have cD_46_0 : _ = some (Value.bool (decide ((x / y).num < 0))) := D_46.cell 0; have cD_46_1 : _ = some (Value.slice ua un uc) := D_46.cell 1; have cD_46_2 : _ = some (Value.slice ub um ud) := D_46.cell 2; have Q1_46 := Q1_45.below hB_46; have Q2_46 := Q2_45.below hB_46; have Q3_46 := Q3_45.below hB_46; have Ou_46 := Ou_45.below hB_46; have Pu_46 := Pu_45.below hB_46; have hbel_46 := hbel_45.next hB_46; have hsz_46 := hB_46.size; clear A_45 cA_45_0 cA_45_1 cA_45_2 B_45 cB_45_0 cB_45_1 cB_45_2 C_45 cC_45_0 cC_45_1 cC_45_2 D_45 cD_45_0 cD_45_1 cD_45_2 Q1_45 Q2_45 Q3_45 Ou_45 Pu_45 hbel_45 hB_46; have Or30_46 := hO; have ltOr30 := hO.ltB; have Pr30_46 := hO'; have ltPr30 := hO'.ltB; clear hO hO' hD; try clear hB)))
          | (go_at_call 45; ((with_reducible refine (qsign ((Or30_46.below (by first | exact Below.refl _ _ | exact (Below.refl _ _).drew | exact (Below.refl _ _).alloc (Nat.le_refl _) _ | exact ((Below.refl _ _).alloc (Nat.le_refl _) _).drew | exact (Below.refl _ _).drew.alloc (Nat.le_refl _) _ | exact ((Below.refl _ _).alloc (Nat.le_refl _) _).alloc (by simp) _)).rdQ (Pr30_46.below (by first | exact Below.refl _ _ | exact (Below.refl _ _).drew | exact (Below.refl _ _).alloc (Nat.le_refl _) _ | exact ((Below.refl _ _).alloc (Nat.le_refl _) _).drew | exact (Below.refl _ _).drew.alloc (Nat.le_refl _) _ | exact ((Below.refl _ _).alloc (Nat.le_refl _) _).alloc (by simp) _)) (hx.out.sub hy.out)) (by omega)).mono ?_); (rw [← hcsh.out]; rintro e w47 ⟨rfl, hB⟩; have hB_47 : Below w46.heap.size w46 w47 := (by first | exact hB | exact below_drew hB | exact bel_alloc hB | exact below_drew (bel_alloc hB) | exact bel_alloc (below_drew hB) | exact bel_alloc (bel_alloc hB)); have A_47 := A_46.next hB_47; have cA_47_0 : _ = some (Value.bool s1) := A_47.cell 0; have cA_47_1 : _ = some (Value.slice a1 n1' c1) := A_47.cell 1; have cA_47_2 : _ = some (Value.slice b1 m1' d1) := A_47.cell 2; have B_47 := B_46.next hB_47; have cB_47_0 : _ = some (Value.bool s2) := B_47.cell 0; have cB_47_1 : _ = some (Value.slice a2 n2' c2) := B_47.cell 1; have cB_47_2 : _ = some (Value.slice b2 m2' d2) := B_47.cell 2; have C_47 := C_46.next hB_47; have cC_47_0 : _ = some (Value.bool s3) := C_47.cell 0; have cC_47_1 : _ = some (Value.slice a3 n3' c3) := C_47.cell 1; have cC_47_2 : _ = some (Value.slice b3 m3' d3) := C_47.cell 2; have D_47 := D_46.next hB_47; have cD_47_0 : _ = some (Value.bool (decide ((x / y).num < 0))) := D_47.cell 0; have cD_47_1 : _ = some (Value.slice ua un uc) := D_47.cell 1; have cD_47_2 : _ = some (Value.slice ub um ud) := D_47.cell 2; have Q1_47 := Q1_46.below hB_47; have Q2_47 := Q2_46.below hB_47; have Q3_47 := Q3_46.below hB_47; have Ou_47 := Ou_46.below hB_47; have Pu_47 := Pu_46.below hB_47; have Or30_47 := Or30_46.below hB_47; have Pr30_47 := Pr30_46.below hB_47; have hbel_47 := hbel_46.next hB_47; have hsz_47 := hB_47.size; clear A_46 cA_46_0 cA_46_1 cA_46_2 B_46 cB_46_0 cB_46_1 cB_46_2 C_46 cC_46_0 cC_46_1 cC_46_2 D_46 cD_46_0 cD_46_1 cD_46_2 Q1_46 Q2_46 Q3_46 Ou_46 Pu_46 Or30_46 Pr30_46 hbel_46 hB_47; try clear hB)))
          | (go_at_call 39; ((with_reducible refine (qcmp (Q1_47.below (by first | exact Below.refl _ _ | exact (Below.refl _ _).drew | exact (Below.refl _ _).alloc (Nat.le_refl _) _ | exact ((Below.refl _ _).alloc (Nat.le_refl _) _).drew | exact (Below.refl _ _).drew.alloc (Nat.le_refl _) _ | exact ((Below.refl _ _).alloc (Nat.le_refl _) _).alloc (by simp) _)) (by omega) (Q2_47.below (by first | exact Below.refl _ _ | exact (Below.refl _ _).drew | exact (Below.refl _ _).alloc (Nat.le_refl _) _ | exact ((Below.refl _ _).alloc (Nat.le_refl _) _).drew | exact (Below.refl _ _).drew.alloc (Nat.le_refl _) _ | exact ((Below.refl _ _).alloc (Nat.le_refl _) _).alloc (by simp) _)) (by omega)).mono ?_); (rintro e w48 ⟨rfl, hB⟩; have hB_48 : Below w47.heap.size w47 w48 := (by first | exact hB | exact below_drew hB | exact bel_alloc hB | exact below_drew (bel_alloc hB) | exact bel_alloc (below_drew hB) | exact bel_alloc (bel_alloc hB)); have A_48 := A_47.next hB_48; have cA_48_0 : _ = some (Value.bool s1) := A_48.cell 0; have cA_48_1 : _ = some (Value.slice a1 n1' c1) := A_48.cell 1; have cA_48_2 : _ = some (Value.slice b1 m1' d1) := A_48.cell 2; have B_48 := B_47.next hB_48; have cB_48_0 : _ = some (Value.bool s2) := B_48.cell 0; have cB_48_1 : _ = some (Value.slice a2 n2' c2) := B_48.cell 1; have cB_48_2 : _ = some (Value.slice b2 m2' d2) := B_48.cell 2; have C_48 := C_47.next hB_48; have cC_48_0 : _ = some (Value.bool s3) := C_48.cell 0; have cC_48_1 : _ = some (Value.slice a3 n3' c3) := C_48.cell 1; have cC_48_2 : _ = some (Value.slice b3 m3' d3) := C_48.cell 2; have D_48 := D_47.next hB_48; have cD_48_0 : _ = some (Value.bool (decide ((x / y).num < 0))) := D_48.cell 0; have cD_48_1 : _ = some (Value.slice ua un uc) := D_48.cell 1; have cD_48_2 : _ = some (Value.slice ub um ud) := D_48.cell 2; have Q1_48 := Q1_47.below hB_48; have Q2_48 := Q2_47.below hB_48; have Q3_48 := Q3_47.below hB_48; have Ou_48 := Ou_47.below hB_48; have Pu_48 := Pu_47.below hB_48; have Or30_48 := Or30_47.below hB_48; have Pr30_48 := Pr30_47.below hB_48; have hbel_48 := hbel_47.next hB_48; have hsz_48 := hB_48.size; clear A_47 cA_47_0 cA_47_1 cA_47_2 B_47 cB_47_0 cB_47_1 cB_47_2 C_47 cC_47_0 cC_47_1 cC_47_2 D_47 cD_47_0 cD_47_1 cD_47_2 Q1_47 Q2_47 Q3_47 Ou_47 Pu_47 Or30_47 Pr30_47 hbel_47 hB_48; try clear hB)))
          | (go_at_call 39; ((with_reducible refine (qcmp (Q2_48.below (by first | exact Below.refl _ _ | exact (Below.refl _ _).drew | exact (Below.refl _ _).alloc (Nat.le_refl _) _ | exact ((Below.refl _ _).alloc (Nat.le_refl _) _).drew | exact (Below.refl _ _).drew.alloc (Nat.le_refl _) _ | exact ((Below.refl _ _).alloc (Nat.le_refl _) _).alloc (by simp) _)) (by omega) (Q1_48.below (by first | exact Below.refl _ _ | exact (Below.refl _ _).drew | exact (Below.refl _ _).alloc (Nat.le_refl _) _ | exact ((Below.refl _ _).alloc (Nat.le_refl _) _).drew | exact (Below.refl _ _).drew.alloc (Nat.le_refl _) _ | exact ((Below.refl _ _).alloc (Nat.le_refl _) _).alloc (by simp) _)) (by omega)).mono ?_); (rw [hcwh.out]; rintro e w49 ⟨rfl, hB⟩; have hB_49 : Below w48.heap.size w48 w49 := (by first | exact hB | exact below_drew hB | exact bel_alloc hB | exact below_drew (bel_alloc hB) | exact bel_alloc (below_drew hB) | exact bel_alloc (bel_alloc hB)); have A_49 := A_48.next hB_49; have cA_49_0 : _ = some (Value.bool s1) := A_49.cell 0; have cA_49_1 : _ = some (Value.slice a1 n1' c1) := A_49.cell 1; have cA_49_2 : _ = some (Value.slice b1 m1' d1) := A_49.cell 2; have B_49 := B_48.next hB_49; have cB_49_0 : _ = some (Value.bool s2) := B_49.cell 0; have cB_49_1 : _ = some (Value.slice a2 n2' c2) := B_49.cell 1; have cB_49_2 : _ = some (Value.slice b2 m2' d2) := B_49.cell 2; have C_49 := C_48.next hB_49; have cC_49_0 : _ = some (Value.bool s3) := C_49.cell 0; have cC_49_1 : _ = some (Value.slice a3 n3' c3) := C_49.cell 1; have cC_49_2 : _ = some (Value.slice b3 m3' d3) := C_49.cell 2; have D_49 := D_48.next hB_49; have cD_49_0 : _ = some (Value.bool (decide ((x / y).num < 0))) := D_49.cell 0; have cD_49_1 : _ = some (Value.slice ua un uc) := D_49.cell 1; have cD_49_2 : _ = some (Value.slice ub um ud) := D_49.cell 2; have Q1_49 := Q1_48.below hB_49; have Q2_49 := Q2_48.below hB_49; have Q3_49 := Q3_48.below hB_49; have Ou_49 := Ou_48.below hB_49; have Pu_49 := Pu_48.below hB_49; have Or30_49 := Or30_48.below hB_49; have Pr30_49 := Pr30_48.below hB_49; have hbel_49 := hbel_48.next hB_49; have hsz_49 := hB_49.size; clear A_48 cA_48_0 cA_48_1 cA_48_2 B_48 cB_48_0 cB_48_1 cB_48_2 C_48 cC_48_0 cC_48_1 cC_48_2 D_48 cD_48_0 cD_48_1 cD_48_2 Q1_48 Q2_48 Q3_48 Ou_48 Pu_48 Or30_48 Pr30_48 hbel_48 hB_49; try clear hB))))
      clear Or30_49
      clear Pr30_49
      go_wp2
      go_ret
      first | exact ⟨rfl, hbel_49⟩ | exact ⟨by simp [hwc, hcc], hbel_49⟩

end Go.Proofs.Ytenmjgnhneofjaa
