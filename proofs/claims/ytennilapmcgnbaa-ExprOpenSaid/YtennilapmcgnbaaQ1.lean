/- WALKS OF FRACTIONS, 1: lowest terms, denominators, numerators over another. -/
import Derived.Test.YtennilapmcgnbaaMq
namespace Go.Proofs.Ytennilapmcgnbaa
set_option linter.unusedVariables false
set_option linter.unusedSimpArgs false
open Go.ChangeShapes Go.WideShapes Go.ChangeAt Go.RowKit Go.NatP

set_option maxRecDepth 100000 in
set_option maxHeartbeats 4000000 in
theorem qlow {w : World} {a b : Option Addr} {n c m d u v : Nat} (s : Bool) (ha : RdN 4194304 w a n c u) (hb : RdN 4194304 w b m d v) (hv : v ≠ 0) :
    Calls Try.prog 35 #[.bool s, .slice a n c, .slice b m d] w (RetQ w (mkRat (zv s u) v)) := by
  have hsu := hid ha.sz
  have hsv := hid hb.sz
  have hg : Nat.gcd u v ≠ 0 := by have := Nat.gcd_pos_of_pos_right u (show 0 < v by omega); omega
  have hsg : Hid (Sz (Nat.gcd u v) 4194304) := hsv.out.mono (Nat.gcd_le_right _ (by omega)) (Nat.le_refl _)
  have hnum := hid (num_low s u hv)
  have hden := hid (den_low s u hv)
  have hq := hid (hsu.out.mono (Nat.div_le_self u (Nat.gcd u v)) (Nat.le_refl _))
  have hgh := hid hg
  clear hg hv
  have hent := ent1 w #[Value.bool false, Value.slice none 0 0, Value.slice none 0 0] 28
  go_enter Try.func35, Try.ntmps35
  go_wp2_with fail
  generalize (w.alloc (.cells #[Value.bool false, Value.slice none 0 0, Value.slice none 0 0] 28)) = W0 at hent ⊢
  obtain ⟨R0_0, hbel_0, hsz_0⟩ := hent
  have cR0_0_0 : _ = some (Value.bool false) := R0_0.cell 0
  have fR0_0_0 := R0_0.free 0
  have cR0_0_1 : _ = some (Value.slice none 0 0) := R0_0.cell 1
  have fR0_0_1 := R0_0.free 1
  have cR0_0_2 : _ = some (Value.slice none 0 0) := R0_0.cell 2
  have fR0_0_2 := R0_0.free 2
  have ha_0 := ha.below hbel_0
  clear ha
  have hb_0 := hb.below hbel_0
  clear hb
  go_wp2_with fail
  refine (ngcdR ha_0 hb_0 (by omega) (by omega)).mono ?_
  rintro e w1 ⟨ga, gn, gc, rfl, hO, hB⟩
  have hB_1 : Below W0.heap.size W0 w1 := (bl.next hB)
  have R0_1 := R0_0.next hB_1
  have cR0_1_0 : _ = some (Value.bool false) := R0_1.cell 0
  have fR0_1_0 := R0_1.free 0
  have cR0_1_1 : _ = some (Value.slice none 0 0) := R0_1.cell 1
  have fR0_1_1 := R0_1.free 1
  have cR0_1_2 : _ = some (Value.slice none 0 0) := R0_1.cell 2
  have fR0_1_2 := R0_1.free 2
  have ha_1 := ha_0.below hB_1
  have hb_1 := hb_0.below hB_1
  have hbel_1 := hbel_0.next hB_1
  have hsz_1 := hB_1.size
  clear R0_0 cR0_0_0 fR0_0_0 cR0_0_1 fR0_0_1 cR0_0_2 fR0_0_2 ha_0 hb_0 hbel_0 hB_1
  have G_1 := hO.rdN hsg.out
  clear hO
  try clear hB
  go_wp2_with fail
  refine (ndivR ha_1 G_1 (by omega) (by omega) hgh.out).mono ?_
  rintro e w2 ⟨na, nn, nc, xa, xn, xc, rfl, hO, hO', hD, hB⟩
  have hB_2 : Below w1.heap.size w1 w2 := (bl.next hB)
  have R0_2 := R0_1.next hB_2
  have cR0_2_0 : _ = some (Value.bool false) := R0_2.cell 0
  have fR0_2_0 := R0_2.free 0
  have cR0_2_1 : _ = some (Value.slice none 0 0) := R0_2.cell 1
  have fR0_2_1 := R0_2.free 1
  have cR0_2_2 : _ = some (Value.slice none 0 0) := R0_2.cell 2
  have fR0_2_2 := R0_2.free 2
  have ha_2 := ha_1.below hB_2
  have hb_2 := hb_1.below hB_2
  have G_2 := G_1.below hB_2
  have hbel_2 := hbel_1.next hB_2
  have hsz_2 := hB_2.size
  clear R0_1 cR0_1_0 fR0_1_0 cR0_1_1 fR0_1_1 cR0_1_2 fR0_1_2 ha_1 hb_1 G_1 hbel_1 hB_2
  have N_2 := hO.rdN hq.out
  clear hO hO' hD
  try clear hB
  go_wp2_with fail
  refine (ndivR hb_2 G_2 (by omega) (by omega) hgh.out).mono ?_
  rintro e w3 ⟨da, dn, dc, ya, yn, yc, rfl, hO, hO', hD, hB⟩
  have hB_3 : Below w2.heap.size w2 w3 := (bl.next hB)
  have R0_3 := R0_2.next hB_3
  have cR0_3_0 : _ = some (Value.bool false) := R0_3.cell 0
  have fR0_3_0 := R0_3.free 0
  have cR0_3_1 : _ = some (Value.slice none 0 0) := R0_3.cell 1
  have fR0_3_1 := R0_3.free 1
  have cR0_3_2 : _ = some (Value.slice none 0 0) := R0_3.cell 2
  have fR0_3_2 := R0_3.free 2
  have ha_3 := ha_2.below hB_3
  have hb_3 := hb_2.below hB_3
  have G_3 := G_2.below hB_3
  have N_3 := N_2.below hB_3
  have hbel_3 := hbel_2.next hB_3
  have hsz_3 := hB_3.size
  clear R0_2 cR0_2_0 fR0_2_0 cR0_2_1 fR0_2_1 cR0_2_2 fR0_2_2 ha_2 hb_2 G_2 N_2 hbel_2 hB_3
  have OD_3 := hO
  have ltOD := hO.ltB
  clear hO hO' hD
  try clear hB
  go_wp2_with fail
  refine (znormR (N_3.toZ) (by omega)).mono ?_
  rintro e w4 ⟨qa, qn, qc, rfl, hO, hB⟩
  have hB_4 : Below w3.heap.size w3 w4 := (bl.next hB)
  have R0_4 := R0_3.next hB_4
  have cR0_4_0 : _ = some (Value.bool false) := R0_4.cell 0
  have fR0_4_0 := R0_4.free 0
  have cR0_4_1 : _ = some (Value.slice none 0 0) := R0_4.cell 1
  have fR0_4_1 := R0_4.free 1
  have cR0_4_2 : _ = some (Value.slice none 0 0) := R0_4.cell 2
  have fR0_4_2 := R0_4.free 2
  have ha_4 := ha_3.below hB_4
  have hb_4 := hb_3.below hB_4
  have G_4 := G_3.below hB_4
  have N_4 := N_3.below hB_4
  have OD_4 := OD_3.below hB_4
  have hbel_4 := hbel_3.next hB_4
  have hsz_4 := hB_4.size
  clear R0_3 cR0_3_0 fR0_3_0 cR0_3_1 fR0_3_1 cR0_3_2 fR0_3_2 ha_3 hb_3 G_3 N_3 OD_3 hbel_3 hB_4
  have hd := ltOD.diff hO (Nat.le_refl _)
  have OQ_4 := hO
  have ltOQ := hO.ltB
  try clear hB
  go_wp2
  refine bodyPost_ret (v := .agg #[.bool (decide (zv s (u / Nat.gcd u v) < 0)), .slice qa qn qc, .slice da dn dc]) (by simp [results, Try.results35, go_sem, cR0_4_0, cR0_4_1, cR0_4_2]) rfl ?_
  exact retq_set' hnum.out hden.out OQ_4 OD_4 hd hbel_4 (by omega) (by omega) (by omega)

set_option maxRecDepth 100000 in
set_option maxHeartbeats 4000000 in
theorem qunder1 {w : World} {a b : Option Addr} {n c m d v : Nat} {s : Bool} (hb : RdN 4194304 w b m d v) (hv : v ≠ 0) :
    Calls Try.prog 34 #[.agg #[.bool s, .slice a n c, .slice b m d]] w (Ret1 w (lm (und v))) := by
  rw [und_of hv]
  have hvh := hid hv
  clear hv
  have hent := ent1 w #[Value.bool s, Value.slice a n c, Value.slice b m d] 28
  go_enter Try.func34, Try.ntmps34
  go_wp2_with fail
  generalize (w.alloc (.cells #[Value.bool s, Value.slice a n c, Value.slice b m d] 28)) = W0 at hent ⊢
  obtain ⟨X_0, hbel_0, hsz_0⟩ := hent
  have cX_0_0 : _ = some (Value.bool s) := X_0.cell 0
  have cX_0_1 : _ = some (Value.slice a n c) := X_0.cell 1
  have cX_0_2 : _ = some (Value.slice b m d) := X_0.cell 2
  have hb_0 := hb.below hbel_0
  clear hb
  go_wp2_with fail
  refine (nnormR hb_0 (by omega)).mono ?_
  rintro e w1 ⟨ra, rn, rc, rfl, hO, hB⟩
  have hB_1 : Below W0.heap.size W0 w1 := (bl.next hB)
  have X_1 := X_0.next hB_1
  have cX_1_0 : _ = some (Value.bool s) := X_1.cell 0
  have cX_1_1 : _ = some (Value.slice a n c) := X_1.cell 1
  have cX_1_2 : _ = some (Value.slice b m d) := X_1.cell 2
  have hb_1 := hb_0.below hB_1
  have hbel_1 := hbel_0.next hB_1
  have hsz_1 := hB_1.size
  clear X_0 cX_0_0 cX_0_1 cX_0_2 hb_0 hbel_0 hB_1
  have O_1 := hO
  have ltO := hO.ltB
  have hrn : 0 < rn := by have := hO.len; have := lm_len_pos (v := v); have := hvh.out; omega
  have hdn : decide (0 < rn) = true := decide_eq_true hrn
  have hbq : ((rn : Int) == 0) = false := by simp; omega
  clear hO
  try clear hB
  go_wp2
  go_ret
  exact ⟨ra, rn, rc, rfl, O_1.mono (by omega), hbel_1⟩

set_option maxRecDepth 100000 in
set_option maxHeartbeats 4000000 in
theorem qunder0 {w : World} {a b : Option Addr} {n c m d v : Nat} {s : Bool} (hb : RdN 4194304 w b m d v) (hv : v = 0) :
    Calls Try.prog 34 #[.agg #[.bool s, .slice a n c, .slice b m d]] w (Ret1 w (lm (und v))) := by
  rw [show und v = 1 by unfold und; rw [if_pos hv]]
  have hvh := hid hv
  clear hv
  have hent := ent1 w #[Value.bool s, Value.slice a n c, Value.slice b m d] 28
  go_enter Try.func34, Try.ntmps34
  go_wp2_with fail
  generalize (w.alloc (.cells #[Value.bool s, Value.slice a n c, Value.slice b m d] 28)) = W0 at hent ⊢
  obtain ⟨X_0, hbel_0, hsz_0⟩ := hent
  have cX_0_0 : _ = some (Value.bool s) := X_0.cell 0
  have cX_0_1 : _ = some (Value.slice a n c) := X_0.cell 1
  have cX_0_2 : _ = some (Value.slice b m d) := X_0.cell 2
  have hb_0 := hb.below hbel_0
  clear hb
  go_wp2_with fail
  refine (nnormR hb_0 (by omega)).mono ?_
  rintro e w1 ⟨ra, rn, rc, rfl, hO, hB⟩
  have hB_1 : Below W0.heap.size W0 w1 := (bl.next hB)
  have X_1 := X_0.next hB_1
  have cX_1_0 : _ = some (Value.bool s) := X_1.cell 0
  have cX_1_1 : _ = some (Value.slice a n c) := X_1.cell 1
  have cX_1_2 : _ = some (Value.slice b m d) := X_1.cell 2
  have hb_1 := hb_0.below hB_1
  have hbel_1 := hbel_0.next hB_1
  have hsz_1 := hB_1.size
  clear X_0 cX_0_0 cX_0_1 cX_0_2 hb_0 hbel_0 hB_1
  have O_1 := hO
  have ltO := hO.ltB
  have hrn : rn = 0 := by have := hO.len; have := lm_len_pos (v := v); have := hvh.out; omega
  subst hrn
  clear hO
  try clear hB
  go_wp2_with fail
  refine (of_any 1 (by omega) (by omega)).mono ?_
  rintro e w2 ⟨qa, qn, qc, rfl, hO, hB⟩
  have hB_2 : Below w1.heap.size w1 w2 := (bl.next hB)
  have X_2 := X_1.next hB_2
  have cX_2_0 : _ = some (Value.bool s) := X_2.cell 0
  have cX_2_1 : _ = some (Value.slice a n c) := X_2.cell 1
  have cX_2_2 : _ = some (Value.slice b m d) := X_2.cell 2
  have hb_2 := hb_1.below hB_2
  have O_2 := O_1.below hB_2
  have hbel_2 := hbel_1.next hB_2
  have hsz_2 := hB_2.size
  clear X_1 cX_1_0 cX_1_1 cX_1_2 hb_1 O_1 hbel_1 hB_2
  have Q_2 := hO
  have ltQ := hO.ltB
  clear hO
  try clear hB
  go_wp2
  go_ret
  exact ⟨qa, qn, qc, rfl, Q_2.mono (by omega), hbel_2⟩

theorem qunder {w : World} {a b : Option Addr} {n c m d v : Nat} {s : Bool} (hb : RdN 4194304 w b m d v) : Calls Try.prog 34 #[.agg #[.bool s, .slice a n c, .slice b m d]] w (Ret1 w (lm (und v))) := by
  by_cases h : v = 0
  · exact qunder0 hb h
  · exact qunder1 hb h

set_option maxRecDepth 100000 in
set_option maxHeartbeats 4000000 in
theorem qover {w : World} {a b : Option Addr} {n c m d v : Nat} {s : Bool} {x : Int} (ha : RdZ 4194304 w s a n c x) (hb : RdN 4194304 w b m d v) :
    Calls Try.prog 33 #[.agg #[.bool s, .slice a n c], .slice b m d] w (RetZ w (x * (v : Int))) := by
  have hent := ent2 w #[Value.bool s, Value.slice a n c] #[Value.bool false, Value.slice none 0 0] 26 26
  go_enter Try.func33, Try.ntmps33
  go_wp2_with fail
  generalize ((w.alloc (.cells #[Value.bool s, Value.slice a n c] 26)).alloc (.cells #[Value.bool false, Value.slice none 0 0] 26)) = W0 at hent ⊢
  obtain ⟨X_0, R0_0, hbel_0, hsz_0⟩ := hent
  have cX_0_0 : _ = some (Value.bool s) := X_0.cell 0
  have cX_0_1 : _ = some (Value.slice a n c) := X_0.cell 1
  have cR0_0_0 : _ = some (Value.bool false) := R0_0.cell 0
  have fR0_0_0 := R0_0.free 0
  have cR0_0_1 : _ = some (Value.slice none 0 0) := R0_0.cell 1
  have fR0_0_1 := R0_0.free 1
  have ha_0 := ha.below hbel_0
  clear ha
  have hb_0 := hb.below hbel_0
  clear hb
  go_wp2_with fail
  refine (zmulR ha_0 hb_0.toI (by omega) (by omega)).mono ?_
  rintro e w1 ⟨qa, qn, qc, rfl, hO, hB⟩
  have hB_1 : Below W0.heap.size W0 w1 := (bl.next hB)
  have X_1 := X_0.next hB_1
  have cX_1_0 : _ = some (Value.bool s) := X_1.cell 0
  have cX_1_1 : _ = some (Value.slice a n c) := X_1.cell 1
  have R0_1 := R0_0.next hB_1
  have cR0_1_0 : _ = some (Value.bool false) := R0_1.cell 0
  have fR0_1_0 := R0_1.free 0
  have cR0_1_1 : _ = some (Value.slice none 0 0) := R0_1.cell 1
  have fR0_1_1 := R0_1.free 1
  have ha_1 := ha_0.below hB_1
  have hb_1 := hb_0.below hB_1
  have hbel_1 := hbel_0.next hB_1
  have hsz_1 := hB_1.size
  clear X_0 cX_0_0 cX_0_1 R0_0 cR0_0_0 fR0_0_0 cR0_0_1 fR0_0_1 ha_0 hb_0 hbel_0 hB_1
  have OQ_1 := hO
  have ltOQ := hO.ltB
  try clear hB
  go_wp2
  refine bodyPost_ret (v := .agg #[.bool (decide (x * (v : Int) < 0)), .slice qa qn qc]) (by simp [results, Try.results33, go_sem, cR0_1_0, cR0_1_1]) rfl ?_
  exact retz_set OQ_1 hbel_1 (by omega) (by omega)

end Go.Proofs.Ytennilapmcgnbaa
/- WALKS OF FRACTIONS, 3: of two whole numbers, comparison, sign, opposite, product, quotient. -/
namespace Go.Proofs.Ytennilapmcgnbaa
set_option linter.unusedVariables false
set_option linter.unusedSimpArgs false
open Go.ChangeShapes Go.WideShapes Go.ChangeAt Go.RowKit Go.NatP

theorem szInt {k : Int} (h1 : -9223372036854775808 ≤ k) (h2 : k ≤ 9223372036854775807) : Sz k.natAbs 2 := by
  show k.natAbs < 4294967296 ^ 2
  have : (4294967296 : Nat) ^ 2 = 18446744073709551616 := by decide
  omega

set_option maxRecDepth 100000 in
set_option maxHeartbeats 4000000 in
theorem qnew0 {w : World} {a b : Option Addr} {n c m d : Nat} {s t : Bool} {x y : Int} (hx : RdZ 4194304 w s a n c x) (hy : RdZ 4194304 w t b m d y) (hv : y = 0) :
    Calls Try.prog 27 #[.agg #[.bool s, .slice a n c], .agg #[.bool t, .slice b m d]] w (RetQE w (Rat.divInt x y) (zE y)) := by
  rw [zE_zero hv]
  have hs := hid (show sgn y = 0 by rw [hv]; rfl)
  clear hv
  have hent := ent3 w #[Value.bool s, Value.slice a n c] #[Value.bool t, Value.slice b m d] #[Value.bool false, Value.slice none 0 0, Value.slice none 0 0] 26 26 28
  go_enter Try.func27, Try.ntmps27
  go_wp2_with fail
  generalize (((w.alloc (.cells #[Value.bool s, Value.slice a n c] 26)).alloc (.cells #[Value.bool t, Value.slice b m d] 26)).alloc (.cells #[Value.bool false, Value.slice none 0 0, Value.slice none 0 0] 28)) = W0 at hent ⊢
  obtain ⟨X_0, Y_0, R0_0, hbel_0, hsz_0⟩ := hent
  have cX_0_0 : _ = some (Value.bool s) := X_0.cell 0
  have cX_0_1 : _ = some (Value.slice a n c) := X_0.cell 1
  have cY_0_0 : _ = some (Value.bool t) := Y_0.cell 0
  have cY_0_1 : _ = some (Value.slice b m d) := Y_0.cell 1
  have cR0_0_0 : _ = some (Value.bool false) := R0_0.cell 0
  have fR0_0_0 := R0_0.free 0
  have cR0_0_1 : _ = some (Value.slice none 0 0) := R0_0.cell 1
  have fR0_0_1 := R0_0.free 1
  have cR0_0_2 : _ = some (Value.slice none 0 0) := R0_0.cell 2
  have fR0_0_2 := R0_0.free 2
  have hy_0 := hy.below hbel_0
  clear hy
  go_wp2_with fail
  refine (zsignR hy_0 (by omega)).mono ?_
  rw [hs.out]
  rintro e w1 ⟨rfl, hB⟩
  have hB_1 : Below W0.heap.size W0 w1 := (bl.next hB)
  have X_1 := X_0.next hB_1
  have cX_1_0 : _ = some (Value.bool s) := X_1.cell 0
  have cX_1_1 : _ = some (Value.slice a n c) := X_1.cell 1
  have Y_1 := Y_0.next hB_1
  have cY_1_0 : _ = some (Value.bool t) := Y_1.cell 0
  have cY_1_1 : _ = some (Value.slice b m d) := Y_1.cell 1
  have R0_1 := R0_0.next hB_1
  have cR0_1_0 : _ = some (Value.bool false) := R0_1.cell 0
  have fR0_1_0 := R0_1.free 0
  have cR0_1_1 : _ = some (Value.slice none 0 0) := R0_1.cell 1
  have fR0_1_1 := R0_1.free 1
  have cR0_1_2 : _ = some (Value.slice none 0 0) := R0_1.cell 2
  have fR0_1_2 := R0_1.free 2
  have hy_1 := hy_0.below hB_1
  have hbel_1 := hbel_0.next hB_1
  have hsz_1 := hB_1.size
  clear X_0 cX_0_0 cX_0_1 Y_0 cY_0_0 cY_0_1 R0_0 cR0_0_0 fR0_0_0 cR0_0_1 fR0_0_1 cR0_0_2 fR0_0_2 hy_0 hbel_0 hB_1
  try clear hB
  go_wp2
  refine bodyPost_ret (v := .tuple #[.agg #[.bool false, .slice none 0 0, .slice none 0 0], .int .i64 11]) (by simp [results, Try.results27, go_sem, cR0_1_0, cR0_1_1, cR0_1_2]) rfl ?_
  exact retqe_nil (by decide) hbel_1 (by omega)

set_option maxRecDepth 100000 in
set_option maxHeartbeats 4000000 in
theorem qnew1 {w : World} {a b : Option Addr} {n c m d : Nat} {s t : Bool} {x y : Int} (hx : RdZ 4194304 w s a n c x) (hy : RdZ 4194304 w t b m d y) (hv : y ≠ 0) :
    Calls Try.prog 27 #[.agg #[.bool s, .slice a n c], .agg #[.bool t, .slice b m d]] w (RetQE w (Rat.divInt x y) (zE y)) := by
  rw [zE_pos hv]
  obtain ⟨u, hu, rfl⟩ := hx
  obtain ⟨v, hw, rfl⟩ := hy
  have hv0 : v ≠ 0 := fun e => hv (zv_eq_zero.2 e)
  rw [← divInt_zv s t u hv0]
  have hs : (sgn (zv t v) == (0 : Int)) = false := by have := sgn_cases (zv t v); simp; omega
  have hvh := hid hv0
  have hy := hw.toZ (s := t)
  clear hv hv0
  have hent := ent3 w #[Value.bool s, Value.slice a n c] #[Value.bool t, Value.slice b m d] #[Value.bool false, Value.slice none 0 0, Value.slice none 0 0] 26 26 28
  go_enter Try.func27, Try.ntmps27
  go_wp2_with fail
  generalize (((w.alloc (.cells #[Value.bool s, Value.slice a n c] 26)).alloc (.cells #[Value.bool t, Value.slice b m d] 26)).alloc (.cells #[Value.bool false, Value.slice none 0 0, Value.slice none 0 0] 28)) = W0 at hent ⊢
  obtain ⟨X_0, Y_0, R0_0, hbel_0, hsz_0⟩ := hent
  have cX_0_0 : _ = some (Value.bool s) := X_0.cell 0
  have cX_0_1 : _ = some (Value.slice a n c) := X_0.cell 1
  have cY_0_0 : _ = some (Value.bool t) := Y_0.cell 0
  have cY_0_1 : _ = some (Value.slice b m d) := Y_0.cell 1
  have cR0_0_0 : _ = some (Value.bool false) := R0_0.cell 0
  have fR0_0_0 := R0_0.free 0
  have cR0_0_1 : _ = some (Value.slice none 0 0) := R0_0.cell 1
  have fR0_0_1 := R0_0.free 1
  have cR0_0_2 : _ = some (Value.slice none 0 0) := R0_0.cell 2
  have fR0_0_2 := R0_0.free 2
  have hu_0 := hu.below hbel_0
  clear hu
  have hw_0 := hw.below hbel_0
  clear hw
  have hy_0 := hy.below hbel_0
  clear hy
  go_wp2_with fail
  refine (zsignR hy_0 (by omega)).mono ?_
  rintro e w1 ⟨rfl, hB⟩
  have hB_1 : Below W0.heap.size W0 w1 := (bl.next hB)
  have X_1 := X_0.next hB_1
  have cX_1_0 : _ = some (Value.bool s) := X_1.cell 0
  have cX_1_1 : _ = some (Value.slice a n c) := X_1.cell 1
  have Y_1 := Y_0.next hB_1
  have cY_1_0 : _ = some (Value.bool t) := Y_1.cell 0
  have cY_1_1 : _ = some (Value.slice b m d) := Y_1.cell 1
  have R0_1 := R0_0.next hB_1
  have cR0_1_0 : _ = some (Value.bool false) := R0_1.cell 0
  have fR0_1_0 := R0_1.free 0
  have cR0_1_1 : _ = some (Value.slice none 0 0) := R0_1.cell 1
  have fR0_1_1 := R0_1.free 1
  have cR0_1_2 : _ = some (Value.slice none 0 0) := R0_1.cell 2
  have fR0_1_2 := R0_1.free 2
  have hu_1 := hu_0.below hB_1
  have hw_1 := hw_0.below hB_1
  have hy_1 := hy_0.below hB_1
  have hbel_1 := hbel_0.next hB_1
  have hsz_1 := hB_1.size
  clear X_0 cX_0_0 cX_0_1 Y_0 cY_0_0 cY_0_1 R0_0 cR0_0_0 fR0_0_0 cR0_0_1 fR0_0_1 cR0_0_2 fR0_0_2 hu_0 hw_0 hy_0 hbel_0 hB_1
  try clear hB
  clear hy_1
  go_wp2_with fail
  refine (qlow (!(s == t)) hu_1 hw_1 hvh.out).mono ?_
  rintro e w2 ⟨qa, qn, qc, da, dn, dc, rfl, hO, hO', hD, hB⟩
  have hB_2 : Below w1.heap.size w1 w2 := (bl.next hB)
  have X_2 := X_1.next hB_2
  have cX_2_0 : _ = some (Value.bool s) := X_2.cell 0
  have cX_2_1 : _ = some (Value.slice a n c) := X_2.cell 1
  have Y_2 := Y_1.next hB_2
  have cY_2_0 : _ = some (Value.bool t) := Y_2.cell 0
  have cY_2_1 : _ = some (Value.slice b m d) := Y_2.cell 1
  have R0_2 := R0_1.next hB_2
  have cR0_2_0 : _ = some (Value.bool false) := R0_2.cell 0
  have fR0_2_0 := R0_2.free 0
  have cR0_2_1 : _ = some (Value.slice none 0 0) := R0_2.cell 1
  have fR0_2_1 := R0_2.free 1
  have cR0_2_2 : _ = some (Value.slice none 0 0) := R0_2.cell 2
  have fR0_2_2 := R0_2.free 2
  have hu_2 := hu_1.below hB_2
  have hw_2 := hw_1.below hB_2
  have hbel_2 := hbel_1.next hB_2
  have hsz_2 := hB_2.size
  clear X_1 cX_1_0 cX_1_1 Y_1 cY_1_0 cY_1_1 R0_1 cR0_1_0 fR0_1_0 cR0_1_1 fR0_1_1 cR0_1_2 fR0_1_2 hu_1 hw_1 hbel_1 hB_2
  have OQ_2 := hO
  have ltOQ := hO.ltB
  have OD_2 := hO'
  have ltOD := hO'.ltB
  clear hO hO'
  try clear hB
  go_wp2
  refine bodyPost_ret (v := .tuple #[.agg #[.bool (decide ((mkRat (zv (!(s == t)) u) v).num < 0)), .slice qa qn qc, .slice da dn dc], .int .i64 0]) (by simp [results, Try.results27, go_sem, cR0_2_0, cR0_2_1, cR0_2_2]) rfl ?_
  exact retqe_set (er := 0) OQ_2 OD_2 hD hbel_2 (by omega) (by omega)

theorem qnew {w : World} {a b : Option Addr} {n c m d : Nat} {s t : Bool} {x y : Int} (hx : RdZ 4194304 w s a n c x) (hy : RdZ 4194304 w t b m d y) : Calls Try.prog 27 #[.agg #[.bool s, .slice a n c], .agg #[.bool t, .slice b m d]] w (RetQE w (Rat.divInt x y) (zE y)) := by
  by_cases h : y = 0
  · exact qnew0 hx hy h
  · exact qnew1 hx hy h

set_option maxRecDepth 100000 in
set_option maxHeartbeats 4000000 in
theorem qof {w : World} (k l : Int) (h1 : -9223372036854775808 ≤ k) (h2 : k ≤ 9223372036854775807) (h3 : -9223372036854775808 ≤ l) (h4 : l ≤ 9223372036854775807) :
    Calls Try.prog 19 #[.int .i64 k, .int .i64 l] w (RetQE w (Rat.divInt k l) (zE l)) := by
  have sk := hid (szInt h1 h2)
  have sl := hid (szInt h3 h4)
  have hent := ent1 w #[Value.bool false, Value.slice none 0 0, Value.slice none 0 0] 28
  go_enter Try.func19, Try.ntmps19
  go_wp2_with fail
  generalize (w.alloc (.cells #[Value.bool false, Value.slice none 0 0, Value.slice none 0 0] 28)) = W0 at hent ⊢
  obtain ⟨R0_0, hbel_0, hsz_0⟩ := hent
  have cR0_0_0 : _ = some (Value.bool false) := R0_0.cell 0
  have fR0_0_0 := R0_0.free 0
  have cR0_0_1 : _ = some (Value.slice none 0 0) := R0_0.cell 1
  have fR0_0_1 := R0_0.free 1
  have cR0_0_2 : _ = some (Value.slice none 0 0) := R0_0.cell 2
  have fR0_0_2 := R0_0.free 2
  go_wp2_with fail
  refine (zofi_any k h1 h2).mono ?_
  rintro e w1 ⟨ka, kn, kc, rfl, hO, hB⟩
  have hB_1 : Below W0.heap.size W0 w1 := (bl.next hB)
  have R0_1 := R0_0.next hB_1
  have cR0_1_0 : _ = some (Value.bool false) := R0_1.cell 0
  have fR0_1_0 := R0_1.free 0
  have cR0_1_1 : _ = some (Value.slice none 0 0) := R0_1.cell 1
  have fR0_1_1 := R0_1.free 1
  have cR0_1_2 : _ = some (Value.slice none 0 0) := R0_1.cell 2
  have fR0_1_2 := R0_1.free 2
  have hbel_1 := hbel_0.next hB_1
  have hsz_1 := hB_1.size
  clear R0_0 cR0_0_0 fR0_0_0 cR0_0_1 fR0_0_1 cR0_0_2 fR0_0_2 hbel_0 hB_1
  have A_1 := hO.rdZ sk.out
  clear hO
  try clear hB
  go_wp2_with fail
  refine (zofi_any l h3 h4).mono ?_
  rintro e w2 ⟨la, ln, lc, rfl, hO, hB⟩
  have hB_2 : Below w1.heap.size w1 w2 := (bl.next hB)
  have R0_2 := R0_1.next hB_2
  have cR0_2_0 : _ = some (Value.bool false) := R0_2.cell 0
  have fR0_2_0 := R0_2.free 0
  have cR0_2_1 : _ = some (Value.slice none 0 0) := R0_2.cell 1
  have fR0_2_1 := R0_2.free 1
  have cR0_2_2 : _ = some (Value.slice none 0 0) := R0_2.cell 2
  have fR0_2_2 := R0_2.free 2
  have A_2 := A_1.below hB_2
  have hbel_2 := hbel_1.next hB_2
  have hsz_2 := hB_2.size
  clear R0_1 cR0_1_0 fR0_1_0 cR0_1_1 fR0_1_1 cR0_1_2 fR0_1_2 A_1 hbel_1 hB_2
  have B_2 := hO.rdZ sl.out
  clear hO
  try clear hB
  go_wp2_with fail
  refine (qnew (A_2.mono (by omega)) (B_2.mono (by omega))).mono ?_
  rintro e w3 ⟨qa, qn, qc, da, dn, dc, rfl, hO, hO', hD, hB⟩
  have hB_3 : Below w2.heap.size w2 w3 := (bl.next hB)
  have R0_3 := R0_2.next hB_3
  have cR0_3_0 : _ = some (Value.bool false) := R0_3.cell 0
  have fR0_3_0 := R0_3.free 0
  have cR0_3_1 : _ = some (Value.slice none 0 0) := R0_3.cell 1
  have fR0_3_1 := R0_3.free 1
  have cR0_3_2 : _ = some (Value.slice none 0 0) := R0_3.cell 2
  have fR0_3_2 := R0_3.free 2
  have A_3 := A_2.below hB_3
  have B_3 := B_2.below hB_3
  have hbel_3 := hbel_2.next hB_3
  have hsz_3 := hB_3.size
  clear R0_2 cR0_2_0 fR0_2_0 cR0_2_1 fR0_2_1 cR0_2_2 fR0_2_2 A_2 B_2 hbel_2 hB_3
  have OQ_3 := hO
  have ltOQ := hO.ltB
  have OD_3 := hO'
  have ltOD := hO'.ltB
  clear hO hO'
  try clear hB
  go_wp2
  refine bodyPost_ret (v := .tuple #[.agg #[.bool (qsg (Rat.divInt k l) (zE l)), .slice qa qn qc, .slice da dn dc], .int .i64 (zE l)]) (by simp [results, Try.results19, go_sem, cR0_3_0, cR0_3_1, cR0_3_2]) rfl ?_
  exact retqe_set OQ_3 OD_3 hD hbel_3 (by omega) (by omega)

set_option maxRecDepth 100000 in
set_option maxHeartbeats 4000000 in
theorem qsign {w : World} {a1 b1 : Option Addr} {n1 c1 m1 d1 : Nat} {s : Bool} {x : Rat} {J : Nat} (hx : RdQ J w s a1 n1 c1 b1 m1 d1 x) (hJ : J ≤ 1000000) :
    Calls Try.prog 30 #[.agg #[.bool s, .slice a1 n1 c1, .slice b1 m1 d1]] w (RetIb w (sgnQ x)) := by
  obtain ⟨u1, v1, h1, hd1, rfl⟩ := hx
  have hz1 := h1.toZ (s := s)
  have sd1 := hid (sz_und (hd1.sz.mono (Nat.le_refl _) (Nat.le_succ J)) (by omega))
  have su1 := hid h1.sz
  have hu1 := hid (und_ne v1)
  unfold qv
  rw [sgnQ_mk _ hu1.out]
  have hent := ent1 w #[Value.bool s, Value.slice a1 n1 c1, Value.slice b1 m1 d1] 28
  go_enter Try.func30, Try.ntmps30
  go_wp2_with fail
  generalize (w.alloc (.cells #[Value.bool s, Value.slice a1 n1 c1, Value.slice b1 m1 d1] 28)) = W0 at hent ⊢
  obtain ⟨X_0, hbel_0, hsz_0⟩ := hent
  have cX_0_0 : _ = some (Value.bool s) := X_0.cell 0
  have cX_0_1 : _ = some (Value.slice a1 n1 c1) := X_0.cell 1
  have cX_0_2 : _ = some (Value.slice b1 m1 d1) := X_0.cell 2
  have hz1_0 := hz1.below hbel_0
  clear hz1
  go_wp2_with fail
  refine (zsignR hz1_0 (by omega)).mono ?_
  rintro e w1 ⟨rfl, hB⟩
  have hB_1 : Below W0.heap.size W0 w1 := (bl.next hB)
  have X_1 := X_0.next hB_1
  have cX_1_0 : _ = some (Value.bool s) := X_1.cell 0
  have cX_1_1 : _ = some (Value.slice a1 n1 c1) := X_1.cell 1
  have cX_1_2 : _ = some (Value.slice b1 m1 d1) := X_1.cell 2
  have hz1_1 := hz1_0.below hB_1
  have hbel_1 := hbel_0.next hB_1
  have hsz_1 := hB_1.size
  clear X_0 cX_0_0 cX_0_1 cX_0_2 hz1_0 hbel_0 hB_1
  try clear hB
  go_wp2
  go_ret
  exact ⟨rfl, hbel_1⟩

set_option maxRecDepth 100000 in
set_option maxHeartbeats 4000000 in
theorem qcmp {w : World} {a1 b1 : Option Addr} {n1 c1 m1 d1 : Nat} {s : Bool} {x : Rat} {a2 b2 : Option Addr} {n2 c2 m2 d2 : Nat} {t : Bool} {y : Rat} {J K : Nat} (hx : RdQ J w s a1 n1 c1 b1 m1 d1 x) (hJ : J ≤ 1000000) (hy : RdQ K w t a2 n2 c2 b2 m2 d2 y) (hK : K ≤ 1000000) :
    Calls Try.prog 14 #[.agg #[.bool s, .slice a1 n1 c1, .slice b1 m1 d1], .agg #[.bool t, .slice a2 n2 c2, .slice b2 m2 d2]] w (RetIb w (cmpQ x y)) := by
  obtain ⟨u1, v1, h1, hd1, rfl⟩ := hx
  obtain ⟨u2, v2, h2, hd2, rfl⟩ := hy
  have hz1 := h1.toZ (s := s)
  have hz2 := h2.toZ (s := t)
  have sd1 := hid (sz_und (hd1.sz.mono (Nat.le_refl _) (Nat.le_succ J)) (by omega))
  have sd2 := hid (sz_und (hd2.sz.mono (Nat.le_refl _) (Nat.le_succ K)) (by omega))
  have sz1 := hid hz1.sz
  have sz2 := hid hz2.sz
  have su1 := hid h1.sz
  have su2 := hid h2.sz
  have hu1 := hid (und_ne v1)
  have hu2 := hid (und_ne v2)
  unfold qv
  rw [← cmpQ_mk hu1.out hu2.out]
  have HU1 := hid (fun W (h : RdN J W b1 m1 d1 v1) => qunder (w := W) (s := s) (a := a1) (n := n1) (c := c1) (h.mono (show _ ≤ 4194304 by omega)))
  generalize hD1 : und v1 = e1 at *
  clear hD1
  have HU2 := hid (fun W (h : RdN K W b2 m2 d2 v2) => qunder (w := W) (s := t) (a := a2) (n := n2) (c := c2) (h.mono (show _ ≤ 4194304 by omega)))
  generalize hD2 : und v2 = e2 at *
  clear hD2
  have s12 := hid (szMulN sz1.out sd2.out)
  have s21 := hid (szMulN sz2.out sd1.out)
  clear h1 h2
  generalize zv s u1 = x1 at *
  generalize zv t u2 = x2 at *
  have hent := ent2 w #[Value.bool s, Value.slice a1 n1 c1, Value.slice b1 m1 d1] #[Value.bool t, Value.slice a2 n2 c2, Value.slice b2 m2 d2] 28 28
  go_enter Try.func14, Try.ntmps14
  go_wp2_with fail
  generalize ((w.alloc (.cells #[Value.bool s, Value.slice a1 n1 c1, Value.slice b1 m1 d1] 28)).alloc (.cells #[Value.bool t, Value.slice a2 n2 c2, Value.slice b2 m2 d2] 28)) = W0 at hent ⊢
  obtain ⟨X_0, Y_0, hbel_0, hsz_0⟩ := hent
  have cX_0_0 : _ = some (Value.bool s) := X_0.cell 0
  have cX_0_1 : _ = some (Value.slice a1 n1 c1) := X_0.cell 1
  have cX_0_2 : _ = some (Value.slice b1 m1 d1) := X_0.cell 2
  have cY_0_0 : _ = some (Value.bool t) := Y_0.cell 0
  have cY_0_1 : _ = some (Value.slice a2 n2 c2) := Y_0.cell 1
  have cY_0_2 : _ = some (Value.slice b2 m2 d2) := Y_0.cell 2
  have hz1_0 := hz1.below hbel_0
  clear hz1
  have hz2_0 := hz2.below hbel_0
  clear hz2
  have hd1_0 := hd1.below hbel_0
  clear hd1
  have hd2_0 := hd2.below hbel_0
  clear hd2
  go_wp2_with fail
  go_region_held3 (fun w' => w'.cell? ⟨w.heap.size, 0, none⟩ = some (Value.bool s) ∧ w'.cell? ⟨w.heap.size, 1, none⟩ = some (Value.slice a1 n1 c1) ∧ w'.cell? ⟨w.heap.size, 2, none⟩ = some (Value.slice b1 m1 d1) ∧ w'.cell? ⟨w.heap.size + 1, 0, none⟩ = some (Value.bool t) ∧ w'.cell? ⟨w.heap.size + 1, 1, none⟩ = some (Value.slice a2 n2 c2) ∧ w'.cell? ⟨w.heap.size + 1, 2, none⟩ = some (Value.slice b2 m2 d2))
    (first | exact ⟨cX_0_0, cX_0_1, cX_0_2, cY_0_0, cY_0_1, cY_0_2⟩ | exact ⟨cX_1_0, cX_1_1, cX_1_2, cY_1_0, cY_1_1, cY_1_2⟩ | exact ⟨cX_2_0, cX_2_1, cX_2_2, cY_2_0, cY_2_1, cY_2_2⟩ | exact ⟨cX_3_0, cX_3_1, cX_3_2, cY_3_0, cY_3_1, cY_3_2⟩ | exact ⟨cX_4_0, cX_4_1, cX_4_2, cY_4_0, cY_4_1, cY_4_2⟩ | exact ⟨cX_5_0, cX_5_1, cX_5_2, cY_5_0, cY_5_1, cY_5_2⟩ | go_keep)
    (first
      | (go_at_call 34; ((with_reducible refine (HU2.out _ (hd2_0.below bl)).mono ?_); (rintro e w1 ⟨ua, un, uc, rfl, hO, hB⟩; have hB_1 : Below W0.heap.size W0 w1 := (bl.next hB); have X_1 := X_0.next hB_1; have cX_1_0 : _ = some (Value.bool s) := X_1.cell 0; have cX_1_1 : _ = some (Value.slice a1 n1 c1) := X_1.cell 1; have cX_1_2 : _ = some (Value.slice b1 m1 d1) := X_1.cell 2; have Y_1 := Y_0.next hB_1; have cY_1_0 : _ = some (Value.bool t) := Y_1.cell 0; have cY_1_1 : _ = some (Value.slice a2 n2 c2) := Y_1.cell 1; have cY_1_2 : _ = some (Value.slice b2 m2 d2) := Y_1.cell 2; have hz1_1 := hz1_0.below hB_1; have hz2_1 := hz2_0.below hB_1; have hd1_1 := hd1_0.below hB_1; have hd2_1 := hd2_0.below hB_1; have hbel_1 := hbel_0.next hB_1; have hsz_1 := hB_1.size; clear X_0 cX_0_0 cX_0_1 cX_0_2 Y_0 cY_0_0 cY_0_1 cY_0_2 hz1_0 hz2_0 hd1_0 hd2_0 hbel_0 hB_1; have U_1 := hO.rdN sd2.out; clear hO; try clear hB)))
      | (go_at_call 33; ((with_reducible refine (qover ((hz1_1.below bl).mono (by omega)) ((U_1.below bl).mono (by omega))).mono ?_); (rintro e w2 ⟨pa, pn, pc, rfl, hO, hB⟩; have hB_2 : Below w1.heap.size w1 w2 := (bl.next hB); have X_2 := X_1.next hB_2; have cX_2_0 : _ = some (Value.bool s) := X_2.cell 0; have cX_2_1 : _ = some (Value.slice a1 n1 c1) := X_2.cell 1; have cX_2_2 : _ = some (Value.slice b1 m1 d1) := X_2.cell 2; have Y_2 := Y_1.next hB_2; have cY_2_0 : _ = some (Value.bool t) := Y_2.cell 0; have cY_2_1 : _ = some (Value.slice a2 n2 c2) := Y_2.cell 1; have cY_2_2 : _ = some (Value.slice b2 m2 d2) := Y_2.cell 2; have hz1_2 := hz1_1.below hB_2; have hz2_2 := hz2_1.below hB_2; have hd1_2 := hd1_1.below hB_2; have hd2_2 := hd2_1.below hB_2; have U_2 := U_1.below hB_2; have hbel_2 := hbel_1.next hB_2; have hsz_2 := hB_2.size; clear X_1 cX_1_0 cX_1_1 cX_1_2 Y_1 cY_1_0 cY_1_1 cY_1_2 hz1_1 hz2_1 hd1_1 hd2_1 U_1 hbel_1 hB_2; have P_2 := hO.rdZ s12.out; clear hO; try clear hB)))
      | (go_at_call 34; ((with_reducible refine (HU1.out _ (hd1_2.below bl)).mono ?_); (rintro e w3 ⟨va, vn, vc, rfl, hO, hB⟩; have hB_3 : Below w2.heap.size w2 w3 := (bl.next hB); have X_3 := X_2.next hB_3; have cX_3_0 : _ = some (Value.bool s) := X_3.cell 0; have cX_3_1 : _ = some (Value.slice a1 n1 c1) := X_3.cell 1; have cX_3_2 : _ = some (Value.slice b1 m1 d1) := X_3.cell 2; have Y_3 := Y_2.next hB_3; have cY_3_0 : _ = some (Value.bool t) := Y_3.cell 0; have cY_3_1 : _ = some (Value.slice a2 n2 c2) := Y_3.cell 1; have cY_3_2 : _ = some (Value.slice b2 m2 d2) := Y_3.cell 2; have hz1_3 := hz1_2.below hB_3; have hz2_3 := hz2_2.below hB_3; have hd1_3 := hd1_2.below hB_3; have hd2_3 := hd2_2.below hB_3; have U_3 := U_2.below hB_3; have P_3 := P_2.below hB_3; have hbel_3 := hbel_2.next hB_3; have hsz_3 := hB_3.size; clear X_2 cX_2_0 cX_2_1 cX_2_2 Y_2 cY_2_0 cY_2_1 cY_2_2 hz1_2 hz2_2 hd1_2 hd2_2 U_2 P_2 hbel_2 hB_3; have V_3 := hO.rdN sd1.out; clear hO; try clear hB)))
      | (go_at_call 33; ((with_reducible refine (qover ((hz2_3.below bl).mono (by omega)) ((V_3.below bl).mono (by omega))).mono ?_); (rintro e w4 ⟨qa, qn, qc, rfl, hO, hB⟩; have hB_4 : Below w3.heap.size w3 w4 := (bl.next hB); have X_4 := X_3.next hB_4; have cX_4_0 : _ = some (Value.bool s) := X_4.cell 0; have cX_4_1 : _ = some (Value.slice a1 n1 c1) := X_4.cell 1; have cX_4_2 : _ = some (Value.slice b1 m1 d1) := X_4.cell 2; have Y_4 := Y_3.next hB_4; have cY_4_0 : _ = some (Value.bool t) := Y_4.cell 0; have cY_4_1 : _ = some (Value.slice a2 n2 c2) := Y_4.cell 1; have cY_4_2 : _ = some (Value.slice b2 m2 d2) := Y_4.cell 2; have hz1_4 := hz1_3.below hB_4; have hz2_4 := hz2_3.below hB_4; have hd1_4 := hd1_3.below hB_4; have hd2_4 := hd2_3.below hB_4; have U_4 := U_3.below hB_4; have P_4 := P_3.below hB_4; have V_4 := V_3.below hB_4; have hbel_4 := hbel_3.next hB_4; have hsz_4 := hB_4.size; clear X_3 cX_3_0 cX_3_1 cX_3_2 Y_3 cY_3_0 cY_3_1 cY_3_2 hz1_3 hz2_3 hd1_3 hd2_3 U_3 P_3 V_3 hbel_3 hB_4; have Q_4 := hO.rdZ s21.out; clear hO; try clear hB)))
      | (go_at_call 25; ((with_reducible refine (zcmpR (P_4.below bl) (Q_4.below bl) (by omega) (by omega)).mono ?_); (rintro e w5 ⟨rfl, hB⟩; have hB_5 : Below w4.heap.size w4 w5 := (bl.next hB); have X_5 := X_4.next hB_5; have cX_5_0 : _ = some (Value.bool s) := X_5.cell 0; have cX_5_1 : _ = some (Value.slice a1 n1 c1) := X_5.cell 1; have cX_5_2 : _ = some (Value.slice b1 m1 d1) := X_5.cell 2; have Y_5 := Y_4.next hB_5; have cY_5_0 : _ = some (Value.bool t) := Y_5.cell 0; have cY_5_1 : _ = some (Value.slice a2 n2 c2) := Y_5.cell 1; have cY_5_2 : _ = some (Value.slice b2 m2 d2) := Y_5.cell 2; have hz1_5 := hz1_4.below hB_5; have hz2_5 := hz2_4.below hB_5; have hd1_5 := hd1_4.below hB_5; have hd2_5 := hd2_4.below hB_5; have U_5 := U_4.below hB_5; have P_5 := P_4.below hB_5; have V_5 := V_4.below hB_5; have Q_5 := Q_4.below hB_5; have hbel_5 := hbel_4.next hB_5; have hsz_5 := hB_5.size; clear X_4 cX_4_0 cX_4_1 cX_4_2 Y_4 cY_4_0 cY_4_1 cY_4_2 hz1_4 hz2_4 hd1_4 hd2_4 U_4 P_4 V_4 Q_4 hbel_4 hB_5; try clear hB))))
  go_wp2
  go_ret
  exact ⟨rfl, hbel_5⟩

set_option maxRecDepth 100000 in
set_option maxHeartbeats 4000000 in
theorem qneg {w : World} {a1 b1 : Option Addr} {n1 c1 m1 d1 : Nat} {s : Bool} {x : Rat} {J : Nat} (hx : RdQ J w s a1 n1 c1 b1 m1 d1 x) (hJ : J ≤ 1000000) :
    Calls Try.prog 20 #[.agg #[.bool s, .slice a1 n1 c1, .slice b1 m1 d1]] w (RetQ w (-x)) := by
  obtain ⟨u1, v1, h1, hd1, rfl⟩ := hx
  have hz1 := h1.toZ (s := s)
  have sd1 := hid (sz_und (hd1.sz.mono (Nat.le_refl _) (Nat.le_succ J)) (by omega))
  have su1 := hid h1.sz
  have hu1 := hid (und_ne v1)
  unfold qv
  rw [← qv_neg]
  have HU1 := hid (fun W (h : RdN J W b1 m1 d1 v1) => qunder (w := W) (s := s) (a := a1) (n := n1) (c := c1) (h.mono (show _ ≤ 4194304 by omega)))
  generalize hD1 : und v1 = e1 at *
  clear hD1
  have hent := ent2 w #[Value.bool s, Value.slice a1 n1 c1, Value.slice b1 m1 d1] #[Value.bool false, Value.slice none 0 0, Value.slice none 0 0] 28 28
  go_enter Try.func20, Try.ntmps20
  go_wp2_with fail
  generalize ((w.alloc (.cells #[Value.bool s, Value.slice a1 n1 c1, Value.slice b1 m1 d1] 28)).alloc (.cells #[Value.bool false, Value.slice none 0 0, Value.slice none 0 0] 28)) = W0 at hent ⊢
  obtain ⟨X_0, R0_0, hbel_0, hsz_0⟩ := hent
  have cX_0_0 : _ = some (Value.bool s) := X_0.cell 0
  have cX_0_1 : _ = some (Value.slice a1 n1 c1) := X_0.cell 1
  have cX_0_2 : _ = some (Value.slice b1 m1 d1) := X_0.cell 2
  have cR0_0_0 : _ = some (Value.bool false) := R0_0.cell 0
  have fR0_0_0 := R0_0.free 0
  have cR0_0_1 : _ = some (Value.slice none 0 0) := R0_0.cell 1
  have fR0_0_1 := R0_0.free 1
  have cR0_0_2 : _ = some (Value.slice none 0 0) := R0_0.cell 2
  have fR0_0_2 := R0_0.free 2
  have h1_0 := h1.below hbel_0
  clear h1
  have hd1_0 := hd1.below hbel_0
  clear hd1
  go_wp2_with fail
  go_region_held3 (fun w' => w'.cell? ⟨w.heap.size, 0, none⟩ = some (Value.bool s) ∧ w'.cell? ⟨w.heap.size, 1, none⟩ = some (Value.slice a1 n1 c1) ∧ w'.cell? ⟨w.heap.size, 2, none⟩ = some (Value.slice b1 m1 d1))
    (first | exact ⟨cX_0_0, cX_0_1, cX_0_2⟩ | exact ⟨cX_1_0, cX_1_1, cX_1_2⟩ | exact ⟨cX_2_0, cX_2_1, cX_2_2⟩ | exact ⟨(cell_set3 (by omega) _ _ _).trans (cX_2_0), (cell_set3 (by omega) _ _ _).trans (cX_2_1), (cell_set3 (by omega) _ _ _).trans (cX_2_2)⟩ | go_keep)
    (first
      | (go_at_call 34; ((with_reducible refine (HU1.out _ (hd1_0.below bl)).mono ?_); (rintro e w1 ⟨va, vn, vc, rfl, hO, hB⟩; have hB_1 : Below W0.heap.size W0 w1 := (bl.next hB); have X_1 := X_0.next hB_1; have cX_1_0 : _ = some (Value.bool s) := X_1.cell 0; have cX_1_1 : _ = some (Value.slice a1 n1 c1) := X_1.cell 1; have cX_1_2 : _ = some (Value.slice b1 m1 d1) := X_1.cell 2; have R0_1 := R0_0.next hB_1; have cR0_1_0 : _ = some (Value.bool false) := R0_1.cell 0; have fR0_1_0 := R0_1.free 0; have cR0_1_1 : _ = some (Value.slice none 0 0) := R0_1.cell 1; have fR0_1_1 := R0_1.free 1; have cR0_1_2 : _ = some (Value.slice none 0 0) := R0_1.cell 2; have fR0_1_2 := R0_1.free 2; have h1_1 := h1_0.below hB_1; have hd1_1 := hd1_0.below hB_1; have hbel_1 := hbel_0.next hB_1; have hsz_1 := hB_1.size; clear X_0 cX_0_0 cX_0_1 cX_0_2 R0_0 cR0_0_0 fR0_0_0 cR0_0_1 fR0_0_1 cR0_0_2 fR0_0_2 h1_0 hd1_0 hbel_0 hB_1; have V_1 := hO.rdN sd1.out; clear hO; try clear hB)))
      | (go_at_call 35; ((with_reducible refine (qlow (!s) ((h1_1.below bl).mono (by omega)) ((V_1.below bl).mono (by omega)) hu1.out).mono ?_); (rintro e w2 ⟨qa, qn, qc, da, dn, dc, rfl, hO, hO', hD, hB⟩; have hB_2 : Below w1.heap.size w1 w2 := (bl.next hB); have X_2 := X_1.next hB_2; have cX_2_0 : _ = some (Value.bool s) := X_2.cell 0; have cX_2_1 : _ = some (Value.slice a1 n1 c1) := X_2.cell 1; have cX_2_2 : _ = some (Value.slice b1 m1 d1) := X_2.cell 2; have R0_2 := R0_1.next hB_2; have cR0_2_0 : _ = some (Value.bool false) := R0_2.cell 0; have fR0_2_0 := R0_2.free 0; have cR0_2_1 : _ = some (Value.slice none 0 0) := R0_2.cell 1; have fR0_2_1 := R0_2.free 1; have cR0_2_2 : _ = some (Value.slice none 0 0) := R0_2.cell 2; have fR0_2_2 := R0_2.free 2; have h1_2 := h1_1.below hB_2; have hd1_2 := hd1_1.below hB_2; have V_2 := V_1.below hB_2; have hbel_2 := hbel_1.next hB_2; have hsz_2 := hB_2.size; clear X_1 cX_1_0 cX_1_1 cX_1_2 R0_1 cR0_1_0 fR0_1_0 cR0_1_1 fR0_1_1 cR0_1_2 fR0_1_2 h1_1 hd1_1 V_1 hbel_1 hB_2; have OQ_2 := hO; have ltOQ := hO.ltB; have OD_2 := hO'; have ltOD := hO'.ltB; clear hO hO'; try clear hB))))
  go_wp2
  refine bodyPost_ret (v := .agg #[.bool (decide ((mkRat (zv (!s) u1) e1).num < 0)), .slice qa qn qc, .slice da dn dc]) (by simp [results, Try.results20, go_sem, cR0_2_0, cR0_2_1, cR0_2_2]) rfl ?_
  exact retq_set OQ_2 OD_2 hD hbel_2 (by omega) (by omega)

set_option maxRecDepth 100000 in
set_option maxHeartbeats 4000000 in
theorem qmul {w : World} {a1 b1 : Option Addr} {n1 c1 m1 d1 : Nat} {s : Bool} {x : Rat} {a2 b2 : Option Addr} {n2 c2 m2 d2 : Nat} {t : Bool} {y : Rat} {J K : Nat} (hx : RdQ J w s a1 n1 c1 b1 m1 d1 x) (hJ : J ≤ 1000000) (hy : RdQ K w t a2 n2 c2 b2 m2 d2 y) (hK : K ≤ 1000000) :
    Calls Try.prog 12 #[.agg #[.bool s, .slice a1 n1 c1, .slice b1 m1 d1], .agg #[.bool t, .slice a2 n2 c2, .slice b2 m2 d2]] w (RetQ w (x * y)) := by
  obtain ⟨u1, v1, h1, hd1, rfl⟩ := hx
  obtain ⟨u2, v2, h2, hd2, rfl⟩ := hy
  have hz1 := h1.toZ (s := s)
  have hz2 := h2.toZ (s := t)
  have sd1 := hid (sz_und (hd1.sz.mono (Nat.le_refl _) (Nat.le_succ J)) (by omega))
  have sd2 := hid (sz_und (hd2.sz.mono (Nat.le_refl _) (Nat.le_succ K)) (by omega))
  have sz1 := hid hz1.sz
  have sz2 := hid hz2.sz
  have su1 := hid h1.sz
  have su2 := hid h2.sz
  have hu1 := hid (und_ne v1)
  have hu2 := hid (und_ne v2)
  unfold qv
  rw [← qv_mul, ← zv_mul]
  have HU1 := hid (fun W (h : RdN J W b1 m1 d1 v1) => qunder (w := W) (s := s) (a := a1) (n := n1) (c := c1) (h.mono (show _ ≤ 4194304 by omega)))
  generalize hD1 : und v1 = e1 at *
  clear hD1
  have HU2 := hid (fun W (h : RdN K W b2 m2 d2 v2) => qunder (w := W) (s := t) (a := a2) (n := n2) (c := c2) (h.mono (show _ ≤ 4194304 by omega)))
  generalize hD2 : und v2 = e2 at *
  clear hD2
  have sN := hid (su1.out.mul su2.out)
  have sD := hid (sd1.out.mul sd2.out)
  have hDD := hid (Nat.mul_ne_zero hu1.out hu2.out)
  clear hz1 hz2
  have hent := ent3 w #[Value.bool s, Value.slice a1 n1 c1, Value.slice b1 m1 d1] #[Value.bool t, Value.slice a2 n2 c2, Value.slice b2 m2 d2] #[Value.bool false, Value.slice none 0 0, Value.slice none 0 0] 28 28 28
  go_enter Try.func12, Try.ntmps12
  go_wp2_with fail
  generalize (((w.alloc (.cells #[Value.bool s, Value.slice a1 n1 c1, Value.slice b1 m1 d1] 28)).alloc (.cells #[Value.bool t, Value.slice a2 n2 c2, Value.slice b2 m2 d2] 28)).alloc (.cells #[Value.bool false, Value.slice none 0 0, Value.slice none 0 0] 28)) = W0 at hent ⊢
  obtain ⟨X_0, Y_0, R0_0, hbel_0, hsz_0⟩ := hent
  have cX_0_0 : _ = some (Value.bool s) := X_0.cell 0
  have cX_0_1 : _ = some (Value.slice a1 n1 c1) := X_0.cell 1
  have cX_0_2 : _ = some (Value.slice b1 m1 d1) := X_0.cell 2
  have cY_0_0 : _ = some (Value.bool t) := Y_0.cell 0
  have cY_0_1 : _ = some (Value.slice a2 n2 c2) := Y_0.cell 1
  have cY_0_2 : _ = some (Value.slice b2 m2 d2) := Y_0.cell 2
  have cR0_0_0 : _ = some (Value.bool false) := R0_0.cell 0
  have fR0_0_0 := R0_0.free 0
  have cR0_0_1 : _ = some (Value.slice none 0 0) := R0_0.cell 1
  have fR0_0_1 := R0_0.free 1
  have cR0_0_2 : _ = some (Value.slice none 0 0) := R0_0.cell 2
  have fR0_0_2 := R0_0.free 2
  have h1_0 := h1.below hbel_0
  clear h1
  have h2_0 := h2.below hbel_0
  clear h2
  have hd1_0 := hd1.below hbel_0
  clear hd1
  have hd2_0 := hd2.below hbel_0
  clear hd2
  go_wp2_with fail
  go_region_held3 (fun w' => w'.cell? ⟨w.heap.size, 0, none⟩ = some (Value.bool s) ∧ w'.cell? ⟨w.heap.size, 1, none⟩ = some (Value.slice a1 n1 c1) ∧ w'.cell? ⟨w.heap.size, 2, none⟩ = some (Value.slice b1 m1 d1) ∧ w'.cell? ⟨w.heap.size + 1, 0, none⟩ = some (Value.bool t) ∧ w'.cell? ⟨w.heap.size + 1, 1, none⟩ = some (Value.slice a2 n2 c2) ∧ w'.cell? ⟨w.heap.size + 1, 2, none⟩ = some (Value.slice b2 m2 d2))
    (first | exact ⟨cX_0_0, cX_0_1, cX_0_2, cY_0_0, cY_0_1, cY_0_2⟩ | exact ⟨cX_1_0, cX_1_1, cX_1_2, cY_1_0, cY_1_1, cY_1_2⟩ | exact ⟨cX_2_0, cX_2_1, cX_2_2, cY_2_0, cY_2_1, cY_2_2⟩ | exact ⟨cX_3_0, cX_3_1, cX_3_2, cY_3_0, cY_3_1, cY_3_2⟩ | exact ⟨cX_4_0, cX_4_1, cX_4_2, cY_4_0, cY_4_1, cY_4_2⟩ | exact ⟨cX_5_0, cX_5_1, cX_5_2, cY_5_0, cY_5_1, cY_5_2⟩ | exact ⟨(cell_set3 (by omega) _ _ _).trans (cX_5_0), (cell_set3 (by omega) _ _ _).trans (cX_5_1), (cell_set3 (by omega) _ _ _).trans (cX_5_2), (cell_set3 (by omega) _ _ _).trans (cY_5_0), (cell_set3 (by omega) _ _ _).trans (cY_5_1), (cell_set3 (by omega) _ _ _).trans (cY_5_2)⟩ | go_keep)
    (first
      | (go_at_call 36; ((with_reducible refine (nmulR (h1_0.below bl) (h2_0.below bl) (by omega) (by omega)).mono ?_); (rintro e w1 ⟨na, nn, nc, rfl, hO, hB⟩; have hB_1 : Below W0.heap.size W0 w1 := (bl.next hB); have X_1 := X_0.next hB_1; have cX_1_0 : _ = some (Value.bool s) := X_1.cell 0; have cX_1_1 : _ = some (Value.slice a1 n1 c1) := X_1.cell 1; have cX_1_2 : _ = some (Value.slice b1 m1 d1) := X_1.cell 2; have Y_1 := Y_0.next hB_1; have cY_1_0 : _ = some (Value.bool t) := Y_1.cell 0; have cY_1_1 : _ = some (Value.slice a2 n2 c2) := Y_1.cell 1; have cY_1_2 : _ = some (Value.slice b2 m2 d2) := Y_1.cell 2; have R0_1 := R0_0.next hB_1; have cR0_1_0 : _ = some (Value.bool false) := R0_1.cell 0; have fR0_1_0 := R0_1.free 0; have cR0_1_1 : _ = some (Value.slice none 0 0) := R0_1.cell 1; have fR0_1_1 := R0_1.free 1; have cR0_1_2 : _ = some (Value.slice none 0 0) := R0_1.cell 2; have fR0_1_2 := R0_1.free 2; have h1_1 := h1_0.below hB_1; have h2_1 := h2_0.below hB_1; have hd1_1 := hd1_0.below hB_1; have hd2_1 := hd2_0.below hB_1; have hbel_1 := hbel_0.next hB_1; have hsz_1 := hB_1.size; clear X_0 cX_0_0 cX_0_1 cX_0_2 Y_0 cY_0_0 cY_0_1 cY_0_2 R0_0 cR0_0_0 fR0_0_0 cR0_0_1 fR0_0_1 cR0_0_2 fR0_0_2 h1_0 h2_0 hd1_0 hd2_0 hbel_0 hB_1; have N_1 := hO.rdN sN.out; clear hO; try clear hB)))
      | (go_at_call 34; ((with_reducible refine (HU1.out _ (hd1_1.below bl)).mono ?_); (rintro e w2 ⟨ua, un, uc, rfl, hO, hB⟩; have hB_2 : Below w1.heap.size w1 w2 := (bl.next hB); have X_2 := X_1.next hB_2; have cX_2_0 : _ = some (Value.bool s) := X_2.cell 0; have cX_2_1 : _ = some (Value.slice a1 n1 c1) := X_2.cell 1; have cX_2_2 : _ = some (Value.slice b1 m1 d1) := X_2.cell 2; have Y_2 := Y_1.next hB_2; have cY_2_0 : _ = some (Value.bool t) := Y_2.cell 0; have cY_2_1 : _ = some (Value.slice a2 n2 c2) := Y_2.cell 1; have cY_2_2 : _ = some (Value.slice b2 m2 d2) := Y_2.cell 2; have R0_2 := R0_1.next hB_2; have cR0_2_0 : _ = some (Value.bool false) := R0_2.cell 0; have fR0_2_0 := R0_2.free 0; have cR0_2_1 : _ = some (Value.slice none 0 0) := R0_2.cell 1; have fR0_2_1 := R0_2.free 1; have cR0_2_2 : _ = some (Value.slice none 0 0) := R0_2.cell 2; have fR0_2_2 := R0_2.free 2; have h1_2 := h1_1.below hB_2; have h2_2 := h2_1.below hB_2; have hd1_2 := hd1_1.below hB_2; have hd2_2 := hd2_1.below hB_2; have N_2 := N_1.below hB_2; have hbel_2 := hbel_1.next hB_2; have hsz_2 := hB_2.size; clear X_1 cX_1_0 cX_1_1 cX_1_2 Y_1 cY_1_0 cY_1_1 cY_1_2 R0_1 cR0_1_0 fR0_1_0 cR0_1_1 fR0_1_1 cR0_1_2 fR0_1_2 h1_1 h2_1 hd1_1 hd2_1 N_1 hbel_1 hB_2; have U_2 := hO.rdN sd1.out; clear hO; try clear hB)))
      | (go_at_call 34; ((with_reducible refine (HU2.out _ (hd2_2.below bl)).mono ?_); (rintro e w3 ⟨va, vn, vc, rfl, hO, hB⟩; have hB_3 : Below w2.heap.size w2 w3 := (bl.next hB); have X_3 := X_2.next hB_3; have cX_3_0 : _ = some (Value.bool s) := X_3.cell 0; have cX_3_1 : _ = some (Value.slice a1 n1 c1) := X_3.cell 1; have cX_3_2 : _ = some (Value.slice b1 m1 d1) := X_3.cell 2; have Y_3 := Y_2.next hB_3; have cY_3_0 : _ = some (Value.bool t) := Y_3.cell 0; have cY_3_1 : _ = some (Value.slice a2 n2 c2) := Y_3.cell 1; have cY_3_2 : _ = some (Value.slice b2 m2 d2) := Y_3.cell 2; have R0_3 := R0_2.next hB_3; have cR0_3_0 : _ = some (Value.bool false) := R0_3.cell 0; have fR0_3_0 := R0_3.free 0; have cR0_3_1 : _ = some (Value.slice none 0 0) := R0_3.cell 1; have fR0_3_1 := R0_3.free 1; have cR0_3_2 : _ = some (Value.slice none 0 0) := R0_3.cell 2; have fR0_3_2 := R0_3.free 2; have h1_3 := h1_2.below hB_3; have h2_3 := h2_2.below hB_3; have hd1_3 := hd1_2.below hB_3; have hd2_3 := hd2_2.below hB_3; have N_3 := N_2.below hB_3; have U_3 := U_2.below hB_3; have hbel_3 := hbel_2.next hB_3; have hsz_3 := hB_3.size; clear X_2 cX_2_0 cX_2_1 cX_2_2 Y_2 cY_2_0 cY_2_1 cY_2_2 R0_2 cR0_2_0 fR0_2_0 cR0_2_1 fR0_2_1 cR0_2_2 fR0_2_2 h1_2 h2_2 hd1_2 hd2_2 N_2 U_2 hbel_2 hB_3; have V_3 := hO.rdN sd2.out; clear hO; try clear hB)))
      | (go_at_call 36; ((with_reducible refine (nmulR (U_3.below bl) (V_3.below bl) (by omega) (by omega)).mono ?_); (rintro e w4 ⟨pa, pn, pc, rfl, hO, hB⟩; have hB_4 : Below w3.heap.size w3 w4 := (bl.next hB); have X_4 := X_3.next hB_4; have cX_4_0 : _ = some (Value.bool s) := X_4.cell 0; have cX_4_1 : _ = some (Value.slice a1 n1 c1) := X_4.cell 1; have cX_4_2 : _ = some (Value.slice b1 m1 d1) := X_4.cell 2; have Y_4 := Y_3.next hB_4; have cY_4_0 : _ = some (Value.bool t) := Y_4.cell 0; have cY_4_1 : _ = some (Value.slice a2 n2 c2) := Y_4.cell 1; have cY_4_2 : _ = some (Value.slice b2 m2 d2) := Y_4.cell 2; have R0_4 := R0_3.next hB_4; have cR0_4_0 : _ = some (Value.bool false) := R0_4.cell 0; have fR0_4_0 := R0_4.free 0; have cR0_4_1 : _ = some (Value.slice none 0 0) := R0_4.cell 1; have fR0_4_1 := R0_4.free 1; have cR0_4_2 : _ = some (Value.slice none 0 0) := R0_4.cell 2; have fR0_4_2 := R0_4.free 2; have h1_4 := h1_3.below hB_4; have h2_4 := h2_3.below hB_4; have hd1_4 := hd1_3.below hB_4; have hd2_4 := hd2_3.below hB_4; have N_4 := N_3.below hB_4; have U_4 := U_3.below hB_4; have V_4 := V_3.below hB_4; have hbel_4 := hbel_3.next hB_4; have hsz_4 := hB_4.size; clear X_3 cX_3_0 cX_3_1 cX_3_2 Y_3 cY_3_0 cY_3_1 cY_3_2 R0_3 cR0_3_0 fR0_3_0 cR0_3_1 fR0_3_1 cR0_3_2 fR0_3_2 h1_3 h2_3 hd1_3 hd2_3 N_3 U_3 V_3 hbel_3 hB_4; have P_4 := hO.rdN sD.out; clear hO; try clear hB)))
      | (go_at_call 35; ((with_reducible refine (qlow (!(s == t)) ((N_4.below bl).mono (by omega)) ((P_4.below bl).mono (by omega)) hDD.out).mono ?_); (rintro e w5 ⟨qa, qn, qc, da, dn, dc, rfl, hO, hO', hD, hB⟩; have hB_5 : Below w4.heap.size w4 w5 := (bl.next hB); have X_5 := X_4.next hB_5; have cX_5_0 : _ = some (Value.bool s) := X_5.cell 0; have cX_5_1 : _ = some (Value.slice a1 n1 c1) := X_5.cell 1; have cX_5_2 : _ = some (Value.slice b1 m1 d1) := X_5.cell 2; have Y_5 := Y_4.next hB_5; have cY_5_0 : _ = some (Value.bool t) := Y_5.cell 0; have cY_5_1 : _ = some (Value.slice a2 n2 c2) := Y_5.cell 1; have cY_5_2 : _ = some (Value.slice b2 m2 d2) := Y_5.cell 2; have R0_5 := R0_4.next hB_5; have cR0_5_0 : _ = some (Value.bool false) := R0_5.cell 0; have fR0_5_0 := R0_5.free 0; have cR0_5_1 : _ = some (Value.slice none 0 0) := R0_5.cell 1; have fR0_5_1 := R0_5.free 1; have cR0_5_2 : _ = some (Value.slice none 0 0) := R0_5.cell 2; have fR0_5_2 := R0_5.free 2; have h1_5 := h1_4.below hB_5; have h2_5 := h2_4.below hB_5; have hd1_5 := hd1_4.below hB_5; have hd2_5 := hd2_4.below hB_5; have N_5 := N_4.below hB_5; have U_5 := U_4.below hB_5; have V_5 := V_4.below hB_5; have P_5 := P_4.below hB_5; have hbel_5 := hbel_4.next hB_5; have hsz_5 := hB_5.size; clear X_4 cX_4_0 cX_4_1 cX_4_2 Y_4 cY_4_0 cY_4_1 cY_4_2 R0_4 cR0_4_0 fR0_4_0 cR0_4_1 fR0_4_1 cR0_4_2 fR0_4_2 h1_4 h2_4 hd1_4 hd2_4 N_4 U_4 V_4 P_4 hbel_4 hB_5; have OQ_5 := hO; have ltOQ := hO.ltB; have OD_5 := hO'; have ltOD := hO'.ltB; clear hO hO'; try clear hB))))
  go_wp2
  refine bodyPost_ret (v := .agg #[.bool (decide ((mkRat (zv (!(s == t)) (u1 * u2)) (e1 * e2)).num < 0)), .slice qa qn qc, .slice da dn dc]) (by simp [results, Try.results12, go_sem, cR0_5_0, cR0_5_1, cR0_5_2]) rfl ?_
  exact retq_set OQ_5 OD_5 hD hbel_5 (by omega) (by omega)

set_option maxRecDepth 100000 in
set_option maxHeartbeats 4000000 in
theorem qdiv0 {w : World} {a1 b1 : Option Addr} {n1 c1 m1 d1 : Nat} {s : Bool} {x : Rat} {a2 b2 : Option Addr} {n2 c2 m2 d2 : Nat} {t : Bool} {y : Rat} {J K : Nat} (hx : RdQ J w s a1 n1 c1 b1 m1 d1 x) (hJ : J ≤ 1000000) (hy : RdQ K w t a2 n2 c2 b2 m2 d2 y) (hK : K ≤ 1000000) (hv : y = 0) :
    Calls Try.prog 13 #[.agg #[.bool s, .slice a1 n1 c1, .slice b1 m1 d1], .agg #[.bool t, .slice a2 n2 c2, .slice b2 m2 d2]] w (RetQE w (x / y) (qE y)) := by
  rw [qE_zero hv]
  have hs := hid (show sgnQ y = 0 by rw [hv]; rfl)
  clear hv hx
  have hent := ent3 w #[Value.bool s, Value.slice a1 n1 c1, Value.slice b1 m1 d1] #[Value.bool t, Value.slice a2 n2 c2, Value.slice b2 m2 d2] #[Value.bool false, Value.slice none 0 0, Value.slice none 0 0] 28 28 28
  go_enter Try.func13, Try.ntmps13
  go_wp2_with fail
  generalize (((w.alloc (.cells #[Value.bool s, Value.slice a1 n1 c1, Value.slice b1 m1 d1] 28)).alloc (.cells #[Value.bool t, Value.slice a2 n2 c2, Value.slice b2 m2 d2] 28)).alloc (.cells #[Value.bool false, Value.slice none 0 0, Value.slice none 0 0] 28)) = W0 at hent ⊢
  obtain ⟨X_0, Y_0, R0_0, hbel_0, hsz_0⟩ := hent
  have cX_0_0 : _ = some (Value.bool s) := X_0.cell 0
  have cX_0_1 : _ = some (Value.slice a1 n1 c1) := X_0.cell 1
  have cX_0_2 : _ = some (Value.slice b1 m1 d1) := X_0.cell 2
  have cY_0_0 : _ = some (Value.bool t) := Y_0.cell 0
  have cY_0_1 : _ = some (Value.slice a2 n2 c2) := Y_0.cell 1
  have cY_0_2 : _ = some (Value.slice b2 m2 d2) := Y_0.cell 2
  have cR0_0_0 : _ = some (Value.bool false) := R0_0.cell 0
  have fR0_0_0 := R0_0.free 0
  have cR0_0_1 : _ = some (Value.slice none 0 0) := R0_0.cell 1
  have fR0_0_1 := R0_0.free 1
  have cR0_0_2 : _ = some (Value.slice none 0 0) := R0_0.cell 2
  have fR0_0_2 := R0_0.free 2
  have hy_0 := hy.below hbel_0
  clear hy
  go_wp2_with fail
  refine (qsign hy_0 hK).mono ?_
  rw [hs.out]
  rintro e w1 ⟨rfl, hB⟩
  have hB_1 : Below W0.heap.size W0 w1 := (bl.next hB)
  have X_1 := X_0.next hB_1
  have cX_1_0 : _ = some (Value.bool s) := X_1.cell 0
  have cX_1_1 : _ = some (Value.slice a1 n1 c1) := X_1.cell 1
  have cX_1_2 : _ = some (Value.slice b1 m1 d1) := X_1.cell 2
  have Y_1 := Y_0.next hB_1
  have cY_1_0 : _ = some (Value.bool t) := Y_1.cell 0
  have cY_1_1 : _ = some (Value.slice a2 n2 c2) := Y_1.cell 1
  have cY_1_2 : _ = some (Value.slice b2 m2 d2) := Y_1.cell 2
  have R0_1 := R0_0.next hB_1
  have cR0_1_0 : _ = some (Value.bool false) := R0_1.cell 0
  have fR0_1_0 := R0_1.free 0
  have cR0_1_1 : _ = some (Value.slice none 0 0) := R0_1.cell 1
  have fR0_1_1 := R0_1.free 1
  have cR0_1_2 : _ = some (Value.slice none 0 0) := R0_1.cell 2
  have fR0_1_2 := R0_1.free 2
  have hy_1 := hy_0.below hB_1
  have hbel_1 := hbel_0.next hB_1
  have hsz_1 := hB_1.size
  clear X_0 cX_0_0 cX_0_1 cX_0_2 Y_0 cY_0_0 cY_0_1 cY_0_2 R0_0 cR0_0_0 fR0_0_0 cR0_0_1 fR0_0_1 cR0_0_2 fR0_0_2 hy_0 hbel_0 hB_1
  try clear hB
  go_wp2
  refine bodyPost_ret (v := .tuple #[.agg #[.bool false, .slice none 0 0, .slice none 0 0], .int .i64 11]) (by simp [results, Try.results13, go_sem, cR0_1_0, cR0_1_1, cR0_1_2]) rfl ?_
  exact retqe_nil (by decide) hbel_1 (by omega)

set_option maxRecDepth 100000 in
set_option maxHeartbeats 4000000 in
theorem qdiv1 {w : World} {a1 b1 : Option Addr} {n1 c1 m1 d1 : Nat} {s : Bool} {x : Rat} {a2 b2 : Option Addr} {n2 c2 m2 d2 : Nat} {t : Bool} {y : Rat} {J K : Nat} (hx : RdQ J w s a1 n1 c1 b1 m1 d1 x) (hJ : J ≤ 1000000) (hy : RdQ K w t a2 n2 c2 b2 m2 d2 y) (hK : K ≤ 1000000) (hv : y ≠ 0) :
    Calls Try.prog 13 #[.agg #[.bool s, .slice a1 n1 c1, .slice b1 m1 d1], .agg #[.bool t, .slice a2 n2 c2, .slice b2 m2 d2]] w (RetQE w (x / y) (qE y)) := by
  rw [qE_pos hv]
  have hs : (sgnQ y == (0 : Int)) = false := by rcases sgnQ_cases y with ⟨_, e⟩ | ⟨h, _⟩ | ⟨_, e⟩ <;> first | (rw [e]; rfl) | exact absurd h hv
  have hy0 := hy
  obtain ⟨u1, v1, h1, hd1, rfl⟩ := hx
  obtain ⟨u2, v2, h2, hd2, rfl⟩ := hy
  have hz1 := h1.toZ (s := s)
  have hz2 := h2.toZ (s := t)
  have sd1 := hid (sz_und (hd1.sz.mono (Nat.le_refl _) (Nat.le_succ J)) (by omega))
  have sd2 := hid (sz_und (hd2.sz.mono (Nat.le_refl _) (Nat.le_succ K)) (by omega))
  have sz1 := hid hz1.sz
  have sz2 := hid hz2.sz
  have su1 := hid h1.sz
  have su2 := hid h2.sz
  have hu1 := hid (und_ne v1)
  have hu2 := hid (und_ne v2)
  unfold qv
  have hv2 : u2 ≠ 0 := fun e => hv (by rw [e]; unfold qv; rw [zv_zero t rfl]; exact Rat.zero_mkRat _)
  rw [← qv_div s t u1 u2 hu1.out hu2.out hv2]
  have hq2 : qv t u2 v2 = mkRat (zv t u2) (und v2) := rfl
  rw [hq2] at hs hv hy0
  have hDD := hid (Nat.mul_ne_zero hu1.out hv2)
  generalize hyq : mkRat (zv t u2) (und v2) = y at hs hy0
  clear hv hq2 hyq
  have HU1 := hid (fun W (h : RdN J W b1 m1 d1 v1) => qunder (w := W) (s := s) (a := a1) (n := n1) (c := c1) (h.mono (show _ ≤ 4194304 by omega)))
  generalize hD1 : und v1 = e1 at *
  clear hD1
  have HU2 := hid (fun W (h : RdN K W b2 m2 d2 v2) => qunder (w := W) (s := t) (a := a2) (n := n2) (c := c2) (h.mono (show _ ≤ 4194304 by omega)))
  generalize hD2 : und v2 = e2 at *
  clear hD2
  have sN := hid (su1.out.mul sd2.out)
  have sD := hid (sd1.out.mul su2.out)
  clear hz1 hz2 hv2
  have hent := ent3 w #[Value.bool s, Value.slice a1 n1 c1, Value.slice b1 m1 d1] #[Value.bool t, Value.slice a2 n2 c2, Value.slice b2 m2 d2] #[Value.bool false, Value.slice none 0 0, Value.slice none 0 0] 28 28 28
  go_enter Try.func13, Try.ntmps13
  go_wp2_with fail
  generalize (((w.alloc (.cells #[Value.bool s, Value.slice a1 n1 c1, Value.slice b1 m1 d1] 28)).alloc (.cells #[Value.bool t, Value.slice a2 n2 c2, Value.slice b2 m2 d2] 28)).alloc (.cells #[Value.bool false, Value.slice none 0 0, Value.slice none 0 0] 28)) = W0 at hent ⊢
  obtain ⟨X_0, Y_0, R0_0, hbel_0, hsz_0⟩ := hent
  have cX_0_0 : _ = some (Value.bool s) := X_0.cell 0
  have cX_0_1 : _ = some (Value.slice a1 n1 c1) := X_0.cell 1
  have cX_0_2 : _ = some (Value.slice b1 m1 d1) := X_0.cell 2
  have cY_0_0 : _ = some (Value.bool t) := Y_0.cell 0
  have cY_0_1 : _ = some (Value.slice a2 n2 c2) := Y_0.cell 1
  have cY_0_2 : _ = some (Value.slice b2 m2 d2) := Y_0.cell 2
  have cR0_0_0 : _ = some (Value.bool false) := R0_0.cell 0
  have fR0_0_0 := R0_0.free 0
  have cR0_0_1 : _ = some (Value.slice none 0 0) := R0_0.cell 1
  have fR0_0_1 := R0_0.free 1
  have cR0_0_2 : _ = some (Value.slice none 0 0) := R0_0.cell 2
  have fR0_0_2 := R0_0.free 2
  have hy0_0 := hy0.below hbel_0
  clear hy0
  have h1_0 := h1.below hbel_0
  clear h1
  have h2_0 := h2.below hbel_0
  clear h2
  have hd1_0 := hd1.below hbel_0
  clear hd1
  have hd2_0 := hd2.below hbel_0
  clear hd2
  go_wp2_with fail
  refine (qsign hy0_0 hK).mono ?_
  rintro e w1 ⟨rfl, hB⟩
  have hB_1 : Below W0.heap.size W0 w1 := (bl.next hB)
  have X_1 := X_0.next hB_1
  have cX_1_0 : _ = some (Value.bool s) := X_1.cell 0
  have cX_1_1 : _ = some (Value.slice a1 n1 c1) := X_1.cell 1
  have cX_1_2 : _ = some (Value.slice b1 m1 d1) := X_1.cell 2
  have Y_1 := Y_0.next hB_1
  have cY_1_0 : _ = some (Value.bool t) := Y_1.cell 0
  have cY_1_1 : _ = some (Value.slice a2 n2 c2) := Y_1.cell 1
  have cY_1_2 : _ = some (Value.slice b2 m2 d2) := Y_1.cell 2
  have R0_1 := R0_0.next hB_1
  have cR0_1_0 : _ = some (Value.bool false) := R0_1.cell 0
  have fR0_1_0 := R0_1.free 0
  have cR0_1_1 : _ = some (Value.slice none 0 0) := R0_1.cell 1
  have fR0_1_1 := R0_1.free 1
  have cR0_1_2 : _ = some (Value.slice none 0 0) := R0_1.cell 2
  have fR0_1_2 := R0_1.free 2
  have hy0_1 := hy0_0.below hB_1
  have h1_1 := h1_0.below hB_1
  have h2_1 := h2_0.below hB_1
  have hd1_1 := hd1_0.below hB_1
  have hd2_1 := hd2_0.below hB_1
  have hbel_1 := hbel_0.next hB_1
  have hsz_1 := hB_1.size
  clear X_0 cX_0_0 cX_0_1 cX_0_2 Y_0 cY_0_0 cY_0_1 cY_0_2 R0_0 cR0_0_0 fR0_0_0 cR0_0_1 fR0_0_1 cR0_0_2 fR0_0_2 hy0_0 h1_0 h2_0 hd1_0 hd2_0 hbel_0 hB_1
  try clear hB
  go_wp2_with fail
  go_region_held3 (fun w' => w'.cell? ⟨w.heap.size, 0, none⟩ = some (Value.bool s) ∧ w'.cell? ⟨w.heap.size, 1, none⟩ = some (Value.slice a1 n1 c1) ∧ w'.cell? ⟨w.heap.size, 2, none⟩ = some (Value.slice b1 m1 d1) ∧ w'.cell? ⟨w.heap.size + 1, 0, none⟩ = some (Value.bool t) ∧ w'.cell? ⟨w.heap.size + 1, 1, none⟩ = some (Value.slice a2 n2 c2) ∧ w'.cell? ⟨w.heap.size + 1, 2, none⟩ = some (Value.slice b2 m2 d2))
    (first | exact ⟨cX_1_0, cX_1_1, cX_1_2, cY_1_0, cY_1_1, cY_1_2⟩ | exact ⟨cX_2_0, cX_2_1, cX_2_2, cY_2_0, cY_2_1, cY_2_2⟩ | exact ⟨cX_3_0, cX_3_1, cX_3_2, cY_3_0, cY_3_1, cY_3_2⟩ | exact ⟨cX_4_0, cX_4_1, cX_4_2, cY_4_0, cY_4_1, cY_4_2⟩ | exact ⟨cX_5_0, cX_5_1, cX_5_2, cY_5_0, cY_5_1, cY_5_2⟩ | exact ⟨cX_6_0, cX_6_1, cX_6_2, cY_6_0, cY_6_1, cY_6_2⟩ | exact ⟨(cell_set3 (by omega) _ _ _).trans (cX_6_0), (cell_set3 (by omega) _ _ _).trans (cX_6_1), (cell_set3 (by omega) _ _ _).trans (cX_6_2), (cell_set3 (by omega) _ _ _).trans (cY_6_0), (cell_set3 (by omega) _ _ _).trans (cY_6_1), (cell_set3 (by omega) _ _ _).trans (cY_6_2)⟩ | go_keep)
    (first
      | (go_at_call 34; ((with_reducible refine (HU2.out _ (hd2_1.below bl)).mono ?_); (rintro e w2 ⟨va, vn, vc, rfl, hO, hB⟩; have hB_2 : Below w1.heap.size w1 w2 := (bl.next hB); have X_2 := X_1.next hB_2; have cX_2_0 : _ = some (Value.bool s) := X_2.cell 0; have cX_2_1 : _ = some (Value.slice a1 n1 c1) := X_2.cell 1; have cX_2_2 : _ = some (Value.slice b1 m1 d1) := X_2.cell 2; have Y_2 := Y_1.next hB_2; have cY_2_0 : _ = some (Value.bool t) := Y_2.cell 0; have cY_2_1 : _ = some (Value.slice a2 n2 c2) := Y_2.cell 1; have cY_2_2 : _ = some (Value.slice b2 m2 d2) := Y_2.cell 2; have R0_2 := R0_1.next hB_2; have cR0_2_0 : _ = some (Value.bool false) := R0_2.cell 0; have fR0_2_0 := R0_2.free 0; have cR0_2_1 : _ = some (Value.slice none 0 0) := R0_2.cell 1; have fR0_2_1 := R0_2.free 1; have cR0_2_2 : _ = some (Value.slice none 0 0) := R0_2.cell 2; have fR0_2_2 := R0_2.free 2; have hy0_2 := hy0_1.below hB_2; have h1_2 := h1_1.below hB_2; have h2_2 := h2_1.below hB_2; have hd1_2 := hd1_1.below hB_2; have hd2_2 := hd2_1.below hB_2; have hbel_2 := hbel_1.next hB_2; have hsz_2 := hB_2.size; clear X_1 cX_1_0 cX_1_1 cX_1_2 Y_1 cY_1_0 cY_1_1 cY_1_2 R0_1 cR0_1_0 fR0_1_0 cR0_1_1 fR0_1_1 cR0_1_2 fR0_1_2 hy0_1 h1_1 h2_1 hd1_1 hd2_1 hbel_1 hB_2; have V_2 := hO.rdN sd2.out; clear hO; try clear hB)))
      | (go_at_call 36; ((with_reducible refine (nmulR (h1_2.below bl) (V_2.below bl) (by omega) (by omega)).mono ?_); (rintro e w3 ⟨na, nn, nc, rfl, hO, hB⟩; have hB_3 : Below w2.heap.size w2 w3 := (bl.next hB); have X_3 := X_2.next hB_3; have cX_3_0 : _ = some (Value.bool s) := X_3.cell 0; have cX_3_1 : _ = some (Value.slice a1 n1 c1) := X_3.cell 1; have cX_3_2 : _ = some (Value.slice b1 m1 d1) := X_3.cell 2; have Y_3 := Y_2.next hB_3; have cY_3_0 : _ = some (Value.bool t) := Y_3.cell 0; have cY_3_1 : _ = some (Value.slice a2 n2 c2) := Y_3.cell 1; have cY_3_2 : _ = some (Value.slice b2 m2 d2) := Y_3.cell 2; have R0_3 := R0_2.next hB_3; have cR0_3_0 : _ = some (Value.bool false) := R0_3.cell 0; have fR0_3_0 := R0_3.free 0; have cR0_3_1 : _ = some (Value.slice none 0 0) := R0_3.cell 1; have fR0_3_1 := R0_3.free 1; have cR0_3_2 : _ = some (Value.slice none 0 0) := R0_3.cell 2; have fR0_3_2 := R0_3.free 2; have hy0_3 := hy0_2.below hB_3; have h1_3 := h1_2.below hB_3; have h2_3 := h2_2.below hB_3; have hd1_3 := hd1_2.below hB_3; have hd2_3 := hd2_2.below hB_3; have V_3 := V_2.below hB_3; have hbel_3 := hbel_2.next hB_3; have hsz_3 := hB_3.size; clear X_2 cX_2_0 cX_2_1 cX_2_2 Y_2 cY_2_0 cY_2_1 cY_2_2 R0_2 cR0_2_0 fR0_2_0 cR0_2_1 fR0_2_1 cR0_2_2 fR0_2_2 hy0_2 h1_2 h2_2 hd1_2 hd2_2 V_2 hbel_2 hB_3; have N_3 := hO.rdN sN.out; clear hO; try clear hB)))
      | (go_at_call 34; ((with_reducible refine (HU1.out _ (hd1_3.below bl)).mono ?_); (rintro e w4 ⟨ua, un, uc, rfl, hO, hB⟩; have hB_4 : Below w3.heap.size w3 w4 := (bl.next hB); have X_4 := X_3.next hB_4; have cX_4_0 : _ = some (Value.bool s) := X_4.cell 0; have cX_4_1 : _ = some (Value.slice a1 n1 c1) := X_4.cell 1; have cX_4_2 : _ = some (Value.slice b1 m1 d1) := X_4.cell 2; have Y_4 := Y_3.next hB_4; have cY_4_0 : _ = some (Value.bool t) := Y_4.cell 0; have cY_4_1 : _ = some (Value.slice a2 n2 c2) := Y_4.cell 1; have cY_4_2 : _ = some (Value.slice b2 m2 d2) := Y_4.cell 2; have R0_4 := R0_3.next hB_4; have cR0_4_0 : _ = some (Value.bool false) := R0_4.cell 0; have fR0_4_0 := R0_4.free 0; have cR0_4_1 : _ = some (Value.slice none 0 0) := R0_4.cell 1; have fR0_4_1 := R0_4.free 1; have cR0_4_2 : _ = some (Value.slice none 0 0) := R0_4.cell 2; have fR0_4_2 := R0_4.free 2; have hy0_4 := hy0_3.below hB_4; have h1_4 := h1_3.below hB_4; have h2_4 := h2_3.below hB_4; have hd1_4 := hd1_3.below hB_4; have hd2_4 := hd2_3.below hB_4; have V_4 := V_3.below hB_4; have N_4 := N_3.below hB_4; have hbel_4 := hbel_3.next hB_4; have hsz_4 := hB_4.size; clear X_3 cX_3_0 cX_3_1 cX_3_2 Y_3 cY_3_0 cY_3_1 cY_3_2 R0_3 cR0_3_0 fR0_3_0 cR0_3_1 fR0_3_1 cR0_3_2 fR0_3_2 hy0_3 h1_3 h2_3 hd1_3 hd2_3 V_3 N_3 hbel_3 hB_4; have U_4 := hO.rdN sd1.out; clear hO; try clear hB)))
      | (go_at_call 36; ((with_reducible refine (nmulR (U_4.below bl) (h2_4.below bl) (by omega) (by omega)).mono ?_); (rintro e w5 ⟨pa, pn, pc, rfl, hO, hB⟩; have hB_5 : Below w4.heap.size w4 w5 := (bl.next hB); have X_5 := X_4.next hB_5; have cX_5_0 : _ = some (Value.bool s) := X_5.cell 0; have cX_5_1 : _ = some (Value.slice a1 n1 c1) := X_5.cell 1; have cX_5_2 : _ = some (Value.slice b1 m1 d1) := X_5.cell 2; have Y_5 := Y_4.next hB_5; have cY_5_0 : _ = some (Value.bool t) := Y_5.cell 0; have cY_5_1 : _ = some (Value.slice a2 n2 c2) := Y_5.cell 1; have cY_5_2 : _ = some (Value.slice b2 m2 d2) := Y_5.cell 2; have R0_5 := R0_4.next hB_5; have cR0_5_0 : _ = some (Value.bool false) := R0_5.cell 0; have fR0_5_0 := R0_5.free 0; have cR0_5_1 : _ = some (Value.slice none 0 0) := R0_5.cell 1; have fR0_5_1 := R0_5.free 1; have cR0_5_2 : _ = some (Value.slice none 0 0) := R0_5.cell 2; have fR0_5_2 := R0_5.free 2; have hy0_5 := hy0_4.below hB_5; have h1_5 := h1_4.below hB_5; have h2_5 := h2_4.below hB_5; have hd1_5 := hd1_4.below hB_5; have hd2_5 := hd2_4.below hB_5; have V_5 := V_4.below hB_5; have N_5 := N_4.below hB_5; have U_5 := U_4.below hB_5; have hbel_5 := hbel_4.next hB_5; have hsz_5 := hB_5.size; clear X_4 cX_4_0 cX_4_1 cX_4_2 Y_4 cY_4_0 cY_4_1 cY_4_2 R0_4 cR0_4_0 fR0_4_0 cR0_4_1 fR0_4_1 cR0_4_2 fR0_4_2 hy0_4 h1_4 h2_4 hd1_4 hd2_4 V_4 N_4 U_4 hbel_4 hB_5; have P_5 := hO.rdN sD.out; clear hO; try clear hB)))
      | (go_at_call 35; ((with_reducible refine (qlow (!(s == t)) ((N_5.below bl).mono (by omega)) ((P_5.below bl).mono (by omega)) hDD.out).mono ?_); (rintro e w6 ⟨qa, qn, qc, da, dn, dc, rfl, hO, hO', hD, hB⟩; have hB_6 : Below w5.heap.size w5 w6 := (bl.next hB); have X_6 := X_5.next hB_6; have cX_6_0 : _ = some (Value.bool s) := X_6.cell 0; have cX_6_1 : _ = some (Value.slice a1 n1 c1) := X_6.cell 1; have cX_6_2 : _ = some (Value.slice b1 m1 d1) := X_6.cell 2; have Y_6 := Y_5.next hB_6; have cY_6_0 : _ = some (Value.bool t) := Y_6.cell 0; have cY_6_1 : _ = some (Value.slice a2 n2 c2) := Y_6.cell 1; have cY_6_2 : _ = some (Value.slice b2 m2 d2) := Y_6.cell 2; have R0_6 := R0_5.next hB_6; have cR0_6_0 : _ = some (Value.bool false) := R0_6.cell 0; have fR0_6_0 := R0_6.free 0; have cR0_6_1 : _ = some (Value.slice none 0 0) := R0_6.cell 1; have fR0_6_1 := R0_6.free 1; have cR0_6_2 : _ = some (Value.slice none 0 0) := R0_6.cell 2; have fR0_6_2 := R0_6.free 2; have hy0_6 := hy0_5.below hB_6; have h1_6 := h1_5.below hB_6; have h2_6 := h2_5.below hB_6; have hd1_6 := hd1_5.below hB_6; have hd2_6 := hd2_5.below hB_6; have V_6 := V_5.below hB_6; have N_6 := N_5.below hB_6; have U_6 := U_5.below hB_6; have P_6 := P_5.below hB_6; have hbel_6 := hbel_5.next hB_6; have hsz_6 := hB_6.size; clear X_5 cX_5_0 cX_5_1 cX_5_2 Y_5 cY_5_0 cY_5_1 cY_5_2 R0_5 cR0_5_0 fR0_5_0 cR0_5_1 fR0_5_1 cR0_5_2 fR0_5_2 hy0_5 h1_5 h2_5 hd1_5 hd2_5 V_5 N_5 U_5 P_5 hbel_5 hB_6; have OQ_6 := hO; have ltOQ := hO.ltB; have OD_6 := hO'; have ltOD := hO'.ltB; clear hO hO'; try clear hB))))
  go_wp2
  refine bodyPost_ret (v := .tuple #[.agg #[.bool (decide ((mkRat (zv (!(s == t)) (u1 * e2)) (e1 * u2)).num < 0)), .slice qa qn qc, .slice da dn dc], .int .i64 0]) (by simp [results, Try.results13, go_sem, cR0_6_0, cR0_6_1, cR0_6_2]) rfl ?_
  exact retqe_set (er := 0) OQ_6 OD_6 hD hbel_6 (by omega) (by omega)

theorem qdiv {w : World} {a1 b1 : Option Addr} {n1 c1 m1 d1 : Nat} {s : Bool} {x : Rat} {a2 b2 : Option Addr} {n2 c2 m2 d2 : Nat} {t : Bool} {y : Rat} {J K : Nat} (hx : RdQ J w s a1 n1 c1 b1 m1 d1 x) (hJ : J ≤ 1000000) (hy : RdQ K w t a2 n2 c2 b2 m2 d2 y) (hK : K ≤ 1000000) : Calls Try.prog 13 #[.agg #[.bool s, .slice a1 n1 c1, .slice b1 m1 d1], .agg #[.bool t, .slice a2 n2 c2, .slice b2 m2 d2]] w (RetQE w (x / y) (qE y)) := by
  by_cases h : y = 0
  · exact qdiv0 hx hJ hy hK h
  · exact qdiv1 hx hJ hy hK h

end Go.Proofs.Ytennilapmcgnbaa
/- WALKS OF FRACTIONS, 2: sums and differences. -/
namespace Go.Proofs.Ytennilapmcgnbaa
set_option linter.unusedVariables false
set_option linter.unusedSimpArgs false
open Go.ChangeShapes Go.WideShapes Go.ChangeAt Go.RowKit Go.NatP

set_option maxRecDepth 100000 in
set_option maxHeartbeats 4000000 in
theorem qadd {w : World} {a1 b1 : Option Addr} {n1 c1 m1 d1 : Nat} {s : Bool} {x : Rat} {a2 b2 : Option Addr} {n2 c2 m2 d2 : Nat} {t : Bool} {y : Rat} {J K : Nat} (hx : RdQ J w s a1 n1 c1 b1 m1 d1 x) (hJ : J ≤ 1000000) (hy : RdQ K w t a2 n2 c2 b2 m2 d2 y) (hK : K ≤ 1000000) :
    Calls Try.prog 11 #[.agg #[.bool s, .slice a1 n1 c1, .slice b1 m1 d1], .agg #[.bool t, .slice a2 n2 c2, .slice b2 m2 d2]] w (RetQ w (x + y)) := by
  obtain ⟨u1, v1, h1, hd1, rfl⟩ := hx
  obtain ⟨u2, v2, h2, hd2, rfl⟩ := hy
  have hz1 := h1.toZ (s := s)
  have hz2 := h2.toZ (s := t)
  have sd1 := hid (sz_und (hd1.sz.mono (Nat.le_refl _) (Nat.le_succ J)) (by omega))
  have sd2 := hid (sz_und (hd2.sz.mono (Nat.le_refl _) (Nat.le_succ K)) (by omega))
  have sz1 := hid hz1.sz
  have sz2 := hid hz2.sz
  have hu1 := hid (und_ne v1)
  have hu2 := hid (und_ne v2)
  unfold qv
  rw [← qv_add (zv s u1) (zv t u2) hu1.out hu2.out]
  have h3 := hz1
  have h4 := hz2
  generalize zv s u1 = x1 at *
  generalize zv t u2 = x2 at *
  generalize hD1 : und v1 = e1 at *
  generalize hD2 : und v2 = e2 at *
  clear h1 h2 h3 h4
  have hE1 := hid hD1
  have hE2 := hid hD2
  clear hD1 hD2
  have HU1 := hid (fun W (h : RdN J W b1 m1 d1 v1) => qunder (w := W) (s := s) (a := a1) (n := n1) (c := c1) (h.mono (show _ ≤ 4194304 by omega)))
  rw [hE1.out] at HU1
  have HU2 := hid (fun W (h : RdN K W b2 m2 d2 v2) => qunder (w := W) (s := t) (a := a2) (n := n2) (c := c2) (h.mono (show _ ≤ 4194304 by omega)))
  rw [hE2.out] at HU2
  have s12 := hid ((szMulN sz1.out sd2.out).mono (Nat.le_refl _) (show _ ≤ J + K + 2 by omega))
  have s21 := hid ((szMulN sz2.out sd1.out).mono (Nat.le_refl _) (show _ ≤ J + K + 2 by omega))
  have sS := hid (szAddZ s12.out s21.out)
  have sD := hid (sd1.out.mul sd2.out)
  have hDD := hid (Nat.mul_ne_zero hu1.out hu2.out)
  have hent := ent3 w #[Value.bool s, Value.slice a1 n1 c1, Value.slice b1 m1 d1] #[Value.bool t, Value.slice a2 n2 c2, Value.slice b2 m2 d2] #[Value.bool false, Value.slice none 0 0, Value.slice none 0 0] 28 28 28
  go_enter Try.func11, Try.ntmps11
  go_wp2_with fail
  generalize (((w.alloc (.cells #[Value.bool s, Value.slice a1 n1 c1, Value.slice b1 m1 d1] 28)).alloc (.cells #[Value.bool t, Value.slice a2 n2 c2, Value.slice b2 m2 d2] 28)).alloc (.cells #[Value.bool false, Value.slice none 0 0, Value.slice none 0 0] 28)) = W0 at hent ⊢
  obtain ⟨X_0, Y_0, R0_0, hbel_0, hsz_0⟩ := hent
  have cX_0_0 : _ = some (Value.bool s) := X_0.cell 0
  have cX_0_1 : _ = some (Value.slice a1 n1 c1) := X_0.cell 1
  have cX_0_2 : _ = some (Value.slice b1 m1 d1) := X_0.cell 2
  have cY_0_0 : _ = some (Value.bool t) := Y_0.cell 0
  have cY_0_1 : _ = some (Value.slice a2 n2 c2) := Y_0.cell 1
  have cY_0_2 : _ = some (Value.slice b2 m2 d2) := Y_0.cell 2
  have cR0_0_0 : _ = some (Value.bool false) := R0_0.cell 0
  have fR0_0_0 := R0_0.free 0
  have cR0_0_1 : _ = some (Value.slice none 0 0) := R0_0.cell 1
  have fR0_0_1 := R0_0.free 1
  have cR0_0_2 : _ = some (Value.slice none 0 0) := R0_0.cell 2
  have fR0_0_2 := R0_0.free 2
  have hz1_0 := hz1.below hbel_0
  clear hz1
  have hz2_0 := hz2.below hbel_0
  clear hz2
  have hd1_0 := hd1.below hbel_0
  clear hd1
  have hd2_0 := hd2.below hbel_0
  clear hd2
  go_wp2_with fail
  go_cut [5] (fun s5 wx => BoxZ W0 (x1 * (e2 : Int) + x2 * (e1 : Int)) s5 wx)
  case first =>
    have acc_0 : Below W0.heap.size W0 W0 := Below.refl _ _
    go_wp2_with fail
    go_region_held3 (fun w' => w'.cell? ⟨w.heap.size, 0, none⟩ = some (Value.bool s) ∧ w'.cell? ⟨w.heap.size, 1, none⟩ = some (Value.slice a1 n1 c1) ∧ w'.cell? ⟨w.heap.size, 2, none⟩ = some (Value.slice b1 m1 d1) ∧ w'.cell? ⟨w.heap.size + 1, 0, none⟩ = some (Value.bool t) ∧ w'.cell? ⟨w.heap.size + 1, 1, none⟩ = some (Value.slice a2 n2 c2) ∧ w'.cell? ⟨w.heap.size + 1, 2, none⟩ = some (Value.slice b2 m2 d2))
      (first | exact ⟨cX_0_0, cX_0_1, cX_0_2, cY_0_0, cY_0_1, cY_0_2⟩ | exact ⟨cX_1_0, cX_1_1, cX_1_2, cY_1_0, cY_1_1, cY_1_2⟩ | exact ⟨cX_2_0, cX_2_1, cX_2_2, cY_2_0, cY_2_1, cY_2_2⟩ | exact ⟨cX_3_0, cX_3_1, cX_3_2, cY_3_0, cY_3_1, cY_3_2⟩ | exact ⟨cX_4_0, cX_4_1, cX_4_2, cY_4_0, cY_4_1, cY_4_2⟩ | exact ⟨cX_5_0, cX_5_1, cX_5_2, cY_5_0, cY_5_1, cY_5_2⟩ | exact ⟨(cell_set2 (by omega) _ _).trans (cX_5_0), (cell_set2 (by omega) _ _).trans (cX_5_1), (cell_set2 (by omega) _ _).trans (cX_5_2), (cell_set2 (by omega) _ _).trans (cY_5_0), (cell_set2 (by omega) _ _).trans (cY_5_1), (cell_set2 (by omega) _ _).trans (cY_5_2)⟩ | exact ⟨(X_0.alloc _).cell 0, (X_0.alloc _).cell 1, (X_0.alloc _).cell 2, (Y_0.alloc _).cell 0, (Y_0.alloc _).cell 1, (Y_0.alloc _).cell 2⟩ | exact ⟨(X_1.alloc _).cell 0, (X_1.alloc _).cell 1, (X_1.alloc _).cell 2, (Y_1.alloc _).cell 0, (Y_1.alloc _).cell 1, (Y_1.alloc _).cell 2⟩ | exact ⟨(X_2.alloc _).cell 0, (X_2.alloc _).cell 1, (X_2.alloc _).cell 2, (Y_2.alloc _).cell 0, (Y_2.alloc _).cell 1, (Y_2.alloc _).cell 2⟩ | exact ⟨(X_3.alloc _).cell 0, (X_3.alloc _).cell 1, (X_3.alloc _).cell 2, (Y_3.alloc _).cell 0, (Y_3.alloc _).cell 1, (Y_3.alloc _).cell 2⟩ | exact ⟨(X_4.alloc _).cell 0, (X_4.alloc _).cell 1, (X_4.alloc _).cell 2, (Y_4.alloc _).cell 0, (Y_4.alloc _).cell 1, (Y_4.alloc _).cell 2⟩ | exact ⟨(X_5.alloc _).cell 0, (X_5.alloc _).cell 1, (X_5.alloc _).cell 2, (Y_5.alloc _).cell 0, (Y_5.alloc _).cell 1, (Y_5.alloc _).cell 2⟩ | go_keep)
      (first
        | (go_at_call 34; ((with_reducible refine (HU2.out _ (hd2_0.below bl)).mono ?_); (rintro e w1 ⟨ua, un, uc, rfl, hO, hB⟩; have hB_1 : Below W0.heap.size W0 w1 := (bl.next hB); have X_1 := X_0.next hB_1; have cX_1_0 : _ = some (Value.bool s) := X_1.cell 0; have cX_1_1 : _ = some (Value.slice a1 n1 c1) := X_1.cell 1; have cX_1_2 : _ = some (Value.slice b1 m1 d1) := X_1.cell 2; have Y_1 := Y_0.next hB_1; have cY_1_0 : _ = some (Value.bool t) := Y_1.cell 0; have cY_1_1 : _ = some (Value.slice a2 n2 c2) := Y_1.cell 1; have cY_1_2 : _ = some (Value.slice b2 m2 d2) := Y_1.cell 2; have R0_1 := R0_0.next hB_1; have cR0_1_0 : _ = some (Value.bool false) := R0_1.cell 0; have fR0_1_0 := R0_1.free 0; have cR0_1_1 : _ = some (Value.slice none 0 0) := R0_1.cell 1; have fR0_1_1 := R0_1.free 1; have cR0_1_2 : _ = some (Value.slice none 0 0) := R0_1.cell 2; have fR0_1_2 := R0_1.free 2; have hz1_1 := hz1_0.below hB_1; have hz2_1 := hz2_0.below hB_1; have hd1_1 := hd1_0.below hB_1; have hd2_1 := hd2_0.below hB_1; have hbel_1 := hbel_0.next hB_1; have hsz_1 := hB_1.size; clear X_0 cX_0_0 cX_0_1 cX_0_2 Y_0 cY_0_0 cY_0_1 cY_0_2 R0_0 cR0_0_0 fR0_0_0 cR0_0_1 fR0_0_1 cR0_0_2 fR0_0_2 hz1_0 hz2_0 hd1_0 hd2_0 hbel_0 hB_1; have acc_1 := acc_0.next (show Below _ _ _ from (bl.next hB)); (first | (have A := A.next (show Below _ _ _ from (bl.next hB)); have ltA := A.lt; have cA0 : _ = some (Value.bool false) := A.cell 0; have fA0 := A.free 0; have cA1 : _ = some (Value.slice none 0 0) := A.cell 1; have fA1 := A.free 1) | (have A := (blk_new' _ #[Value.bool false, Value.slice none 0 0] 26 (g := W0.heap.size) rfl).next (by first | exact hB | exact below_drew hB); have ltA := A.lt; have cA0 : _ = some (Value.bool false) := A.cell 0; have fA0 := A.free 0; have cA1 : _ = some (Value.slice none 0 0) := A.cell 1; have fA1 := A.free 1) | skip); have U_1 := hO.rdN sd2.out; clear hO; try clear hB)))
        | (go_at_call 33; ((with_reducible refine (qover ((hz1_1.below bl).mono (by omega)) ((U_1.below bl).mono (by omega))).mono ?_); (rintro e w2 ⟨pa, pn, pc, rfl, hO, hB⟩; have hB_2 : Below w1.heap.size w1 w2 := (bl.next hB); have X_2 := X_1.next hB_2; have cX_2_0 : _ = some (Value.bool s) := X_2.cell 0; have cX_2_1 : _ = some (Value.slice a1 n1 c1) := X_2.cell 1; have cX_2_2 : _ = some (Value.slice b1 m1 d1) := X_2.cell 2; have Y_2 := Y_1.next hB_2; have cY_2_0 : _ = some (Value.bool t) := Y_2.cell 0; have cY_2_1 : _ = some (Value.slice a2 n2 c2) := Y_2.cell 1; have cY_2_2 : _ = some (Value.slice b2 m2 d2) := Y_2.cell 2; have R0_2 := R0_1.next hB_2; have cR0_2_0 : _ = some (Value.bool false) := R0_2.cell 0; have fR0_2_0 := R0_2.free 0; have cR0_2_1 : _ = some (Value.slice none 0 0) := R0_2.cell 1; have fR0_2_1 := R0_2.free 1; have cR0_2_2 : _ = some (Value.slice none 0 0) := R0_2.cell 2; have fR0_2_2 := R0_2.free 2; have hz1_2 := hz1_1.below hB_2; have hz2_2 := hz2_1.below hB_2; have hd1_2 := hd1_1.below hB_2; have hd2_2 := hd2_1.below hB_2; have U_2 := U_1.below hB_2; have hbel_2 := hbel_1.next hB_2; have hsz_2 := hB_2.size; clear X_1 cX_1_0 cX_1_1 cX_1_2 Y_1 cY_1_0 cY_1_1 cY_1_2 R0_1 cR0_1_0 fR0_1_0 cR0_1_1 fR0_1_1 cR0_1_2 fR0_1_2 hz1_1 hz2_1 hd1_1 hd2_1 U_1 hbel_1 hB_2; have acc_2 := acc_1.next (show Below _ _ _ from (bl.next hB)); (first | (have A := A.next (show Below _ _ _ from (bl.next hB)); have ltA := A.lt; have cA0 : _ = some (Value.bool false) := A.cell 0; have fA0 := A.free 0; have cA1 : _ = some (Value.slice none 0 0) := A.cell 1; have fA1 := A.free 1) | (have A := (blk_new' _ #[Value.bool false, Value.slice none 0 0] 26 (g := w1.heap.size) rfl).next (by first | exact hB | exact below_drew hB); have ltA := A.lt; have cA0 : _ = some (Value.bool false) := A.cell 0; have fA0 := A.free 0; have cA1 : _ = some (Value.slice none 0 0) := A.cell 1; have fA1 := A.free 1) | skip); have P_2 := hO.rdZ s12.out; clear hO; try clear hB)))
        | (go_at_call 34; ((with_reducible refine (HU1.out _ (hd1_2.below bl)).mono ?_); (rintro e w3 ⟨va, vn, vc, rfl, hO, hB⟩; have hB_3 : Below w2.heap.size w2 w3 := (bl.next hB); have X_3 := X_2.next hB_3; have cX_3_0 : _ = some (Value.bool s) := X_3.cell 0; have cX_3_1 : _ = some (Value.slice a1 n1 c1) := X_3.cell 1; have cX_3_2 : _ = some (Value.slice b1 m1 d1) := X_3.cell 2; have Y_3 := Y_2.next hB_3; have cY_3_0 : _ = some (Value.bool t) := Y_3.cell 0; have cY_3_1 : _ = some (Value.slice a2 n2 c2) := Y_3.cell 1; have cY_3_2 : _ = some (Value.slice b2 m2 d2) := Y_3.cell 2; have R0_3 := R0_2.next hB_3; have cR0_3_0 : _ = some (Value.bool false) := R0_3.cell 0; have fR0_3_0 := R0_3.free 0; have cR0_3_1 : _ = some (Value.slice none 0 0) := R0_3.cell 1; have fR0_3_1 := R0_3.free 1; have cR0_3_2 : _ = some (Value.slice none 0 0) := R0_3.cell 2; have fR0_3_2 := R0_3.free 2; have hz1_3 := hz1_2.below hB_3; have hz2_3 := hz2_2.below hB_3; have hd1_3 := hd1_2.below hB_3; have hd2_3 := hd2_2.below hB_3; have U_3 := U_2.below hB_3; have P_3 := P_2.below hB_3; have hbel_3 := hbel_2.next hB_3; have hsz_3 := hB_3.size; clear X_2 cX_2_0 cX_2_1 cX_2_2 Y_2 cY_2_0 cY_2_1 cY_2_2 R0_2 cR0_2_0 fR0_2_0 cR0_2_1 fR0_2_1 cR0_2_2 fR0_2_2 hz1_2 hz2_2 hd1_2 hd2_2 U_2 P_2 hbel_2 hB_3; have acc_3 := acc_2.next (show Below _ _ _ from (bl.next hB)); (first | (have A := A.next (show Below _ _ _ from (bl.next hB)); have ltA := A.lt; have cA0 : _ = some (Value.bool false) := A.cell 0; have fA0 := A.free 0; have cA1 : _ = some (Value.slice none 0 0) := A.cell 1; have fA1 := A.free 1) | (have A := (blk_new' _ #[Value.bool false, Value.slice none 0 0] 26 (g := w2.heap.size) rfl).next (by first | exact hB | exact below_drew hB); have ltA := A.lt; have cA0 : _ = some (Value.bool false) := A.cell 0; have fA0 := A.free 0; have cA1 : _ = some (Value.slice none 0 0) := A.cell 1; have fA1 := A.free 1) | skip); have V_3 := hO.rdN sd1.out; clear hO; try clear hB)))
        | (go_at_call 33; ((with_reducible refine (qover ((hz2_3.below bl).mono (by omega)) ((V_3.below bl).mono (by omega))).mono ?_); (rintro e w4 ⟨qa, qn, qc, rfl, hO, hB⟩; have hB_4 : Below w3.heap.size w3 w4 := (bl.next hB); have X_4 := X_3.next hB_4; have cX_4_0 : _ = some (Value.bool s) := X_4.cell 0; have cX_4_1 : _ = some (Value.slice a1 n1 c1) := X_4.cell 1; have cX_4_2 : _ = some (Value.slice b1 m1 d1) := X_4.cell 2; have Y_4 := Y_3.next hB_4; have cY_4_0 : _ = some (Value.bool t) := Y_4.cell 0; have cY_4_1 : _ = some (Value.slice a2 n2 c2) := Y_4.cell 1; have cY_4_2 : _ = some (Value.slice b2 m2 d2) := Y_4.cell 2; have R0_4 := R0_3.next hB_4; have cR0_4_0 : _ = some (Value.bool false) := R0_4.cell 0; have fR0_4_0 := R0_4.free 0; have cR0_4_1 : _ = some (Value.slice none 0 0) := R0_4.cell 1; have fR0_4_1 := R0_4.free 1; have cR0_4_2 : _ = some (Value.slice none 0 0) := R0_4.cell 2; have fR0_4_2 := R0_4.free 2; have hz1_4 := hz1_3.below hB_4; have hz2_4 := hz2_3.below hB_4; have hd1_4 := hd1_3.below hB_4; have hd2_4 := hd2_3.below hB_4; have U_4 := U_3.below hB_4; have P_4 := P_3.below hB_4; have V_4 := V_3.below hB_4; have hbel_4 := hbel_3.next hB_4; have hsz_4 := hB_4.size; clear X_3 cX_3_0 cX_3_1 cX_3_2 Y_3 cY_3_0 cY_3_1 cY_3_2 R0_3 cR0_3_0 fR0_3_0 cR0_3_1 fR0_3_1 cR0_3_2 fR0_3_2 hz1_3 hz2_3 hd1_3 hd2_3 U_3 P_3 V_3 hbel_3 hB_4; have acc_4 := acc_3.next (show Below _ _ _ from (bl.next hB)); (first | (have A := A.next (show Below _ _ _ from (bl.next hB)); have ltA := A.lt; have cA0 : _ = some (Value.bool false) := A.cell 0; have fA0 := A.free 0; have cA1 : _ = some (Value.slice none 0 0) := A.cell 1; have fA1 := A.free 1) | (have A := (blk_new' _ #[Value.bool false, Value.slice none 0 0] 26 (g := w3.heap.size) rfl).next (by first | exact hB | exact below_drew hB); have ltA := A.lt; have cA0 : _ = some (Value.bool false) := A.cell 0; have fA0 := A.free 0; have cA1 : _ = some (Value.slice none 0 0) := A.cell 1; have fA1 := A.free 1) | skip); have Q_4 := hO.rdZ s21.out; clear hO; try clear hB)))
        | (go_at_call 32; ((with_reducible refine (zaddR (P_4.below bl) (Q_4.below bl) (by omega) (by omega)).mono ?_); (rintro e w5 ⟨ra, rn, rc, rfl, hO, hB⟩; have hB_5 : Below w4.heap.size w4 w5 := (bl.next hB); have X_5 := X_4.next hB_5; have cX_5_0 : _ = some (Value.bool s) := X_5.cell 0; have cX_5_1 : _ = some (Value.slice a1 n1 c1) := X_5.cell 1; have cX_5_2 : _ = some (Value.slice b1 m1 d1) := X_5.cell 2; have Y_5 := Y_4.next hB_5; have cY_5_0 : _ = some (Value.bool t) := Y_5.cell 0; have cY_5_1 : _ = some (Value.slice a2 n2 c2) := Y_5.cell 1; have cY_5_2 : _ = some (Value.slice b2 m2 d2) := Y_5.cell 2; have R0_5 := R0_4.next hB_5; have cR0_5_0 : _ = some (Value.bool false) := R0_5.cell 0; have fR0_5_0 := R0_5.free 0; have cR0_5_1 : _ = some (Value.slice none 0 0) := R0_5.cell 1; have fR0_5_1 := R0_5.free 1; have cR0_5_2 : _ = some (Value.slice none 0 0) := R0_5.cell 2; have fR0_5_2 := R0_5.free 2; have hz1_5 := hz1_4.below hB_5; have hz2_5 := hz2_4.below hB_5; have hd1_5 := hd1_4.below hB_5; have hd2_5 := hd2_4.below hB_5; have U_5 := U_4.below hB_5; have P_5 := P_4.below hB_5; have V_5 := V_4.below hB_5; have Q_5 := Q_4.below hB_5; have hbel_5 := hbel_4.next hB_5; have hsz_5 := hB_5.size; clear X_4 cX_4_0 cX_4_1 cX_4_2 Y_4 cY_4_0 cY_4_1 cY_4_2 R0_4 cR0_4_0 fR0_4_0 cR0_4_1 fR0_4_1 cR0_4_2 fR0_4_2 hz1_4 hz2_4 hd1_4 hd2_4 U_4 P_4 V_4 Q_4 hbel_4 hB_5; have acc_5 := acc_4.next (show Below _ _ _ from (bl.next hB)); (first | (have A := A.next (show Below _ _ _ from (bl.next hB)); have ltA := A.lt; have cA0 : _ = some (Value.bool false) := A.cell 0; have fA0 := A.free 0; have cA1 : _ = some (Value.slice none 0 0) := A.cell 1; have fA1 := A.free 1) | (have A := (blk_new' _ #[Value.bool false, Value.slice none 0 0] 26 (g := w4.heap.size) rfl).next (by first | exact hB | exact below_drew hB); have ltA := A.lt; have cA0 : _ = some (Value.bool false) := A.cell 0; have fA0 := A.free 0; have cA1 : _ = some (Value.slice none 0 0) := A.cell 1; have fA1 := A.free 1) | skip); try clear hB))))
    all_goals (go_wp2_with fail; go_meet; first | exact boxZ_new hO (by first | omega | (simp; omega) | simp) acc_5 | exact boxZ_set A hO (by first | omega | (simp; omega) | simp) (by first | omega | (simp; omega) | simp) acc_5)
  case rest =>
    obtain ⟨gS, Sa, Sn, Sc, rfl, hbk, hgeS, hO, awS, hBc⟩ := hcut
    have hB_1 : Below W0.heap.size W0 wc := hBc
    have X_1 := X_0.next hB_1
    have cX_1_0 : _ = some (Value.bool s) := X_1.cell 0
    have cX_1_1 : _ = some (Value.slice a1 n1 c1) := X_1.cell 1
    have cX_1_2 : _ = some (Value.slice b1 m1 d1) := X_1.cell 2
    have Y_1 := Y_0.next hB_1
    have cY_1_0 : _ = some (Value.bool t) := Y_1.cell 0
    have cY_1_1 : _ = some (Value.slice a2 n2 c2) := Y_1.cell 1
    have cY_1_2 : _ = some (Value.slice b2 m2 d2) := Y_1.cell 2
    have R0_1 := R0_0.next hB_1
    have cR0_1_0 : _ = some (Value.bool false) := R0_1.cell 0
    have fR0_1_0 := R0_1.free 0
    have cR0_1_1 : _ = some (Value.slice none 0 0) := R0_1.cell 1
    have fR0_1_1 := R0_1.free 1
    have cR0_1_2 : _ = some (Value.slice none 0 0) := R0_1.cell 2
    have fR0_1_2 := R0_1.free 2
    have hz1_1 := hz1_0.below hB_1
    have hz2_1 := hz2_0.below hB_1
    have hd1_1 := hd1_0.below hB_1
    have hd2_1 := hd2_0.below hB_1
    have hbel_1 := hbel_0.next hB_1
    have hsz_1 := hB_1.size
    clear X_0 cX_0_0 cX_0_1 cX_0_2 Y_0 cY_0_0 cY_0_1 cY_0_2 R0_0 cR0_0_0 fR0_0_0 cR0_0_1 fR0_0_1 cR0_0_2 fR0_0_2 hz1_0 hz2_0 hd1_0 hd2_0 hbel_0 hB_1
    clear hBc
    obtain ⟨wc1, hwc⟩ : ∃ x : World, x = wc := ⟨_, rfl⟩
    subst hwc
    have S_1 := hbk
    have hltS := hbk.lt
    clear hbk
    have cS_1_0 : _ = some (Value.bool (decide (x1 * (e2 : Int) + x2 * (e1 : Int) < 0))) := S_1.cell 0
    have cS_1_1 : _ = some (Value.slice Sa Sn Sc) := S_1.cell 1
    have OS_1 := hO
    have ltOS := hO.ltB
    clear hO
    have Z_1 := OS_1.rdZ sS.out
    obtain ⟨r, hr, hrz⟩ := Z_1
    have HR_1 := hr
    clear hr
    have hrz' := hid hrz
    clear hrz
    go_wp2_with fail
    go_region_held3 (fun w' => w'.cell? ⟨w.heap.size, 0, none⟩ = some (Value.bool s) ∧ w'.cell? ⟨w.heap.size, 1, none⟩ = some (Value.slice a1 n1 c1) ∧ w'.cell? ⟨w.heap.size, 2, none⟩ = some (Value.slice b1 m1 d1) ∧ w'.cell? ⟨w.heap.size + 1, 0, none⟩ = some (Value.bool t) ∧ w'.cell? ⟨w.heap.size + 1, 1, none⟩ = some (Value.slice a2 n2 c2) ∧ w'.cell? ⟨w.heap.size + 1, 2, none⟩ = some (Value.slice b2 m2 d2) ∧ w'.cell? ⟨gS, 0, none⟩ = some (Value.bool (decide (x1 * (e2 : Int) + x2 * (e1 : Int) < 0))) ∧ w'.cell? ⟨gS, 1, none⟩ = some (Value.slice Sa Sn Sc))
      (first | exact ⟨cX_1_0, cX_1_1, cX_1_2, cY_1_0, cY_1_1, cY_1_2, cS_1_0, cS_1_1⟩ | exact ⟨cX_2_0, cX_2_1, cX_2_2, cY_2_0, cY_2_1, cY_2_2, cS_2_0, cS_2_1⟩ | exact ⟨cX_3_0, cX_3_1, cX_3_2, cY_3_0, cY_3_1, cY_3_2, cS_3_0, cS_3_1⟩ | exact ⟨cX_4_0, cX_4_1, cX_4_2, cY_4_0, cY_4_1, cY_4_2, cS_4_0, cS_4_1⟩ | exact ⟨cX_5_0, cX_5_1, cX_5_2, cY_5_0, cY_5_1, cY_5_2, cS_5_0, cS_5_1⟩ | exact ⟨(cell_set3 (by omega) _ _ _).trans (cX_5_0), (cell_set3 (by omega) _ _ _).trans (cX_5_1), (cell_set3 (by omega) _ _ _).trans (cX_5_2), (cell_set3 (by omega) _ _ _).trans (cY_5_0), (cell_set3 (by omega) _ _ _).trans (cY_5_1), (cell_set3 (by omega) _ _ _).trans (cY_5_2), (cell_set3 (by omega) _ _ _).trans (cS_5_0), (cell_set3 (by omega) _ _ _).trans (cS_5_1)⟩ | go_keep)
      (first
        | (go_at_call 34; ((with_reducible refine (HU1.out _ (hd1_1.below bl)).mono ?_); (rintro e w2 ⟨ua, un, uc, rfl, hO, hB⟩; have hB_2 : Below wc1.heap.size wc1 w2 := (bl.next hB); have X_2 := X_1.next hB_2; have cX_2_0 : _ = some (Value.bool s) := X_2.cell 0; have cX_2_1 : _ = some (Value.slice a1 n1 c1) := X_2.cell 1; have cX_2_2 : _ = some (Value.slice b1 m1 d1) := X_2.cell 2; have Y_2 := Y_1.next hB_2; have cY_2_0 : _ = some (Value.bool t) := Y_2.cell 0; have cY_2_1 : _ = some (Value.slice a2 n2 c2) := Y_2.cell 1; have cY_2_2 : _ = some (Value.slice b2 m2 d2) := Y_2.cell 2; have R0_2 := R0_1.next hB_2; have cR0_2_0 : _ = some (Value.bool false) := R0_2.cell 0; have fR0_2_0 := R0_2.free 0; have cR0_2_1 : _ = some (Value.slice none 0 0) := R0_2.cell 1; have fR0_2_1 := R0_2.free 1; have cR0_2_2 : _ = some (Value.slice none 0 0) := R0_2.cell 2; have fR0_2_2 := R0_2.free 2; have S_2 := S_1.next hB_2; have cS_2_0 : _ = some (Value.bool (decide (x1 * (e2 : Int) + x2 * (e1 : Int) < 0))) := S_2.cell 0; have cS_2_1 : _ = some (Value.slice Sa Sn Sc) := S_2.cell 1; have hz1_2 := hz1_1.below hB_2; have hz2_2 := hz2_1.below hB_2; have hd1_2 := hd1_1.below hB_2; have hd2_2 := hd2_1.below hB_2; have OS_2 := OS_1.below hB_2; have HR_2 := HR_1.below hB_2; have hbel_2 := hbel_1.next hB_2; have hsz_2 := hB_2.size; clear X_1 cX_1_0 cX_1_1 cX_1_2 Y_1 cY_1_0 cY_1_1 cY_1_2 R0_1 cR0_1_0 fR0_1_0 cR0_1_1 fR0_1_1 cR0_1_2 fR0_1_2 S_1 cS_1_0 cS_1_1 hz1_1 hz2_1 hd1_1 hd2_1 OS_1 HR_1 hbel_1 hB_2; have U_2 := hO.rdN sd1.out; clear hO; try clear hB)))
        | (go_at_call 34; ((with_reducible refine (HU2.out _ (hd2_2.below bl)).mono ?_); (rintro e w3 ⟨va, vn, vc, rfl, hO, hB⟩; have hB_3 : Below w2.heap.size w2 w3 := (bl.next hB); have X_3 := X_2.next hB_3; have cX_3_0 : _ = some (Value.bool s) := X_3.cell 0; have cX_3_1 : _ = some (Value.slice a1 n1 c1) := X_3.cell 1; have cX_3_2 : _ = some (Value.slice b1 m1 d1) := X_3.cell 2; have Y_3 := Y_2.next hB_3; have cY_3_0 : _ = some (Value.bool t) := Y_3.cell 0; have cY_3_1 : _ = some (Value.slice a2 n2 c2) := Y_3.cell 1; have cY_3_2 : _ = some (Value.slice b2 m2 d2) := Y_3.cell 2; have R0_3 := R0_2.next hB_3; have cR0_3_0 : _ = some (Value.bool false) := R0_3.cell 0; have fR0_3_0 := R0_3.free 0; have cR0_3_1 : _ = some (Value.slice none 0 0) := R0_3.cell 1; have fR0_3_1 := R0_3.free 1; have cR0_3_2 : _ = some (Value.slice none 0 0) := R0_3.cell 2; have fR0_3_2 := R0_3.free 2; have S_3 := S_2.next hB_3; have cS_3_0 : _ = some (Value.bool (decide (x1 * (e2 : Int) + x2 * (e1 : Int) < 0))) := S_3.cell 0; have cS_3_1 : _ = some (Value.slice Sa Sn Sc) := S_3.cell 1; have hz1_3 := hz1_2.below hB_3; have hz2_3 := hz2_2.below hB_3; have hd1_3 := hd1_2.below hB_3; have hd2_3 := hd2_2.below hB_3; have OS_3 := OS_2.below hB_3; have HR_3 := HR_2.below hB_3; have U_3 := U_2.below hB_3; have hbel_3 := hbel_2.next hB_3; have hsz_3 := hB_3.size; clear X_2 cX_2_0 cX_2_1 cX_2_2 Y_2 cY_2_0 cY_2_1 cY_2_2 R0_2 cR0_2_0 fR0_2_0 cR0_2_1 fR0_2_1 cR0_2_2 fR0_2_2 S_2 cS_2_0 cS_2_1 hz1_2 hz2_2 hd1_2 hd2_2 OS_2 HR_2 U_2 hbel_2 hB_3; have V_3 := hO.rdN sd2.out; clear hO; try clear hB)))
        | (go_at_call 36; ((with_reducible refine (nmulR (U_3.below bl) (V_3.below bl) (by omega) (by omega)).mono ?_); (rintro e w4 ⟨pa, pn, pc, rfl, hO, hB⟩; have hB_4 : Below w3.heap.size w3 w4 := (bl.next hB); have X_4 := X_3.next hB_4; have cX_4_0 : _ = some (Value.bool s) := X_4.cell 0; have cX_4_1 : _ = some (Value.slice a1 n1 c1) := X_4.cell 1; have cX_4_2 : _ = some (Value.slice b1 m1 d1) := X_4.cell 2; have Y_4 := Y_3.next hB_4; have cY_4_0 : _ = some (Value.bool t) := Y_4.cell 0; have cY_4_1 : _ = some (Value.slice a2 n2 c2) := Y_4.cell 1; have cY_4_2 : _ = some (Value.slice b2 m2 d2) := Y_4.cell 2; have R0_4 := R0_3.next hB_4; have cR0_4_0 : _ = some (Value.bool false) := R0_4.cell 0; have fR0_4_0 := R0_4.free 0; have cR0_4_1 : _ = some (Value.slice none 0 0) := R0_4.cell 1; have fR0_4_1 := R0_4.free 1; have cR0_4_2 : _ = some (Value.slice none 0 0) := R0_4.cell 2; have fR0_4_2 := R0_4.free 2; have S_4 := S_3.next hB_4; have cS_4_0 : _ = some (Value.bool (decide (x1 * (e2 : Int) + x2 * (e1 : Int) < 0))) := S_4.cell 0; have cS_4_1 : _ = some (Value.slice Sa Sn Sc) := S_4.cell 1; have hz1_4 := hz1_3.below hB_4; have hz2_4 := hz2_3.below hB_4; have hd1_4 := hd1_3.below hB_4; have hd2_4 := hd2_3.below hB_4; have OS_4 := OS_3.below hB_4; have HR_4 := HR_3.below hB_4; have U_4 := U_3.below hB_4; have V_4 := V_3.below hB_4; have hbel_4 := hbel_3.next hB_4; have hsz_4 := hB_4.size; clear X_3 cX_3_0 cX_3_1 cX_3_2 Y_3 cY_3_0 cY_3_1 cY_3_2 R0_3 cR0_3_0 fR0_3_0 cR0_3_1 fR0_3_1 cR0_3_2 fR0_3_2 S_3 cS_3_0 cS_3_1 hz1_3 hz2_3 hd1_3 hd2_3 OS_3 HR_3 U_3 V_3 hbel_3 hB_4; have P_4 := hO.rdN sD.out; clear hO; try clear hB)))
        | (go_at_call 35; ((with_reducible refine (qlow (decide (x1 * (e2 : Int) + x2 * (e1 : Int) < 0)) ((HR_4.below bl).mono (by omega)) ((P_4.below bl).mono (by omega)) hDD.out).mono ?_); (rw [hrz'.out]; rintro e w5 ⟨qa, qn, qc, da, dn, dc, rfl, hO, hO', hD, hB⟩; have hB_5 : Below w4.heap.size w4 w5 := (bl.next hB); have X_5 := X_4.next hB_5; have cX_5_0 : _ = some (Value.bool s) := X_5.cell 0; have cX_5_1 : _ = some (Value.slice a1 n1 c1) := X_5.cell 1; have cX_5_2 : _ = some (Value.slice b1 m1 d1) := X_5.cell 2; have Y_5 := Y_4.next hB_5; have cY_5_0 : _ = some (Value.bool t) := Y_5.cell 0; have cY_5_1 : _ = some (Value.slice a2 n2 c2) := Y_5.cell 1; have cY_5_2 : _ = some (Value.slice b2 m2 d2) := Y_5.cell 2; have R0_5 := R0_4.next hB_5; have cR0_5_0 : _ = some (Value.bool false) := R0_5.cell 0; have fR0_5_0 := R0_5.free 0; have cR0_5_1 : _ = some (Value.slice none 0 0) := R0_5.cell 1; have fR0_5_1 := R0_5.free 1; have cR0_5_2 : _ = some (Value.slice none 0 0) := R0_5.cell 2; have fR0_5_2 := R0_5.free 2; have S_5 := S_4.next hB_5; have cS_5_0 : _ = some (Value.bool (decide (x1 * (e2 : Int) + x2 * (e1 : Int) < 0))) := S_5.cell 0; have cS_5_1 : _ = some (Value.slice Sa Sn Sc) := S_5.cell 1; have hz1_5 := hz1_4.below hB_5; have hz2_5 := hz2_4.below hB_5; have hd1_5 := hd1_4.below hB_5; have hd2_5 := hd2_4.below hB_5; have OS_5 := OS_4.below hB_5; have HR_5 := HR_4.below hB_5; have U_5 := U_4.below hB_5; have V_5 := V_4.below hB_5; have P_5 := P_4.below hB_5; have hbel_5 := hbel_4.next hB_5; have hsz_5 := hB_5.size; clear X_4 cX_4_0 cX_4_1 cX_4_2 Y_4 cY_4_0 cY_4_1 cY_4_2 R0_4 cR0_4_0 fR0_4_0 cR0_4_1 fR0_4_1 cR0_4_2 fR0_4_2 S_4 cS_4_0 cS_4_1 hz1_4 hz2_4 hd1_4 hd2_4 OS_4 HR_4 U_4 V_4 P_4 hbel_4 hB_5; have OQ_5 := hO; have ltOQ := hO.ltB; have OD_5 := hO'; have ltOD := hO'.ltB; clear hO hO'; try clear hB))))
    go_wp2
    refine bodyPost_ret (v := .agg #[.bool (decide ((mkRat (x1 * (e2 : Int) + x2 * (e1 : Int)) (e1 * e2)).num < 0)), .slice qa qn qc, .slice da dn dc]) (by simp [results, Try.results11, go_sem, cR0_5_0, cR0_5_1, cR0_5_2]) rfl ?_
    exact retq_set OQ_5 OD_5 hD hbel_5 (by omega) (by omega)

set_option maxRecDepth 100000 in
set_option maxHeartbeats 4000000 in
theorem qsub {w : World} {a1 b1 : Option Addr} {n1 c1 m1 d1 : Nat} {s : Bool} {x : Rat} {a2 b2 : Option Addr} {n2 c2 m2 d2 : Nat} {t : Bool} {y : Rat} {J K : Nat} (hx : RdQ J w s a1 n1 c1 b1 m1 d1 x) (hJ : J ≤ 1000000) (hy : RdQ K w t a2 n2 c2 b2 m2 d2 y) (hK : K ≤ 1000000) :
    Calls Try.prog 17 #[.agg #[.bool s, .slice a1 n1 c1, .slice b1 m1 d1], .agg #[.bool t, .slice a2 n2 c2, .slice b2 m2 d2]] w (RetQ w (x - y)) := by
  obtain ⟨u1, v1, h1, hd1, rfl⟩ := hx
  obtain ⟨u2, v2, h2, hd2, rfl⟩ := hy
  have hz1 := h1.toZ (s := s)
  have hz2 := h2.toZ (s := t)
  have sd1 := hid (sz_und (hd1.sz.mono (Nat.le_refl _) (Nat.le_succ J)) (by omega))
  have sd2 := hid (sz_und (hd2.sz.mono (Nat.le_refl _) (Nat.le_succ K)) (by omega))
  have sz1 := hid hz1.sz
  have sz2 := hid hz2.sz
  have hu1 := hid (und_ne v1)
  have hu2 := hid (und_ne v2)
  unfold qv
  rw [← qv_sub (zv s u1) (zv t u2) hu1.out hu2.out]
  have h3 := hz1
  have h4 := hz2
  generalize zv s u1 = x1 at *
  generalize zv t u2 = x2 at *
  generalize hD1 : und v1 = e1 at *
  generalize hD2 : und v2 = e2 at *
  clear h1 h2 h3 h4
  have hE1 := hid hD1
  have hE2 := hid hD2
  clear hD1 hD2
  have HU1 := hid (fun W (h : RdN J W b1 m1 d1 v1) => qunder (w := W) (s := s) (a := a1) (n := n1) (c := c1) (h.mono (show _ ≤ 4194304 by omega)))
  rw [hE1.out] at HU1
  have HU2 := hid (fun W (h : RdN K W b2 m2 d2 v2) => qunder (w := W) (s := t) (a := a2) (n := n2) (c := c2) (h.mono (show _ ≤ 4194304 by omega)))
  rw [hE2.out] at HU2
  have s12 := hid ((szMulN sz1.out sd2.out).mono (Nat.le_refl _) (show _ ≤ J + K + 2 by omega))
  have s21 := hid ((szMulN sz2.out sd1.out).mono (Nat.le_refl _) (show _ ≤ J + K + 2 by omega))
  have sS := hid (szSubZ s12.out s21.out)
  have sD := hid (sd1.out.mul sd2.out)
  have hDD := hid (Nat.mul_ne_zero hu1.out hu2.out)
  have hent := ent3 w #[Value.bool s, Value.slice a1 n1 c1, Value.slice b1 m1 d1] #[Value.bool t, Value.slice a2 n2 c2, Value.slice b2 m2 d2] #[Value.bool false, Value.slice none 0 0, Value.slice none 0 0] 28 28 28
  go_enter Try.func17, Try.ntmps17
  go_wp2_with fail
  generalize (((w.alloc (.cells #[Value.bool s, Value.slice a1 n1 c1, Value.slice b1 m1 d1] 28)).alloc (.cells #[Value.bool t, Value.slice a2 n2 c2, Value.slice b2 m2 d2] 28)).alloc (.cells #[Value.bool false, Value.slice none 0 0, Value.slice none 0 0] 28)) = W0 at hent ⊢
  obtain ⟨X_0, Y_0, R0_0, hbel_0, hsz_0⟩ := hent
  have cX_0_0 : _ = some (Value.bool s) := X_0.cell 0
  have cX_0_1 : _ = some (Value.slice a1 n1 c1) := X_0.cell 1
  have cX_0_2 : _ = some (Value.slice b1 m1 d1) := X_0.cell 2
  have cY_0_0 : _ = some (Value.bool t) := Y_0.cell 0
  have cY_0_1 : _ = some (Value.slice a2 n2 c2) := Y_0.cell 1
  have cY_0_2 : _ = some (Value.slice b2 m2 d2) := Y_0.cell 2
  have cR0_0_0 : _ = some (Value.bool false) := R0_0.cell 0
  have fR0_0_0 := R0_0.free 0
  have cR0_0_1 : _ = some (Value.slice none 0 0) := R0_0.cell 1
  have fR0_0_1 := R0_0.free 1
  have cR0_0_2 : _ = some (Value.slice none 0 0) := R0_0.cell 2
  have fR0_0_2 := R0_0.free 2
  have hz1_0 := hz1.below hbel_0
  clear hz1
  have hz2_0 := hz2.below hbel_0
  clear hz2
  have hd1_0 := hd1.below hbel_0
  clear hd1
  have hd2_0 := hd2.below hbel_0
  clear hd2
  go_wp2_with fail
  go_cut [5] (fun s5 wx => BoxZ W0 (x1 * (e2 : Int) - x2 * (e1 : Int)) s5 wx)
  case first =>
    have acc_0 : Below W0.heap.size W0 W0 := Below.refl _ _
    go_wp2_with fail
    go_region_held3 (fun w' => w'.cell? ⟨w.heap.size, 0, none⟩ = some (Value.bool s) ∧ w'.cell? ⟨w.heap.size, 1, none⟩ = some (Value.slice a1 n1 c1) ∧ w'.cell? ⟨w.heap.size, 2, none⟩ = some (Value.slice b1 m1 d1) ∧ w'.cell? ⟨w.heap.size + 1, 0, none⟩ = some (Value.bool t) ∧ w'.cell? ⟨w.heap.size + 1, 1, none⟩ = some (Value.slice a2 n2 c2) ∧ w'.cell? ⟨w.heap.size + 1, 2, none⟩ = some (Value.slice b2 m2 d2))
      (first | exact ⟨cX_0_0, cX_0_1, cX_0_2, cY_0_0, cY_0_1, cY_0_2⟩ | exact ⟨cX_1_0, cX_1_1, cX_1_2, cY_1_0, cY_1_1, cY_1_2⟩ | exact ⟨cX_2_0, cX_2_1, cX_2_2, cY_2_0, cY_2_1, cY_2_2⟩ | exact ⟨cX_3_0, cX_3_1, cX_3_2, cY_3_0, cY_3_1, cY_3_2⟩ | exact ⟨cX_4_0, cX_4_1, cX_4_2, cY_4_0, cY_4_1, cY_4_2⟩ | exact ⟨cX_5_0, cX_5_1, cX_5_2, cY_5_0, cY_5_1, cY_5_2⟩ | exact ⟨(cell_set2 (by omega) _ _).trans (cX_5_0), (cell_set2 (by omega) _ _).trans (cX_5_1), (cell_set2 (by omega) _ _).trans (cX_5_2), (cell_set2 (by omega) _ _).trans (cY_5_0), (cell_set2 (by omega) _ _).trans (cY_5_1), (cell_set2 (by omega) _ _).trans (cY_5_2)⟩ | exact ⟨(X_0.alloc _).cell 0, (X_0.alloc _).cell 1, (X_0.alloc _).cell 2, (Y_0.alloc _).cell 0, (Y_0.alloc _).cell 1, (Y_0.alloc _).cell 2⟩ | exact ⟨(X_1.alloc _).cell 0, (X_1.alloc _).cell 1, (X_1.alloc _).cell 2, (Y_1.alloc _).cell 0, (Y_1.alloc _).cell 1, (Y_1.alloc _).cell 2⟩ | exact ⟨(X_2.alloc _).cell 0, (X_2.alloc _).cell 1, (X_2.alloc _).cell 2, (Y_2.alloc _).cell 0, (Y_2.alloc _).cell 1, (Y_2.alloc _).cell 2⟩ | exact ⟨(X_3.alloc _).cell 0, (X_3.alloc _).cell 1, (X_3.alloc _).cell 2, (Y_3.alloc _).cell 0, (Y_3.alloc _).cell 1, (Y_3.alloc _).cell 2⟩ | exact ⟨(X_4.alloc _).cell 0, (X_4.alloc _).cell 1, (X_4.alloc _).cell 2, (Y_4.alloc _).cell 0, (Y_4.alloc _).cell 1, (Y_4.alloc _).cell 2⟩ | exact ⟨(X_5.alloc _).cell 0, (X_5.alloc _).cell 1, (X_5.alloc _).cell 2, (Y_5.alloc _).cell 0, (Y_5.alloc _).cell 1, (Y_5.alloc _).cell 2⟩ | go_keep)
      (first
        | (go_at_call 34; ((with_reducible refine (HU2.out _ (hd2_0.below bl)).mono ?_); (rintro e w1 ⟨ua, un, uc, rfl, hO, hB⟩; have hB_1 : Below W0.heap.size W0 w1 := (bl.next hB); have X_1 := X_0.next hB_1; have cX_1_0 : _ = some (Value.bool s) := X_1.cell 0; have cX_1_1 : _ = some (Value.slice a1 n1 c1) := X_1.cell 1; have cX_1_2 : _ = some (Value.slice b1 m1 d1) := X_1.cell 2; have Y_1 := Y_0.next hB_1; have cY_1_0 : _ = some (Value.bool t) := Y_1.cell 0; have cY_1_1 : _ = some (Value.slice a2 n2 c2) := Y_1.cell 1; have cY_1_2 : _ = some (Value.slice b2 m2 d2) := Y_1.cell 2; have R0_1 := R0_0.next hB_1; have cR0_1_0 : _ = some (Value.bool false) := R0_1.cell 0; have fR0_1_0 := R0_1.free 0; have cR0_1_1 : _ = some (Value.slice none 0 0) := R0_1.cell 1; have fR0_1_1 := R0_1.free 1; have cR0_1_2 : _ = some (Value.slice none 0 0) := R0_1.cell 2; have fR0_1_2 := R0_1.free 2; have hz1_1 := hz1_0.below hB_1; have hz2_1 := hz2_0.below hB_1; have hd1_1 := hd1_0.below hB_1; have hd2_1 := hd2_0.below hB_1; have hbel_1 := hbel_0.next hB_1; have hsz_1 := hB_1.size; clear X_0 cX_0_0 cX_0_1 cX_0_2 Y_0 cY_0_0 cY_0_1 cY_0_2 R0_0 cR0_0_0 fR0_0_0 cR0_0_1 fR0_0_1 cR0_0_2 fR0_0_2 hz1_0 hz2_0 hd1_0 hd2_0 hbel_0 hB_1; have acc_1 := acc_0.next (show Below _ _ _ from (bl.next hB)); (first | (have A := A.next (show Below _ _ _ from (bl.next hB)); have ltA := A.lt; have cA0 : _ = some (Value.bool false) := A.cell 0; have fA0 := A.free 0; have cA1 : _ = some (Value.slice none 0 0) := A.cell 1; have fA1 := A.free 1) | (have A := (blk_new' _ #[Value.bool false, Value.slice none 0 0] 26 (g := W0.heap.size) rfl).next (by first | exact hB | exact below_drew hB); have ltA := A.lt; have cA0 : _ = some (Value.bool false) := A.cell 0; have fA0 := A.free 0; have cA1 : _ = some (Value.slice none 0 0) := A.cell 1; have fA1 := A.free 1) | skip); have U_1 := hO.rdN sd2.out; clear hO; try clear hB)))
        | (go_at_call 33; ((with_reducible refine (qover ((hz1_1.below bl).mono (by omega)) ((U_1.below bl).mono (by omega))).mono ?_); (rintro e w2 ⟨pa, pn, pc, rfl, hO, hB⟩; have hB_2 : Below w1.heap.size w1 w2 := (bl.next hB); have X_2 := X_1.next hB_2; have cX_2_0 : _ = some (Value.bool s) := X_2.cell 0; have cX_2_1 : _ = some (Value.slice a1 n1 c1) := X_2.cell 1; have cX_2_2 : _ = some (Value.slice b1 m1 d1) := X_2.cell 2; have Y_2 := Y_1.next hB_2; have cY_2_0 : _ = some (Value.bool t) := Y_2.cell 0; have cY_2_1 : _ = some (Value.slice a2 n2 c2) := Y_2.cell 1; have cY_2_2 : _ = some (Value.slice b2 m2 d2) := Y_2.cell 2; have R0_2 := R0_1.next hB_2; have cR0_2_0 : _ = some (Value.bool false) := R0_2.cell 0; have fR0_2_0 := R0_2.free 0; have cR0_2_1 : _ = some (Value.slice none 0 0) := R0_2.cell 1; have fR0_2_1 := R0_2.free 1; have cR0_2_2 : _ = some (Value.slice none 0 0) := R0_2.cell 2; have fR0_2_2 := R0_2.free 2; have hz1_2 := hz1_1.below hB_2; have hz2_2 := hz2_1.below hB_2; have hd1_2 := hd1_1.below hB_2; have hd2_2 := hd2_1.below hB_2; have U_2 := U_1.below hB_2; have hbel_2 := hbel_1.next hB_2; have hsz_2 := hB_2.size; clear X_1 cX_1_0 cX_1_1 cX_1_2 Y_1 cY_1_0 cY_1_1 cY_1_2 R0_1 cR0_1_0 fR0_1_0 cR0_1_1 fR0_1_1 cR0_1_2 fR0_1_2 hz1_1 hz2_1 hd1_1 hd2_1 U_1 hbel_1 hB_2; have acc_2 := acc_1.next (show Below _ _ _ from (bl.next hB)); (first | (have A := A.next (show Below _ _ _ from (bl.next hB)); have ltA := A.lt; have cA0 : _ = some (Value.bool false) := A.cell 0; have fA0 := A.free 0; have cA1 : _ = some (Value.slice none 0 0) := A.cell 1; have fA1 := A.free 1) | (have A := (blk_new' _ #[Value.bool false, Value.slice none 0 0] 26 (g := w1.heap.size) rfl).next (by first | exact hB | exact below_drew hB); have ltA := A.lt; have cA0 : _ = some (Value.bool false) := A.cell 0; have fA0 := A.free 0; have cA1 : _ = some (Value.slice none 0 0) := A.cell 1; have fA1 := A.free 1) | skip); have P_2 := hO.rdZ s12.out; clear hO; try clear hB)))
        | (go_at_call 34; ((with_reducible refine (HU1.out _ (hd1_2.below bl)).mono ?_); (rintro e w3 ⟨va, vn, vc, rfl, hO, hB⟩; have hB_3 : Below w2.heap.size w2 w3 := (bl.next hB); have X_3 := X_2.next hB_3; have cX_3_0 : _ = some (Value.bool s) := X_3.cell 0; have cX_3_1 : _ = some (Value.slice a1 n1 c1) := X_3.cell 1; have cX_3_2 : _ = some (Value.slice b1 m1 d1) := X_3.cell 2; have Y_3 := Y_2.next hB_3; have cY_3_0 : _ = some (Value.bool t) := Y_3.cell 0; have cY_3_1 : _ = some (Value.slice a2 n2 c2) := Y_3.cell 1; have cY_3_2 : _ = some (Value.slice b2 m2 d2) := Y_3.cell 2; have R0_3 := R0_2.next hB_3; have cR0_3_0 : _ = some (Value.bool false) := R0_3.cell 0; have fR0_3_0 := R0_3.free 0; have cR0_3_1 : _ = some (Value.slice none 0 0) := R0_3.cell 1; have fR0_3_1 := R0_3.free 1; have cR0_3_2 : _ = some (Value.slice none 0 0) := R0_3.cell 2; have fR0_3_2 := R0_3.free 2; have hz1_3 := hz1_2.below hB_3; have hz2_3 := hz2_2.below hB_3; have hd1_3 := hd1_2.below hB_3; have hd2_3 := hd2_2.below hB_3; have U_3 := U_2.below hB_3; have P_3 := P_2.below hB_3; have hbel_3 := hbel_2.next hB_3; have hsz_3 := hB_3.size; clear X_2 cX_2_0 cX_2_1 cX_2_2 Y_2 cY_2_0 cY_2_1 cY_2_2 R0_2 cR0_2_0 fR0_2_0 cR0_2_1 fR0_2_1 cR0_2_2 fR0_2_2 hz1_2 hz2_2 hd1_2 hd2_2 U_2 P_2 hbel_2 hB_3; have acc_3 := acc_2.next (show Below _ _ _ from (bl.next hB)); (first | (have A := A.next (show Below _ _ _ from (bl.next hB)); have ltA := A.lt; have cA0 : _ = some (Value.bool false) := A.cell 0; have fA0 := A.free 0; have cA1 : _ = some (Value.slice none 0 0) := A.cell 1; have fA1 := A.free 1) | (have A := (blk_new' _ #[Value.bool false, Value.slice none 0 0] 26 (g := w2.heap.size) rfl).next (by first | exact hB | exact below_drew hB); have ltA := A.lt; have cA0 : _ = some (Value.bool false) := A.cell 0; have fA0 := A.free 0; have cA1 : _ = some (Value.slice none 0 0) := A.cell 1; have fA1 := A.free 1) | skip); have V_3 := hO.rdN sd1.out; clear hO; try clear hB)))
        | (go_at_call 33; ((with_reducible refine (qover ((hz2_3.below bl).mono (by omega)) ((V_3.below bl).mono (by omega))).mono ?_); (rintro e w4 ⟨qa, qn, qc, rfl, hO, hB⟩; have hB_4 : Below w3.heap.size w3 w4 := (bl.next hB); have X_4 := X_3.next hB_4; have cX_4_0 : _ = some (Value.bool s) := X_4.cell 0; have cX_4_1 : _ = some (Value.slice a1 n1 c1) := X_4.cell 1; have cX_4_2 : _ = some (Value.slice b1 m1 d1) := X_4.cell 2; have Y_4 := Y_3.next hB_4; have cY_4_0 : _ = some (Value.bool t) := Y_4.cell 0; have cY_4_1 : _ = some (Value.slice a2 n2 c2) := Y_4.cell 1; have cY_4_2 : _ = some (Value.slice b2 m2 d2) := Y_4.cell 2; have R0_4 := R0_3.next hB_4; have cR0_4_0 : _ = some (Value.bool false) := R0_4.cell 0; have fR0_4_0 := R0_4.free 0; have cR0_4_1 : _ = some (Value.slice none 0 0) := R0_4.cell 1; have fR0_4_1 := R0_4.free 1; have cR0_4_2 : _ = some (Value.slice none 0 0) := R0_4.cell 2; have fR0_4_2 := R0_4.free 2; have hz1_4 := hz1_3.below hB_4; have hz2_4 := hz2_3.below hB_4; have hd1_4 := hd1_3.below hB_4; have hd2_4 := hd2_3.below hB_4; have U_4 := U_3.below hB_4; have P_4 := P_3.below hB_4; have V_4 := V_3.below hB_4; have hbel_4 := hbel_3.next hB_4; have hsz_4 := hB_4.size; clear X_3 cX_3_0 cX_3_1 cX_3_2 Y_3 cY_3_0 cY_3_1 cY_3_2 R0_3 cR0_3_0 fR0_3_0 cR0_3_1 fR0_3_1 cR0_3_2 fR0_3_2 hz1_3 hz2_3 hd1_3 hd2_3 U_3 P_3 V_3 hbel_3 hB_4; have acc_4 := acc_3.next (show Below _ _ _ from (bl.next hB)); (first | (have A := A.next (show Below _ _ _ from (bl.next hB)); have ltA := A.lt; have cA0 : _ = some (Value.bool false) := A.cell 0; have fA0 := A.free 0; have cA1 : _ = some (Value.slice none 0 0) := A.cell 1; have fA1 := A.free 1) | (have A := (blk_new' _ #[Value.bool false, Value.slice none 0 0] 26 (g := w3.heap.size) rfl).next (by first | exact hB | exact below_drew hB); have ltA := A.lt; have cA0 : _ = some (Value.bool false) := A.cell 0; have fA0 := A.free 0; have cA1 : _ = some (Value.slice none 0 0) := A.cell 1; have fA1 := A.free 1) | skip); have Q_4 := hO.rdZ s21.out; clear hO; try clear hB)))
        | (go_at_call 37; ((with_reducible refine (zsubR (P_4.below bl) (Q_4.below bl) (by omega) (by omega)).mono ?_); (rintro e w5 ⟨ra, rn, rc, rfl, hO, hB⟩; have hB_5 : Below w4.heap.size w4 w5 := (bl.next hB); have X_5 := X_4.next hB_5; have cX_5_0 : _ = some (Value.bool s) := X_5.cell 0; have cX_5_1 : _ = some (Value.slice a1 n1 c1) := X_5.cell 1; have cX_5_2 : _ = some (Value.slice b1 m1 d1) := X_5.cell 2; have Y_5 := Y_4.next hB_5; have cY_5_0 : _ = some (Value.bool t) := Y_5.cell 0; have cY_5_1 : _ = some (Value.slice a2 n2 c2) := Y_5.cell 1; have cY_5_2 : _ = some (Value.slice b2 m2 d2) := Y_5.cell 2; have R0_5 := R0_4.next hB_5; have cR0_5_0 : _ = some (Value.bool false) := R0_5.cell 0; have fR0_5_0 := R0_5.free 0; have cR0_5_1 : _ = some (Value.slice none 0 0) := R0_5.cell 1; have fR0_5_1 := R0_5.free 1; have cR0_5_2 : _ = some (Value.slice none 0 0) := R0_5.cell 2; have fR0_5_2 := R0_5.free 2; have hz1_5 := hz1_4.below hB_5; have hz2_5 := hz2_4.below hB_5; have hd1_5 := hd1_4.below hB_5; have hd2_5 := hd2_4.below hB_5; have U_5 := U_4.below hB_5; have P_5 := P_4.below hB_5; have V_5 := V_4.below hB_5; have Q_5 := Q_4.below hB_5; have hbel_5 := hbel_4.next hB_5; have hsz_5 := hB_5.size; clear X_4 cX_4_0 cX_4_1 cX_4_2 Y_4 cY_4_0 cY_4_1 cY_4_2 R0_4 cR0_4_0 fR0_4_0 cR0_4_1 fR0_4_1 cR0_4_2 fR0_4_2 hz1_4 hz2_4 hd1_4 hd2_4 U_4 P_4 V_4 Q_4 hbel_4 hB_5; have acc_5 := acc_4.next (show Below _ _ _ from (bl.next hB)); (first | (have A := A.next (show Below _ _ _ from (bl.next hB)); have ltA := A.lt; have cA0 : _ = some (Value.bool false) := A.cell 0; have fA0 := A.free 0; have cA1 : _ = some (Value.slice none 0 0) := A.cell 1; have fA1 := A.free 1) | (have A := (blk_new' _ #[Value.bool false, Value.slice none 0 0] 26 (g := w4.heap.size) rfl).next (by first | exact hB | exact below_drew hB); have ltA := A.lt; have cA0 : _ = some (Value.bool false) := A.cell 0; have fA0 := A.free 0; have cA1 : _ = some (Value.slice none 0 0) := A.cell 1; have fA1 := A.free 1) | skip); try clear hB))))
    all_goals (go_wp2_with fail; go_meet; first | exact boxZ_new hO (by first | omega | (simp; omega) | simp) acc_5 | exact boxZ_set A hO (by first | omega | (simp; omega) | simp) (by first | omega | (simp; omega) | simp) acc_5)
  case rest =>
    obtain ⟨gS, Sa, Sn, Sc, rfl, hbk, hgeS, hO, awS, hBc⟩ := hcut
    have hB_1 : Below W0.heap.size W0 wc := hBc
    have X_1 := X_0.next hB_1
    have cX_1_0 : _ = some (Value.bool s) := X_1.cell 0
    have cX_1_1 : _ = some (Value.slice a1 n1 c1) := X_1.cell 1
    have cX_1_2 : _ = some (Value.slice b1 m1 d1) := X_1.cell 2
    have Y_1 := Y_0.next hB_1
    have cY_1_0 : _ = some (Value.bool t) := Y_1.cell 0
    have cY_1_1 : _ = some (Value.slice a2 n2 c2) := Y_1.cell 1
    have cY_1_2 : _ = some (Value.slice b2 m2 d2) := Y_1.cell 2
    have R0_1 := R0_0.next hB_1
    have cR0_1_0 : _ = some (Value.bool false) := R0_1.cell 0
    have fR0_1_0 := R0_1.free 0
    have cR0_1_1 : _ = some (Value.slice none 0 0) := R0_1.cell 1
    have fR0_1_1 := R0_1.free 1
    have cR0_1_2 : _ = some (Value.slice none 0 0) := R0_1.cell 2
    have fR0_1_2 := R0_1.free 2
    have hz1_1 := hz1_0.below hB_1
    have hz2_1 := hz2_0.below hB_1
    have hd1_1 := hd1_0.below hB_1
    have hd2_1 := hd2_0.below hB_1
    have hbel_1 := hbel_0.next hB_1
    have hsz_1 := hB_1.size
    clear X_0 cX_0_0 cX_0_1 cX_0_2 Y_0 cY_0_0 cY_0_1 cY_0_2 R0_0 cR0_0_0 fR0_0_0 cR0_0_1 fR0_0_1 cR0_0_2 fR0_0_2 hz1_0 hz2_0 hd1_0 hd2_0 hbel_0 hB_1
    clear hBc
    obtain ⟨wc1, hwc⟩ : ∃ x : World, x = wc := ⟨_, rfl⟩
    subst hwc
    have S_1 := hbk
    have hltS := hbk.lt
    clear hbk
    have cS_1_0 : _ = some (Value.bool (decide (x1 * (e2 : Int) - x2 * (e1 : Int) < 0))) := S_1.cell 0
    have cS_1_1 : _ = some (Value.slice Sa Sn Sc) := S_1.cell 1
    have OS_1 := hO
    have ltOS := hO.ltB
    clear hO
    have Z_1 := OS_1.rdZ sS.out
    obtain ⟨r, hr, hrz⟩ := Z_1
    have HR_1 := hr
    clear hr
    have hrz' := hid hrz
    clear hrz
    go_wp2_with fail
    go_region_held3 (fun w' => w'.cell? ⟨w.heap.size, 0, none⟩ = some (Value.bool s) ∧ w'.cell? ⟨w.heap.size, 1, none⟩ = some (Value.slice a1 n1 c1) ∧ w'.cell? ⟨w.heap.size, 2, none⟩ = some (Value.slice b1 m1 d1) ∧ w'.cell? ⟨w.heap.size + 1, 0, none⟩ = some (Value.bool t) ∧ w'.cell? ⟨w.heap.size + 1, 1, none⟩ = some (Value.slice a2 n2 c2) ∧ w'.cell? ⟨w.heap.size + 1, 2, none⟩ = some (Value.slice b2 m2 d2) ∧ w'.cell? ⟨gS, 0, none⟩ = some (Value.bool (decide (x1 * (e2 : Int) - x2 * (e1 : Int) < 0))) ∧ w'.cell? ⟨gS, 1, none⟩ = some (Value.slice Sa Sn Sc))
      (first | exact ⟨cX_1_0, cX_1_1, cX_1_2, cY_1_0, cY_1_1, cY_1_2, cS_1_0, cS_1_1⟩ | exact ⟨cX_2_0, cX_2_1, cX_2_2, cY_2_0, cY_2_1, cY_2_2, cS_2_0, cS_2_1⟩ | exact ⟨cX_3_0, cX_3_1, cX_3_2, cY_3_0, cY_3_1, cY_3_2, cS_3_0, cS_3_1⟩ | exact ⟨cX_4_0, cX_4_1, cX_4_2, cY_4_0, cY_4_1, cY_4_2, cS_4_0, cS_4_1⟩ | exact ⟨cX_5_0, cX_5_1, cX_5_2, cY_5_0, cY_5_1, cY_5_2, cS_5_0, cS_5_1⟩ | exact ⟨(cell_set3 (by omega) _ _ _).trans (cX_5_0), (cell_set3 (by omega) _ _ _).trans (cX_5_1), (cell_set3 (by omega) _ _ _).trans (cX_5_2), (cell_set3 (by omega) _ _ _).trans (cY_5_0), (cell_set3 (by omega) _ _ _).trans (cY_5_1), (cell_set3 (by omega) _ _ _).trans (cY_5_2), (cell_set3 (by omega) _ _ _).trans (cS_5_0), (cell_set3 (by omega) _ _ _).trans (cS_5_1)⟩ | go_keep)
      (first
        | (go_at_call 34; ((with_reducible refine (HU1.out _ (hd1_1.below bl)).mono ?_); (rintro e w2 ⟨ua, un, uc, rfl, hO, hB⟩; have hB_2 : Below wc1.heap.size wc1 w2 := (bl.next hB); have X_2 := X_1.next hB_2; have cX_2_0 : _ = some (Value.bool s) := X_2.cell 0; have cX_2_1 : _ = some (Value.slice a1 n1 c1) := X_2.cell 1; have cX_2_2 : _ = some (Value.slice b1 m1 d1) := X_2.cell 2; have Y_2 := Y_1.next hB_2; have cY_2_0 : _ = some (Value.bool t) := Y_2.cell 0; have cY_2_1 : _ = some (Value.slice a2 n2 c2) := Y_2.cell 1; have cY_2_2 : _ = some (Value.slice b2 m2 d2) := Y_2.cell 2; have R0_2 := R0_1.next hB_2; have cR0_2_0 : _ = some (Value.bool false) := R0_2.cell 0; have fR0_2_0 := R0_2.free 0; have cR0_2_1 : _ = some (Value.slice none 0 0) := R0_2.cell 1; have fR0_2_1 := R0_2.free 1; have cR0_2_2 : _ = some (Value.slice none 0 0) := R0_2.cell 2; have fR0_2_2 := R0_2.free 2; have S_2 := S_1.next hB_2; have cS_2_0 : _ = some (Value.bool (decide (x1 * (e2 : Int) - x2 * (e1 : Int) < 0))) := S_2.cell 0; have cS_2_1 : _ = some (Value.slice Sa Sn Sc) := S_2.cell 1; have hz1_2 := hz1_1.below hB_2; have hz2_2 := hz2_1.below hB_2; have hd1_2 := hd1_1.below hB_2; have hd2_2 := hd2_1.below hB_2; have OS_2 := OS_1.below hB_2; have HR_2 := HR_1.below hB_2; have hbel_2 := hbel_1.next hB_2; have hsz_2 := hB_2.size; clear X_1 cX_1_0 cX_1_1 cX_1_2 Y_1 cY_1_0 cY_1_1 cY_1_2 R0_1 cR0_1_0 fR0_1_0 cR0_1_1 fR0_1_1 cR0_1_2 fR0_1_2 S_1 cS_1_0 cS_1_1 hz1_1 hz2_1 hd1_1 hd2_1 OS_1 HR_1 hbel_1 hB_2; have U_2 := hO.rdN sd1.out; clear hO; try clear hB)))
        | (go_at_call 34; ((with_reducible refine (HU2.out _ (hd2_2.below bl)).mono ?_); (rintro e w3 ⟨va, vn, vc, rfl, hO, hB⟩; have hB_3 : Below w2.heap.size w2 w3 := (bl.next hB); have X_3 := X_2.next hB_3; have cX_3_0 : _ = some (Value.bool s) := X_3.cell 0; have cX_3_1 : _ = some (Value.slice a1 n1 c1) := X_3.cell 1; have cX_3_2 : _ = some (Value.slice b1 m1 d1) := X_3.cell 2; have Y_3 := Y_2.next hB_3; have cY_3_0 : _ = some (Value.bool t) := Y_3.cell 0; have cY_3_1 : _ = some (Value.slice a2 n2 c2) := Y_3.cell 1; have cY_3_2 : _ = some (Value.slice b2 m2 d2) := Y_3.cell 2; have R0_3 := R0_2.next hB_3; have cR0_3_0 : _ = some (Value.bool false) := R0_3.cell 0; have fR0_3_0 := R0_3.free 0; have cR0_3_1 : _ = some (Value.slice none 0 0) := R0_3.cell 1; have fR0_3_1 := R0_3.free 1; have cR0_3_2 : _ = some (Value.slice none 0 0) := R0_3.cell 2; have fR0_3_2 := R0_3.free 2; have S_3 := S_2.next hB_3; have cS_3_0 : _ = some (Value.bool (decide (x1 * (e2 : Int) - x2 * (e1 : Int) < 0))) := S_3.cell 0; have cS_3_1 : _ = some (Value.slice Sa Sn Sc) := S_3.cell 1; have hz1_3 := hz1_2.below hB_3; have hz2_3 := hz2_2.below hB_3; have hd1_3 := hd1_2.below hB_3; have hd2_3 := hd2_2.below hB_3; have OS_3 := OS_2.below hB_3; have HR_3 := HR_2.below hB_3; have U_3 := U_2.below hB_3; have hbel_3 := hbel_2.next hB_3; have hsz_3 := hB_3.size; clear X_2 cX_2_0 cX_2_1 cX_2_2 Y_2 cY_2_0 cY_2_1 cY_2_2 R0_2 cR0_2_0 fR0_2_0 cR0_2_1 fR0_2_1 cR0_2_2 fR0_2_2 S_2 cS_2_0 cS_2_1 hz1_2 hz2_2 hd1_2 hd2_2 OS_2 HR_2 U_2 hbel_2 hB_3; have V_3 := hO.rdN sd2.out; clear hO; try clear hB)))
        | (go_at_call 36; ((with_reducible refine (nmulR (U_3.below bl) (V_3.below bl) (by omega) (by omega)).mono ?_); (rintro e w4 ⟨pa, pn, pc, rfl, hO, hB⟩; have hB_4 : Below w3.heap.size w3 w4 := (bl.next hB); have X_4 := X_3.next hB_4; have cX_4_0 : _ = some (Value.bool s) := X_4.cell 0; have cX_4_1 : _ = some (Value.slice a1 n1 c1) := X_4.cell 1; have cX_4_2 : _ = some (Value.slice b1 m1 d1) := X_4.cell 2; have Y_4 := Y_3.next hB_4; have cY_4_0 : _ = some (Value.bool t) := Y_4.cell 0; have cY_4_1 : _ = some (Value.slice a2 n2 c2) := Y_4.cell 1; have cY_4_2 : _ = some (Value.slice b2 m2 d2) := Y_4.cell 2; have R0_4 := R0_3.next hB_4; have cR0_4_0 : _ = some (Value.bool false) := R0_4.cell 0; have fR0_4_0 := R0_4.free 0; have cR0_4_1 : _ = some (Value.slice none 0 0) := R0_4.cell 1; have fR0_4_1 := R0_4.free 1; have cR0_4_2 : _ = some (Value.slice none 0 0) := R0_4.cell 2; have fR0_4_2 := R0_4.free 2; have S_4 := S_3.next hB_4; have cS_4_0 : _ = some (Value.bool (decide (x1 * (e2 : Int) - x2 * (e1 : Int) < 0))) := S_4.cell 0; have cS_4_1 : _ = some (Value.slice Sa Sn Sc) := S_4.cell 1; have hz1_4 := hz1_3.below hB_4; have hz2_4 := hz2_3.below hB_4; have hd1_4 := hd1_3.below hB_4; have hd2_4 := hd2_3.below hB_4; have OS_4 := OS_3.below hB_4; have HR_4 := HR_3.below hB_4; have U_4 := U_3.below hB_4; have V_4 := V_3.below hB_4; have hbel_4 := hbel_3.next hB_4; have hsz_4 := hB_4.size; clear X_3 cX_3_0 cX_3_1 cX_3_2 Y_3 cY_3_0 cY_3_1 cY_3_2 R0_3 cR0_3_0 fR0_3_0 cR0_3_1 fR0_3_1 cR0_3_2 fR0_3_2 S_3 cS_3_0 cS_3_1 hz1_3 hz2_3 hd1_3 hd2_3 OS_3 HR_3 U_3 V_3 hbel_3 hB_4; have P_4 := hO.rdN sD.out; clear hO; try clear hB)))
        | (go_at_call 35; ((with_reducible refine (qlow (decide (x1 * (e2 : Int) - x2 * (e1 : Int) < 0)) ((HR_4.below bl).mono (by omega)) ((P_4.below bl).mono (by omega)) hDD.out).mono ?_); (rw [hrz'.out]; rintro e w5 ⟨qa, qn, qc, da, dn, dc, rfl, hO, hO', hD, hB⟩; have hB_5 : Below w4.heap.size w4 w5 := (bl.next hB); have X_5 := X_4.next hB_5; have cX_5_0 : _ = some (Value.bool s) := X_5.cell 0; have cX_5_1 : _ = some (Value.slice a1 n1 c1) := X_5.cell 1; have cX_5_2 : _ = some (Value.slice b1 m1 d1) := X_5.cell 2; have Y_5 := Y_4.next hB_5; have cY_5_0 : _ = some (Value.bool t) := Y_5.cell 0; have cY_5_1 : _ = some (Value.slice a2 n2 c2) := Y_5.cell 1; have cY_5_2 : _ = some (Value.slice b2 m2 d2) := Y_5.cell 2; have R0_5 := R0_4.next hB_5; have cR0_5_0 : _ = some (Value.bool false) := R0_5.cell 0; have fR0_5_0 := R0_5.free 0; have cR0_5_1 : _ = some (Value.slice none 0 0) := R0_5.cell 1; have fR0_5_1 := R0_5.free 1; have cR0_5_2 : _ = some (Value.slice none 0 0) := R0_5.cell 2; have fR0_5_2 := R0_5.free 2; have S_5 := S_4.next hB_5; have cS_5_0 : _ = some (Value.bool (decide (x1 * (e2 : Int) - x2 * (e1 : Int) < 0))) := S_5.cell 0; have cS_5_1 : _ = some (Value.slice Sa Sn Sc) := S_5.cell 1; have hz1_5 := hz1_4.below hB_5; have hz2_5 := hz2_4.below hB_5; have hd1_5 := hd1_4.below hB_5; have hd2_5 := hd2_4.below hB_5; have OS_5 := OS_4.below hB_5; have HR_5 := HR_4.below hB_5; have U_5 := U_4.below hB_5; have V_5 := V_4.below hB_5; have P_5 := P_4.below hB_5; have hbel_5 := hbel_4.next hB_5; have hsz_5 := hB_5.size; clear X_4 cX_4_0 cX_4_1 cX_4_2 Y_4 cY_4_0 cY_4_1 cY_4_2 R0_4 cR0_4_0 fR0_4_0 cR0_4_1 fR0_4_1 cR0_4_2 fR0_4_2 S_4 cS_4_0 cS_4_1 hz1_4 hz2_4 hd1_4 hd2_4 OS_4 HR_4 U_4 V_4 P_4 hbel_4 hB_5; have OQ_5 := hO; have ltOQ := hO.ltB; have OD_5 := hO'; have ltOD := hO'.ltB; clear hO hO'; try clear hB))))
    go_wp2
    refine bodyPost_ret (v := .agg #[.bool (decide ((mkRat (x1 * (e2 : Int) - x2 * (e1 : Int)) (e1 * e2)).num < 0)), .slice qa qn qc, .slice da dn dc]) (by simp [results, Try.results17, go_sem, cR0_5_0, cR0_5_1, cR0_5_2]) rfl ?_
    exact retq_set OQ_5 OD_5 hD hbel_5 (by omega) (by omega)

end Go.Proofs.Ytennilapmcgnbaa
