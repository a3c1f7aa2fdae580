/- WALKS OF DECIMALS, 4: a fraction's sign and parts, by the program and by the document. -/
import Derived.Test.YtbodlkfhmapngaaQt
import Derived.Test.YtbodlkfhmapngaaDd
import Derived.Test.YtbodlkfhmapngaaDe
namespace Go.Proofs.Ytbodlkfhmapngaa
set_option linter.unusedVariables false
set_option linter.unusedSimpArgs false
open Go.ChangeShapes Go.WideShapes Go.ChangeAt Go.RowKit Go.NatP

/-- a sign, and two numbers -/
def RetPr (w : World) (s : Bool) (v d : Nat) (e : Ending) (w' : World) : Prop :=
  ∃ a n c b m d', e = .returned (.tuple #[.bool s, .slice a n c, .slice b m d']) ∧ Own w.heap.size w' a n c (lm v) ∧ Own w.heap.size w' b m d' (lm d) ∧ Below w.heap.size w w'
theorem dnormQ {W : World} {s : Bool} {a b : Option Addr} {n c m d v : Nat} {x : Int} {q : Rat} (hz : RdZ 4194304 W s a n c x) (ho : RdN 4194304 W b m d v) (hv : v ≠ 0) (hq : mkRat x v = q) :
    Calls Try.prog 147 #[.agg #[.bool s, .slice a n c, .slice b m d]] W (RetQK W q) := by
  have h := (qnorm hz ho).mono fun e w' h => retqe_ok h (zE_pos (y := (v : Int)) (by omega))
  rwa [Rat.divInt_ofNat, hq] at h

set_option maxRecDepth 100000 in
set_option maxHeartbeats 4000000 in
theorem dparts1 {w : World} {a1 b1 : Option Addr} {n1 c1 m1 d1 u1 v1 : Nat} {s : Bool} {J : Nat} (h1 : RdN J w a1 n1 c1 u1) (hd1 : RdN J w b1 m1 d1 v1) (hJ : J ≤ 1000000) (hv : v1 = 0) :
    Calls Try.prog 98 #[.agg #[.bool s, .slice a1 n1 c1, .slice b1 m1 d1]] w (RetPr w (decide ((qv s u1 v1).num < 0)) (qv s u1 v1).num.natAbs (qv s u1 v1).den) := by
  have hq := (show mkRat (zv s u1) 1 = qv s u1 v1 by unfold qv; rw [hv]; rfl)
  have HZ := hid (fun W (h : Below w.heap.size w W) => ((h1.toZ (s := s)).below h).mono (show J ≤ 4194304 by omega))
  have HD := hid (fun W (h : Below w.heap.size w W) => (hd1.below h).mono (show J ≤ 4194304 by omega))
  generalize qv s u1 v1 = q at *
  have HN := hid (fun W a n c b m d v (hz : RdZ 4194304 W s a n c (zv s u1)) (ho : RdN 4194304 W b m d v) (hv : v ≠ 0) (hq : mkRat (zv s u1) v = q) => dnormQ hz ho hv hq)
  have hvh := hid hv
  have hqh := hid hq
  clear hv hq h1
  have hent := ent1 w #[Value.bool s, Value.slice a1 n1 c1, Value.slice b1 m1 d1] 29
  go_enter Try.func98, Try.ntmps98
  go_wp2_with fail
  generalize (w.alloc (.cells #[Value.bool s, Value.slice a1 n1 c1, Value.slice b1 m1 d1] 29)) = W0 at hent ⊢
  obtain ⟨X_0, hbel_0, hsz_0⟩ := hent
  have cX_0_0 : _ = some (Value.bool s) := X_0.cell 0
  have fX_0_0 := X_0.free 0
  have cX_0_1 : _ = some (Value.slice a1 n1 c1) := X_0.cell 1
  have fX_0_1 := X_0.free 1
  have cX_0_2 : _ = some (Value.slice b1 m1 d1) := X_0.cell 2
  have fX_0_2 := X_0.free 2
  have hd1_0 := hd1.below hbel_0
  clear hd1
  go_wp2_with fail
  refine (nnormR hd1_0 (by omega)).mono ?_
  rintro e w1 ⟨ra, rn, rc, rfl, hO, hB⟩
  have hB_1 : Below W0.heap.size W0 w1 := (bl.next hB)
  have X_1 := X_0.next hB_1
  have cX_1_0 : _ = some (Value.bool s) := X_1.cell 0
  have fX_1_0 := X_1.free 0
  have cX_1_1 : _ = some (Value.slice a1 n1 c1) := X_1.cell 1
  have fX_1_1 := X_1.free 1
  have cX_1_2 : _ = some (Value.slice b1 m1 d1) := X_1.cell 2
  have fX_1_2 := X_1.free 2
  have hd1_1 := hd1_0.below hB_1
  have hbel_1 := hbel_0.next hB_1
  have hsz_1 := hB_1.size
  clear X_0 cX_0_0 fX_0_0 cX_0_1 fX_0_1 cX_0_2 fX_0_2 hd1_0 hbel_0 hB_1
  have hrn : rn = 0 := by have := hO.len; have := lm_len_pos (v := v1); have := hvh.out; omega
  subst hrn
  clear hO
  try clear hB
  clear hd1_1
  go_wp2_with fail
  refine (of_any 1 (by omega) (by omega)).mono ?_
  rintro e w2 ⟨oa, on, oc, rfl, hO, hB⟩
  have hB_2 : Below w1.heap.size w1 w2 := (bl.next hB)
  have X_2 := X_1.next hB_2
  have cX_2_0 : _ = some (Value.bool s) := X_2.cell 0
  have fX_2_0 := X_2.free 0
  have cX_2_1 : _ = some (Value.slice a1 n1 c1) := X_2.cell 1
  have fX_2_1 := X_2.free 1
  have cX_2_2 : _ = some (Value.slice b1 m1 d1) := X_2.cell 2
  have fX_2_2 := X_2.free 2
  have hbel_2 := hbel_1.next hB_2
  have hsz_2 := hB_2.size
  clear X_1 cX_1_0 fX_1_0 cX_1_1 fX_1_1 cX_1_2 fX_1_2 hbel_1 hB_2
  have O_2 := hO
  have ltO := hO.ltB
  try clear hB
  have hkp := ((Kp.refl (fun j => j = w.heap.size) w2).setCell (ad := ⟨w.heap.size, 2, none⟩) rfl (Value.slice oa on oc))
  have X_3 := (show Blk _ _ #[Value.bool s, Value.slice a1 n1 c1, Value.slice oa on oc] from (X_2).setCell (i := 2) (v := Value.slice oa on oc) (by simp))
  have O_3 := O_2.kp hkp (fun g hg hj => by subst hg; have := O_2.lt.1; have hj2 : g = w.heap.size := hj; omega)
  have hbel_3 := hbel_2.kp hkp hbel_2.size (fun j hj => by show ¬ (j = w.heap.size); omega)
  have hsz_3 := hkp.size
  have cX_3_0 : _ = some (Value.bool s) := X_3.cell 0
  have fX_3_0 := X_3.free 0
  have cX_3_1 : _ = some (Value.slice a1 n1 c1) := X_3.cell 1
  have fX_3_1 := X_3.free 1
  have cX_3_2 : _ = some (Value.slice oa on oc) := X_3.cell 2
  have fX_3_2 := X_3.free 2
  go_wp2_with fail
  clear X_2 cX_2_0 fX_2_0 cX_2_1 fX_2_1 cX_2_2 fX_2_2 O_2 hbel_2 hkp
  generalize (w2.setCell ⟨w.heap.size, 2, none⟩ (Value.slice oa on oc)) = v3 at *
  have D_3 := ((O_3.rdN (v := 1) (k := 1) (sz_one (Nat.le_refl _))).mono (show 1 ≤ 4194304 by omega))
  have Z_3 := HZ.out _ hbel_3
  clear O_3
  clear HZ HD
  go_wp2_with fail
  refine (HN.out _ _ _ _ _ _ _ _ Z_3 D_3 (by omega) hqh.out).mono ?_
  rintro e w4 ⟨qa, qn, qc, da, dn, dc, rfl, hO, hO', hD, hB⟩
  have hB_4 : Below v3.heap.size v3 w4 := (bl.next hB)
  have X_4 := X_3.next hB_4
  have cX_4_0 : _ = some (Value.bool s) := X_4.cell 0
  have fX_4_0 := X_4.free 0
  have cX_4_1 : _ = some (Value.slice a1 n1 c1) := X_4.cell 1
  have fX_4_1 := X_4.free 1
  have cX_4_2 : _ = some (Value.slice oa on oc) := X_4.cell 2
  have fX_4_2 := X_4.free 2
  have D_4 := D_3.below hB_4
  have Z_4 := Z_3.below hB_4
  have hbel_4 := hbel_3.next hB_4
  have hsz_4 := hB_4.size
  clear X_3 cX_3_0 fX_3_0 cX_3_1 fX_3_1 cX_3_2 fX_3_2 D_3 Z_3 hbel_3 hB_4
  have OQ_4 := hO
  have ltOQ := hO.ltB
  have OD_4 := hO'
  have ltOD := hO'.ltB
  clear hO hO'
  try clear hB
  clear Z_4 D_4
  have X_5 := (show Blk _ _ #[Value.bool (decide (q.num < 0)), Value.slice qa qn qc, Value.slice da dn dc] from ((X_4.setCell (i := 0) (v := Value.bool (decide (q.num < 0))) (by simp)).setCell (i := 1) (v := Value.slice qa qn qc) (by simp)).setCell (i := 2) (v := Value.slice da dn dc) (by simp))
  have OQ_5 := OQ_4.set3 (show w.heap.size < _ by omega) (Value.bool (decide (q.num < 0))) (Value.slice qa qn qc) (Value.slice da dn dc)
  have OD_5 := OD_4.set3 (show w.heap.size < _ by omega) (Value.bool (decide (q.num < 0))) (Value.slice qa qn qc) (Value.slice da dn dc)
  have hbel_5 := Below.set3 hbel_4 (show w.heap.size ≤ w.heap.size by omega) (Value.bool (decide (q.num < 0))) (Value.slice qa qn qc) (Value.slice da dn dc)
  have hsz_5 : w4.heap.size ≤ (((w4.setCell ⟨w.heap.size, 0, none⟩ (Value.bool (decide (q.num < 0)))).setCell ⟨w.heap.size, 1, none⟩ (Value.slice qa qn qc)).setCell ⟨w.heap.size, 2, none⟩ (Value.slice da dn dc)).heap.size := by simp [World.setCell]
  have cX_5_0 : _ = some (Value.bool (decide (q.num < 0))) := X_5.cell 0
  have fX_5_0 := X_5.free 0
  have cX_5_1 : _ = some (Value.slice qa qn qc) := X_5.cell 1
  have fX_5_1 := X_5.free 1
  have cX_5_2 : _ = some (Value.slice da dn dc) := X_5.cell 2
  have fX_5_2 := X_5.free 2
  go_wp2_with fail
  clear X_4 cX_4_0 fX_4_0 cX_4_1 fX_4_1 cX_4_2 fX_4_2 OQ_4 OD_4 hbel_4
  generalize (((w4.setCell ⟨w.heap.size, 0, none⟩ (Value.bool (decide (q.num < 0)))).setCell ⟨w.heap.size, 1, none⟩ (Value.slice qa qn qc)).setCell ⟨w.heap.size, 2, none⟩ (Value.slice da dn dc)) = v5 at *
  go_wp2_with fail
  go_quiet (fail)
  go_wp2
  go_ret3
  exact ⟨qa, qn, qc, da, dn, dc, rfl, (OQ_5.mono (by omega)).drewN _, (OD_5.mono (by omega)).drewN _, hbel_5.drewN' _⟩

set_option maxRecDepth 100000 in
set_option maxHeartbeats 4000000 in
theorem dparts0 {w : World} {a1 b1 : Option Addr} {n1 c1 m1 d1 u1 v1 : Nat} {s : Bool} {J : Nat} (h1 : RdN J w a1 n1 c1 u1) (hd1 : RdN J w b1 m1 d1 v1) (hJ : J ≤ 1000000) (hv : v1 ≠ 0) :
    Calls Try.prog 98 #[.agg #[.bool s, .slice a1 n1 c1, .slice b1 m1 d1]] w (RetPr w (decide ((qv s u1 v1).num < 0)) (qv s u1 v1).num.natAbs (qv s u1 v1).den) := by
  have hq := (show mkRat (zv s u1) v1 = qv s u1 v1 by unfold qv; rw [und_of hv])
  have HZ := hid (fun W (h : Below w.heap.size w W) => ((h1.toZ (s := s)).below h).mono (show J ≤ 4194304 by omega))
  have HD := hid (fun W (h : Below w.heap.size w W) => (hd1.below h).mono (show J ≤ 4194304 by omega))
  generalize qv s u1 v1 = q at *
  have HN := hid (fun W a n c b m d v (hz : RdZ 4194304 W s a n c (zv s u1)) (ho : RdN 4194304 W b m d v) (hv : v ≠ 0) (hq : mkRat (zv s u1) v = q) => dnormQ hz ho hv hq)
  have hvh := hid hv
  have hqh := hid hq
  clear hv hq h1
  have hent := ent1 w #[Value.bool s, Value.slice a1 n1 c1, Value.slice b1 m1 d1] 29
  go_enter Try.func98, Try.ntmps98
  go_wp2_with fail
  generalize (w.alloc (.cells #[Value.bool s, Value.slice a1 n1 c1, Value.slice b1 m1 d1] 29)) = W0 at hent ⊢
  obtain ⟨X_0, hbel_0, hsz_0⟩ := hent
  have cX_0_0 : _ = some (Value.bool s) := X_0.cell 0
  have fX_0_0 := X_0.free 0
  have cX_0_1 : _ = some (Value.slice a1 n1 c1) := X_0.cell 1
  have fX_0_1 := X_0.free 1
  have cX_0_2 : _ = some (Value.slice b1 m1 d1) := X_0.cell 2
  have fX_0_2 := X_0.free 2
  have hd1_0 := hd1.below hbel_0
  clear hd1
  go_wp2_with fail
  refine (nnormR hd1_0 (by omega)).mono ?_
  rintro e w1 ⟨ra, rn, rc, rfl, hO, hB⟩
  have hB_1 : Below W0.heap.size W0 w1 := (bl.next hB)
  have X_1 := X_0.next hB_1
  have cX_1_0 : _ = some (Value.bool s) := X_1.cell 0
  have fX_1_0 := X_1.free 0
  have cX_1_1 : _ = some (Value.slice a1 n1 c1) := X_1.cell 1
  have fX_1_1 := X_1.free 1
  have cX_1_2 : _ = some (Value.slice b1 m1 d1) := X_1.cell 2
  have fX_1_2 := X_1.free 2
  have hd1_1 := hd1_0.below hB_1
  have hbel_1 := hbel_0.next hB_1
  have hsz_1 := hB_1.size
  clear X_0 cX_0_0 fX_0_0 cX_0_1 fX_0_1 cX_0_2 fX_0_2 hd1_0 hbel_0 hB_1
  have hrn : 0 < rn := by have := hO.len; have := lm_len_pos (v := v1); have := hvh.out; omega
  have hbq : ((rn : Int) == 0) = false := by simp; omega
  clear hO
  try clear hB
  clear hd1_1
  have Z_1 := HZ.out _ hbel_1
  have D_1 := HD.out _ hbel_1
  clear HZ HD
  go_wp2_with fail
  refine (HN.out _ _ _ _ _ _ _ _ Z_1 D_1 hvh.out hqh.out).mono ?_
  rintro e w2 ⟨qa, qn, qc, da, dn, dc, rfl, hO, hO', hD, hB⟩
  have hB_2 : Below w1.heap.size w1 w2 := (bl.next hB)
  have X_2 := X_1.next hB_2
  have cX_2_0 : _ = some (Value.bool s) := X_2.cell 0
  have fX_2_0 := X_2.free 0
  have cX_2_1 : _ = some (Value.slice a1 n1 c1) := X_2.cell 1
  have fX_2_1 := X_2.free 1
  have cX_2_2 : _ = some (Value.slice b1 m1 d1) := X_2.cell 2
  have fX_2_2 := X_2.free 2
  have Z_2 := Z_1.below hB_2
  have D_2 := D_1.below hB_2
  have hbel_2 := hbel_1.next hB_2
  have hsz_2 := hB_2.size
  clear X_1 cX_1_0 fX_1_0 cX_1_1 fX_1_1 cX_1_2 fX_1_2 Z_1 D_1 hbel_1 hB_2
  have OQ_2 := hO
  have ltOQ := hO.ltB
  have OD_2 := hO'
  have ltOD := hO'.ltB
  clear hO hO'
  try clear hB
  clear Z_2 D_2
  have X_3 := (show Blk _ _ #[Value.bool (decide (q.num < 0)), Value.slice qa qn qc, Value.slice da dn dc] from ((X_2.setCell (i := 0) (v := Value.bool (decide (q.num < 0))) (by simp)).setCell (i := 1) (v := Value.slice qa qn qc) (by simp)).setCell (i := 2) (v := Value.slice da dn dc) (by simp))
  have OQ_3 := OQ_2.set3 (show w.heap.size < _ by omega) (Value.bool (decide (q.num < 0))) (Value.slice qa qn qc) (Value.slice da dn dc)
  have OD_3 := OD_2.set3 (show w.heap.size < _ by omega) (Value.bool (decide (q.num < 0))) (Value.slice qa qn qc) (Value.slice da dn dc)
  have hbel_3 := Below.set3 hbel_2 (show w.heap.size ≤ w.heap.size by omega) (Value.bool (decide (q.num < 0))) (Value.slice qa qn qc) (Value.slice da dn dc)
  have hsz_3 : w2.heap.size ≤ (((w2.setCell ⟨w.heap.size, 0, none⟩ (Value.bool (decide (q.num < 0)))).setCell ⟨w.heap.size, 1, none⟩ (Value.slice qa qn qc)).setCell ⟨w.heap.size, 2, none⟩ (Value.slice da dn dc)).heap.size := by simp [World.setCell]
  have cX_3_0 : _ = some (Value.bool (decide (q.num < 0))) := X_3.cell 0
  have fX_3_0 := X_3.free 0
  have cX_3_1 : _ = some (Value.slice qa qn qc) := X_3.cell 1
  have fX_3_1 := X_3.free 1
  have cX_3_2 : _ = some (Value.slice da dn dc) := X_3.cell 2
  have fX_3_2 := X_3.free 2
  go_wp2_with fail
  clear X_2 cX_2_0 fX_2_0 cX_2_1 fX_2_1 cX_2_2 fX_2_2 OQ_2 OD_2 hbel_2
  generalize (((w2.setCell ⟨w.heap.size, 0, none⟩ (Value.bool (decide (q.num < 0)))).setCell ⟨w.heap.size, 1, none⟩ (Value.slice qa qn qc)).setCell ⟨w.heap.size, 2, none⟩ (Value.slice da dn dc)) = v3 at *
  go_wp2_with fail
  go_quiet (fail)
  go_wp2
  go_ret3
  exact ⟨qa, qn, qc, da, dn, dc, rfl, (OQ_3.mono (by omega)).drewN _, (OD_3.mono (by omega)).drewN _, hbel_3.drewN' _⟩

theorem dparts {w : World} {a1 b1 : Option Addr} {n1 c1 m1 d1 : Nat} {s : Bool} {x : Rat} {J : Nat} (hx : RdQ J w s a1 n1 c1 b1 m1 d1 x) (hJ : J ≤ 1000000) : Calls Try.prog 98 #[.agg #[.bool s, .slice a1 n1 c1, .slice b1 m1 d1]] w (RetPr w (decide (x.num < 0)) x.num.natAbs x.den) := by
  obtain ⟨u1, v1, h1, hd1, rfl⟩ := hx
  by_cases h : v1 = 0
  · exact dparts1 h1 hd1 hJ h
  · exact dparts0 h1 hd1 hJ h

theorem div_gcd_zero {u v : Nat} : u / Nat.gcd u v = 0 ↔ u = 0 := by
  constructor
  · intro e
    have := Nat.div_mul_cancel (Nat.gcd_dvd_left u v)
    rw [e, Nat.zero_mul] at this
    exact this.symm
  · intro e; rw [e, Nat.zero_div]

set_option maxRecDepth 100000 in
set_option maxHeartbeats 4000000 in
theorem rlowp {w : World} {a b : Option Addr} {n c m d u v : Nat} (ha : RdN 4194304 w a n c u) (hb : RdN 4194304 w b m d v) (hv : v ≠ 0) :
    Calls Try.prog 114 #[.bool false, .slice a n c, .slice b m d] w (RetQ w (mkRat (zv false u) v)) := by
  have hsu := hid ha.sz
  have hsv := hid hb.sz
  have hg : Nat.gcd u v ≠ 0 := by have := Nat.gcd_pos_of_pos_right u (show 0 < v by omega); omega
  have hsg : Hid (Sz (Nat.gcd u v) 4194304) := hsv.out.mono (Nat.gcd_le_right _ (by omega)) (Nat.le_refl _)
  have hnum := hid (num_low false u hv)
  have hden := hid (den_low false u hv)
  have hbz := hid (show decide (zv false (u / Nat.gcd u v) < 0) = false by rw [zv_neg]; rfl)
  have hll := hid (show (lm (u / Nat.gcd u v)).length = 0 ↔ u = 0 by rw [List.length_eq_zero_iff, lm_eq_nil, div_gcd_zero])
  have hgh := hid hg
  have huh := hid (show u = u from rfl)
  clear hg hv
  have hent := ent1 w #[Value.bool false, Value.slice none 0 0, Value.slice none 0 0] 29
  go_enter Try.func114, Try.ntmps114
  go_wp2_with fail
  generalize (w.alloc (.cells #[Value.bool false, Value.slice none 0 0, Value.slice none 0 0] 29)) = W0 at hent ⊢
  obtain ⟨R0_0, hbel_0, hsz_0⟩ := hent
  have cR0_0_0 : _ = some (Value.bool false) := R0_0.cell 0
  have fR0_0_0 := R0_0.free 0
  have cR0_0_1 : _ = some (Value.slice none 0 0) := R0_0.cell 1
  have fR0_0_1 := R0_0.free 1
  have cR0_0_2 : _ = some (Value.slice none 0 0) := R0_0.cell 2
  have fR0_0_2 := R0_0.free 2
  have ha_0 := ha.below hbel_0
  clear ha
  have hb_0 := hb.below hbel_0
  clear hb
  go_wp2_with fail
  refine (rgcdR ha_0 hb_0 (by omega) (by omega)).mono ?_
  rintro e w1 ⟨ga, gn, gc, rfl, hO, hB⟩
  have hB_1 : Below W0.heap.size W0 w1 := (bl.next hB)
  have R0_1 := R0_0.next hB_1
  have cR0_1_0 : _ = some (Value.bool false) := R0_1.cell 0
  have fR0_1_0 := R0_1.free 0
  have cR0_1_1 : _ = some (Value.slice none 0 0) := R0_1.cell 1
  have fR0_1_1 := R0_1.free 1
  have cR0_1_2 : _ = some (Value.slice none 0 0) := R0_1.cell 2
  have fR0_1_2 := R0_1.free 2
  have ha_1 := ha_0.below hB_1
  have hb_1 := hb_0.below hB_1
  have hbel_1 := hbel_0.next hB_1
  have hsz_1 := hB_1.size
  clear R0_0 cR0_0_0 fR0_0_0 cR0_0_1 fR0_0_1 cR0_0_2 fR0_0_2 ha_0 hb_0 hbel_0 hB_1
  have G_1 := hO.rdN hsg.out
  clear hO
  try clear hB
  go_wp2_with fail
  refine (rdivR ha_1 G_1 (by omega) (by omega) hgh.out).mono ?_
  rintro e w2 ⟨na, nn, nc, xa, xn, xc, rfl, hO, hO', hD, hB⟩
  have hB_2 : Below w1.heap.size w1 w2 := (bl.next hB)
  have R0_2 := R0_1.next hB_2
  have cR0_2_0 : _ = some (Value.bool false) := R0_2.cell 0
  have fR0_2_0 := R0_2.free 0
  have cR0_2_1 : _ = some (Value.slice none 0 0) := R0_2.cell 1
  have fR0_2_1 := R0_2.free 1
  have cR0_2_2 : _ = some (Value.slice none 0 0) := R0_2.cell 2
  have fR0_2_2 := R0_2.free 2
  have ha_2 := ha_1.below hB_2
  have hb_2 := hb_1.below hB_2
  have G_2 := G_1.below hB_2
  have hbel_2 := hbel_1.next hB_2
  have hsz_2 := hB_2.size
  clear R0_1 cR0_1_0 fR0_1_0 cR0_1_1 fR0_1_1 cR0_1_2 fR0_1_2 ha_1 hb_1 G_1 hbel_1 hB_2
  have hnl := hid hO.len
  have ON_2 := hO
  have ltON := hO.ltB
  clear hO hO' hD
  try clear hB
  go_wp2_with fail
  refine (rdivR hb_2 G_2 (by omega) (by omega) hgh.out).mono ?_
  rintro e w3 ⟨da, dn, dc, ya, yn, yc, rfl, hO, hO', hD, hB⟩
  have hB_3 : Below w2.heap.size w2 w3 := (bl.next hB)
  have R0_3 := R0_2.next hB_3
  have cR0_3_0 : _ = some (Value.bool false) := R0_3.cell 0
  have fR0_3_0 := R0_3.free 0
  have cR0_3_1 : _ = some (Value.slice none 0 0) := R0_3.cell 1
  have fR0_3_1 := R0_3.free 1
  have cR0_3_2 : _ = some (Value.slice none 0 0) := R0_3.cell 2
  have fR0_3_2 := R0_3.free 2
  have ha_3 := ha_2.below hB_3
  have hb_3 := hb_2.below hB_3
  have G_3 := G_2.below hB_3
  have ON_3 := ON_2.below hB_3
  have hbel_3 := hbel_2.next hB_3
  have hsz_3 := hB_3.size
  clear R0_2 cR0_2_0 fR0_2_0 cR0_2_1 fR0_2_1 cR0_2_2 fR0_2_2 ha_2 hb_2 G_2 ON_2 hbel_2 hB_3
  have hd := ltON.diff hO (Nat.le_refl _)
  have OD_3 := hO
  have ltOD := hO.ltB
  clear hO hO' hD
  try clear hB
  go_wp2
  refine bodyPost_ret (v := .agg #[.bool false, .slice na nn nc, .slice da dn dc]) (by simp [results, Try.results114, go_sem, cR0_3_0, cR0_3_1, cR0_3_2]) rfl ?_
  exact (by
    have h := fun v0 v1 v2 => retq_set' (v0 := v0) (v1 := v1) (v2 := v2) (g := w.heap.size) hnum.out hden.out (show Own _ _ na nn nc _ by rw [zv_abs]; exact ON_3) OD_3 hd.symm hbel_3 (by omega) (by omega) (by omega)
    rw [hbz.out] at h
    exact h _ _ _)

set_option maxRecDepth 100000 in
set_option maxHeartbeats 4000000 in
theorem rlowz {w : World} {a b : Option Addr} {n c m d u v : Nat} (ha : RdN 4194304 w a n c u) (hb : RdN 4194304 w b m d v) (hv : v ≠ 0) (hu : u = 0) :
    Calls Try.prog 114 #[.bool true, .slice a n c, .slice b m d] w (RetQ w (mkRat (zv true u) v)) := by
  have hsu := hid ha.sz
  have hsv := hid hb.sz
  have hg : Nat.gcd u v ≠ 0 := by have := Nat.gcd_pos_of_pos_right u (show 0 < v by omega); omega
  have hsg : Hid (Sz (Nat.gcd u v) 4194304) := hsv.out.mono (Nat.gcd_le_right _ (by omega)) (Nat.le_refl _)
  have hnum := hid (num_low true u hv)
  have hden := hid (den_low true u hv)
  have hbz := hid (show decide (zv true (u / Nat.gcd u v) < 0) = false by rw [zv_neg]; rw [div_gcd_zero.2 hu]; rfl)
  have hll := hid (show (lm (u / Nat.gcd u v)).length = 0 ↔ u = 0 by rw [List.length_eq_zero_iff, lm_eq_nil, div_gcd_zero])
  have hgh := hid hg
  have huh := hid (show u = u from rfl)
  have hun := hid hu
  clear hg hv hu
  have hent := ent1 w #[Value.bool false, Value.slice none 0 0, Value.slice none 0 0] 29
  go_enter Try.func114, Try.ntmps114
  go_wp2_with fail
  generalize (w.alloc (.cells #[Value.bool false, Value.slice none 0 0, Value.slice none 0 0] 29)) = W0 at hent ⊢
  obtain ⟨R0_0, hbel_0, hsz_0⟩ := hent
  have cR0_0_0 : _ = some (Value.bool false) := R0_0.cell 0
  have fR0_0_0 := R0_0.free 0
  have cR0_0_1 : _ = some (Value.slice none 0 0) := R0_0.cell 1
  have fR0_0_1 := R0_0.free 1
  have cR0_0_2 : _ = some (Value.slice none 0 0) := R0_0.cell 2
  have fR0_0_2 := R0_0.free 2
  have ha_0 := ha.below hbel_0
  clear ha
  have hb_0 := hb.below hbel_0
  clear hb
  go_wp2_with fail
  refine (rgcdR ha_0 hb_0 (by omega) (by omega)).mono ?_
  rintro e w1 ⟨ga, gn, gc, rfl, hO, hB⟩
  have hB_1 : Below W0.heap.size W0 w1 := (bl.next hB)
  have R0_1 := R0_0.next hB_1
  have cR0_1_0 : _ = some (Value.bool false) := R0_1.cell 0
  have fR0_1_0 := R0_1.free 0
  have cR0_1_1 : _ = some (Value.slice none 0 0) := R0_1.cell 1
  have fR0_1_1 := R0_1.free 1
  have cR0_1_2 : _ = some (Value.slice none 0 0) := R0_1.cell 2
  have fR0_1_2 := R0_1.free 2
  have ha_1 := ha_0.below hB_1
  have hb_1 := hb_0.below hB_1
  have hbel_1 := hbel_0.next hB_1
  have hsz_1 := hB_1.size
  clear R0_0 cR0_0_0 fR0_0_0 cR0_0_1 fR0_0_1 cR0_0_2 fR0_0_2 ha_0 hb_0 hbel_0 hB_1
  have G_1 := hO.rdN hsg.out
  clear hO
  try clear hB
  go_wp2_with fail
  refine (rdivR ha_1 G_1 (by omega) (by omega) hgh.out).mono ?_
  rintro e w2 ⟨na, nn, nc, xa, xn, xc, rfl, hO, hO', hD, hB⟩
  have hB_2 : Below w1.heap.size w1 w2 := (bl.next hB)
  have R0_2 := R0_1.next hB_2
  have cR0_2_0 : _ = some (Value.bool false) := R0_2.cell 0
  have fR0_2_0 := R0_2.free 0
  have cR0_2_1 : _ = some (Value.slice none 0 0) := R0_2.cell 1
  have fR0_2_1 := R0_2.free 1
  have cR0_2_2 : _ = some (Value.slice none 0 0) := R0_2.cell 2
  have fR0_2_2 := R0_2.free 2
  have ha_2 := ha_1.below hB_2
  have hb_2 := hb_1.below hB_2
  have G_2 := G_1.below hB_2
  have hbel_2 := hbel_1.next hB_2
  have hsz_2 := hB_2.size
  clear R0_1 cR0_1_0 fR0_1_0 cR0_1_1 fR0_1_1 cR0_1_2 fR0_1_2 ha_1 hb_1 G_1 hbel_1 hB_2
  have hnl := hid hO.len
  have ON_2 := hO
  have ltON := hO.ltB
  clear hO hO' hD
  try clear hB
  go_wp2_with fail
  refine (rdivR hb_2 G_2 (by omega) (by omega) hgh.out).mono ?_
  rintro e w3 ⟨da, dn, dc, ya, yn, yc, rfl, hO, hO', hD, hB⟩
  have hB_3 : Below w2.heap.size w2 w3 := (bl.next hB)
  have R0_3 := R0_2.next hB_3
  have cR0_3_0 : _ = some (Value.bool false) := R0_3.cell 0
  have fR0_3_0 := R0_3.free 0
  have cR0_3_1 : _ = some (Value.slice none 0 0) := R0_3.cell 1
  have fR0_3_1 := R0_3.free 1
  have cR0_3_2 : _ = some (Value.slice none 0 0) := R0_3.cell 2
  have fR0_3_2 := R0_3.free 2
  have ha_3 := ha_2.below hB_3
  have hb_3 := hb_2.below hB_3
  have G_3 := G_2.below hB_3
  have ON_3 := ON_2.below hB_3
  have hbel_3 := hbel_2.next hB_3
  have hsz_3 := hB_3.size
  clear R0_2 cR0_2_0 fR0_2_0 cR0_2_1 fR0_2_1 cR0_2_2 fR0_2_2 ha_2 hb_2 G_2 ON_2 hbel_2 hB_3
  have hd := ltON.diff hO (Nat.le_refl _)
  have OD_3 := hO
  have ltOD := hO.ltB
  clear hO hO' hD
  try clear hB
  have hn0 : nn = 0 := by rw [← hnl.out]; exact hll.out.2 hun.out
  subst hn0
  go_wp2
  refine bodyPost_ret (v := .agg #[.bool false, .slice na 0 nc, .slice da dn dc]) (by simp [results, Try.results114, go_sem, cR0_3_0, cR0_3_1, cR0_3_2]) rfl ?_
  exact (by
    have h := fun v0 v1 v2 => retq_set' (v0 := v0) (v1 := v1) (v2 := v2) (g := w.heap.size) hnum.out hden.out (show Own _ _ na 0 nc _ by rw [zv_abs]; exact ON_3) OD_3 hd.symm hbel_3 (by omega) (by omega) (by omega)
    rw [hbz.out] at h
    exact h _ _ _)

set_option maxRecDepth 100000 in
set_option maxHeartbeats 4000000 in
theorem rlown {w : World} {a b : Option Addr} {n c m d u v : Nat} (ha : RdN 4194304 w a n c u) (hb : RdN 4194304 w b m d v) (hv : v ≠ 0) (hu : u ≠ 0) :
    Calls Try.prog 114 #[.bool true, .slice a n c, .slice b m d] w (RetQ w (mkRat (zv true u) v)) := by
  have hsu := hid ha.sz
  have hsv := hid hb.sz
  have hg : Nat.gcd u v ≠ 0 := by have := Nat.gcd_pos_of_pos_right u (show 0 < v by omega); omega
  have hsg : Hid (Sz (Nat.gcd u v) 4194304) := hsv.out.mono (Nat.gcd_le_right _ (by omega)) (Nat.le_refl _)
  have hnum := hid (num_low true u hv)
  have hden := hid (den_low true u hv)
  have hbz := hid (show decide (zv true (u / Nat.gcd u v) < 0) = true by rw [zv_neg]; rw [decide_eq_true (Nat.pos_of_ne_zero fun e => hu (div_gcd_zero.1 e))]; rfl)
  have hll := hid (show (lm (u / Nat.gcd u v)).length = 0 ↔ u = 0 by rw [List.length_eq_zero_iff, lm_eq_nil, div_gcd_zero])
  have hgh := hid hg
  have huh := hid (show u = u from rfl)
  have hun := hid hu
  clear hg hv hu
  have hent := ent1 w #[Value.bool false, Value.slice none 0 0, Value.slice none 0 0] 29
  go_enter Try.func114, Try.ntmps114
  go_wp2_with fail
  generalize (w.alloc (.cells #[Value.bool false, Value.slice none 0 0, Value.slice none 0 0] 29)) = W0 at hent ⊢
  obtain ⟨R0_0, hbel_0, hsz_0⟩ := hent
  have cR0_0_0 : _ = some (Value.bool false) := R0_0.cell 0
  have fR0_0_0 := R0_0.free 0
  have cR0_0_1 : _ = some (Value.slice none 0 0) := R0_0.cell 1
  have fR0_0_1 := R0_0.free 1
  have cR0_0_2 : _ = some (Value.slice none 0 0) := R0_0.cell 2
  have fR0_0_2 := R0_0.free 2
  have ha_0 := ha.below hbel_0
  clear ha
  have hb_0 := hb.below hbel_0
  clear hb
  go_wp2_with fail
  refine (rgcdR ha_0 hb_0 (by omega) (by omega)).mono ?_
  rintro e w1 ⟨ga, gn, gc, rfl, hO, hB⟩
  have hB_1 : Below W0.heap.size W0 w1 := (bl.next hB)
  have R0_1 := R0_0.next hB_1
  have cR0_1_0 : _ = some (Value.bool false) := R0_1.cell 0
  have fR0_1_0 := R0_1.free 0
  have cR0_1_1 : _ = some (Value.slice none 0 0) := R0_1.cell 1
  have fR0_1_1 := R0_1.free 1
  have cR0_1_2 : _ = some (Value.slice none 0 0) := R0_1.cell 2
  have fR0_1_2 := R0_1.free 2
  have ha_1 := ha_0.below hB_1
  have hb_1 := hb_0.below hB_1
  have hbel_1 := hbel_0.next hB_1
  have hsz_1 := hB_1.size
  clear R0_0 cR0_0_0 fR0_0_0 cR0_0_1 fR0_0_1 cR0_0_2 fR0_0_2 ha_0 hb_0 hbel_0 hB_1
  have G_1 := hO.rdN hsg.out
  clear hO
  try clear hB
  go_wp2_with fail
  refine (rdivR ha_1 G_1 (by omega) (by omega) hgh.out).mono ?_
  rintro e w2 ⟨na, nn, nc, xa, xn, xc, rfl, hO, hO', hD, hB⟩
  have hB_2 : Below w1.heap.size w1 w2 := (bl.next hB)
  have R0_2 := R0_1.next hB_2
  have cR0_2_0 : _ = some (Value.bool false) := R0_2.cell 0
  have fR0_2_0 := R0_2.free 0
  have cR0_2_1 : _ = some (Value.slice none 0 0) := R0_2.cell 1
  have fR0_2_1 := R0_2.free 1
  have cR0_2_2 : _ = some (Value.slice none 0 0) := R0_2.cell 2
  have fR0_2_2 := R0_2.free 2
  have ha_2 := ha_1.below hB_2
  have hb_2 := hb_1.below hB_2
  have G_2 := G_1.below hB_2
  have hbel_2 := hbel_1.next hB_2
  have hsz_2 := hB_2.size
  clear R0_1 cR0_1_0 fR0_1_0 cR0_1_1 fR0_1_1 cR0_1_2 fR0_1_2 ha_1 hb_1 G_1 hbel_1 hB_2
  have hnl := hid hO.len
  have ON_2 := hO
  have ltON := hO.ltB
  clear hO hO' hD
  try clear hB
  go_wp2_with fail
  refine (rdivR hb_2 G_2 (by omega) (by omega) hgh.out).mono ?_
  rintro e w3 ⟨da, dn, dc, ya, yn, yc, rfl, hO, hO', hD, hB⟩
  have hB_3 : Below w2.heap.size w2 w3 := (bl.next hB)
  have R0_3 := R0_2.next hB_3
  have cR0_3_0 : _ = some (Value.bool false) := R0_3.cell 0
  have fR0_3_0 := R0_3.free 0
  have cR0_3_1 : _ = some (Value.slice none 0 0) := R0_3.cell 1
  have fR0_3_1 := R0_3.free 1
  have cR0_3_2 : _ = some (Value.slice none 0 0) := R0_3.cell 2
  have fR0_3_2 := R0_3.free 2
  have ha_3 := ha_2.below hB_3
  have hb_3 := hb_2.below hB_3
  have G_3 := G_2.below hB_3
  have ON_3 := ON_2.below hB_3
  have hbel_3 := hbel_2.next hB_3
  have hsz_3 := hB_3.size
  clear R0_2 cR0_2_0 fR0_2_0 cR0_2_1 fR0_2_1 cR0_2_2 fR0_2_2 ha_2 hb_2 G_2 ON_2 hbel_2 hB_3
  have hd := ltON.diff hO (Nat.le_refl _)
  have OD_3 := hO
  have ltOD := hO.ltB
  clear hO hO' hD
  try clear hB
  have hn0 : 0 < nn := by rw [← hnl.out]; exact Nat.pos_of_ne_zero fun e => hun.out (hll.out.1 e)
  have hbn := ON_3.bnd
  go_wp2
  refine bodyPost_ret (v := .agg #[.bool true, .slice na nn nc, .slice da dn dc]) (by simp [results, Try.results114, go_sem, cR0_3_0, cR0_3_1, cR0_3_2]) rfl ?_
  exact (by
    have h := fun v0 v1 v2 => retq_set' (v0 := v0) (v1 := v1) (v2 := v2) (g := w.heap.size) hnum.out hden.out (show Own _ _ na nn nc _ by rw [zv_abs]; exact ON_3) OD_3 hd.symm hbel_3 (by omega) (by omega) (by omega)
    rw [hbz.out] at h
    exact h _ _ _)

theorem rlow {w : World} (s : Bool) {a b : Option Addr} {n c m d u v : Nat} (ha : RdN 4194304 w a n c u) (hb : RdN 4194304 w b m d v) (hv : v ≠ 0) : Calls Try.prog 114 #[.bool s, .slice a n c, .slice b m d] w (RetQ w (mkRat (zv s u) v)) := by
  cases s
  · exact rlowp ha hb hv
  · by_cases hu : u = 0
    · exact rlowz ha hb hv hu
    · exact rlown ha hb hv hu

set_option maxRecDepth 100000 in
set_option maxHeartbeats 4000000 in
theorem rparts1 {w : World} {a1 b1 : Option Addr} {n1 c1 m1 d1 u1 v1 : Nat} {s : Bool} {J : Nat} (h1 : RdN J w a1 n1 c1 u1) (hd1 : RdN J w b1 m1 d1 v1) (hJ : J ≤ 1000000) (hv : v1 = 0) :
    Calls Try.prog 93 #[.agg #[.bool s, .slice a1 n1 c1, .slice b1 m1 d1]] w (RetPr w (decide ((qv s u1 v1).num < 0)) (qv s u1 v1).num.natAbs (qv s u1 v1).den) := by
  have hq := (show mkRat (zv s u1) 1 = qv s u1 v1 by unfold qv; rw [hv]; rfl)
  have hs1 := hid hd1.sz
  generalize qv s u1 v1 = q at *
  have HN := hid (fun W a n c b m d v (ha : RdN 4194304 W a n c u1) (hb : RdN 4194304 W b m d v) (hv : v ≠ 0) (hq : mkRat (zv s u1) v = q) => hq ▸ rlow s ha hb hv)
  have hvh := hid hv
  have hqh := hid hq
  clear hv hq
  have hent := ent1 w #[Value.bool s, Value.slice a1 n1 c1, Value.slice b1 m1 d1] 29
  go_enter Try.func93, Try.ntmps93
  go_wp2_with fail
  generalize (w.alloc (.cells #[Value.bool s, Value.slice a1 n1 c1, Value.slice b1 m1 d1] 29)) = W0 at hent ⊢
  obtain ⟨X_0, hbel_0, hsz_0⟩ := hent
  have cX_0_0 : _ = some (Value.bool s) := X_0.cell 0
  have cX_0_1 : _ = some (Value.slice a1 n1 c1) := X_0.cell 1
  have cX_0_2 : _ = some (Value.slice b1 m1 d1) := X_0.cell 2
  have h1_0 := h1.below hbel_0
  clear h1
  have hd1_0 := hd1.below hbel_0
  clear hd1
  go_wp2_with fail
  refine (rnormR hd1_0 (by omega)).mono ?_
  rintro e w1 ⟨ra, rn, rc, rfl, hO, hB⟩
  have hB_1 : Below W0.heap.size W0 w1 := (bl.next hB)
  have X_1 := X_0.next hB_1
  have cX_1_0 : _ = some (Value.bool s) := X_1.cell 0
  have cX_1_1 : _ = some (Value.slice a1 n1 c1) := X_1.cell 1
  have cX_1_2 : _ = some (Value.slice b1 m1 d1) := X_1.cell 2
  have h1_1 := h1_0.below hB_1
  have hd1_1 := hd1_0.below hB_1
  have hbel_1 := hbel_0.next hB_1
  have hsz_1 := hB_1.size
  clear X_0 cX_0_0 cX_0_1 cX_0_2 h1_0 hd1_0 hbel_0 hB_1
  have hrn : rn = 0 := by have := hO.len; have := lm_len_pos (v := v1); have := hvh.out; omega
  subst hrn
  clear hO
  try clear hB
  clear hd1_1
  have hbx := blk_new w1 #[Value.int .u32 1] 39
  have hbB := (Below.refl w1.heap.size w1).alloc (Nat.le_refl _) (.cells #[Value.int .u32 1] 39)
  have hltONE := hbx.lt
  have hB_2 : Below w1.heap.size w1 (w1.alloc (.cells #[Value.int .u32 1] 39)) := hbB
  have X_2 := X_1.next hB_2
  have cX_2_0 : _ = some (Value.bool s) := X_2.cell 0
  have cX_2_1 : _ = some (Value.slice a1 n1 c1) := X_2.cell 1
  have cX_2_2 : _ = some (Value.slice b1 m1 d1) := X_2.cell 2
  have h1_2 := h1_1.below hB_2
  have hbel_2 := hbel_1.next hB_2
  have hsz_2 := hB_2.size
  clear hB_2
  have ONE_2 := hbx
  clear hbx hbB
  have cONE_2_0 : _ = some (Value.int .u32 1) := ONE_2.cell 0
  have D_2 := (show Own w1.heap.size _ (some ⟨_, 0, none⟩) 1 1 [1] from own_one _ _ 1 (by omega) (Nat.le_refl _))
  go_wp2_with fail
  clear X_1 cX_1_0 cX_1_1 cX_1_2 h1_1 hbel_1
  generalize (w1.alloc (.cells #[Value.int .u32 1] 39)) = v2 at *
  have R_2 := (show RdN 4194304 _ _ _ _ 1 from ((lm_one ▸ D_2 : Own _ _ _ _ _ (lm 1)).rdN (v := 1) (k := 1) (sz_one (Nat.le_refl _))).mono (by omega))
  clear D_2
  go_wp2_with fail
  refine (HN.out _ _ _ _ _ _ _ _ (h1_2.mono (by omega)) R_2 (by omega) hqh.out).mono ?_
  rintro e w3 ⟨qa, qn, qc, da, dn, dc, rfl, hO, hO', hD, hB⟩
  have hB_3 : Below v2.heap.size v2 w3 := (bl.next hB)
  have X_3 := X_2.next hB_3
  have cX_3_0 : _ = some (Value.bool s) := X_3.cell 0
  have cX_3_1 : _ = some (Value.slice a1 n1 c1) := X_3.cell 1
  have cX_3_2 : _ = some (Value.slice b1 m1 d1) := X_3.cell 2
  have ONE_3 := ONE_2.next hB_3
  have cONE_3_0 : _ = some (Value.int .u32 1) := ONE_3.cell 0
  have h1_3 := h1_2.below hB_3
  have R_3 := R_2.below hB_3
  have hbel_3 := hbel_2.next hB_3
  have hsz_3 := hB_3.size
  clear X_2 cX_2_0 cX_2_1 cX_2_2 ONE_2 cONE_2_0 h1_2 R_2 hbel_2 hB_3
  have OQ_3 := hO
  have ltOQ := hO.ltB
  have OD_3 := hO'
  have ltOD := hO'.ltB
  clear hO hO'
  try clear hB
  clear HN
  clear h1_3
  clear R_3
  have hbx := blk_new w3 #[Value.bool (decide (q.num < 0)), Value.slice qa qn qc, Value.slice da dn dc] 29
  have hbB := (Below.refl w3.heap.size w3).alloc (Nat.le_refl _) (.cells #[Value.bool (decide (q.num < 0)), Value.slice qa qn qc, Value.slice da dn dc] 29)
  have hltY := hbx.lt
  have hB_4 : Below w3.heap.size w3 (w3.alloc (.cells #[Value.bool (decide (q.num < 0)), Value.slice qa qn qc, Value.slice da dn dc] 29)) := hbB
  have X_4 := X_3.next hB_4
  have cX_4_0 : _ = some (Value.bool s) := X_4.cell 0
  have cX_4_1 : _ = some (Value.slice a1 n1 c1) := X_4.cell 1
  have cX_4_2 : _ = some (Value.slice b1 m1 d1) := X_4.cell 2
  have ONE_4 := ONE_3.next hB_4
  have cONE_4_0 : _ = some (Value.int .u32 1) := ONE_4.cell 0
  have OQ_4 := OQ_3.below hB_4
  have OD_4 := OD_3.below hB_4
  have hbel_4 := hbel_3.next hB_4
  have hsz_4 := hB_4.size
  clear hB_4
  have Y_4 := hbx
  clear hbx hbB
  have cY_4_0 : _ = some (Value.bool (decide (q.num < 0))) := Y_4.cell 0
  have cY_4_1 : _ = some (Value.slice qa qn qc) := Y_4.cell 1
  have cY_4_2 : _ = some (Value.slice da dn dc) := Y_4.cell 2
  go_wp2_with fail
  clear X_3 cX_3_0 cX_3_1 cX_3_2 ONE_3 cONE_3_0 OQ_3 OD_3 hbel_3
  generalize (w3.alloc (.cells #[Value.bool (decide (q.num < 0)), Value.slice qa qn qc, Value.slice da dn dc] 29)) = v4 at *
  go_wp2_with fail
  go_quiet (fail)
  go_wp2
  go_ret3
  exact ⟨qa, qn, qc, da, dn, dc, rfl, (OQ_4.mono (by omega)).drewN _, (OD_4.mono (by omega)).drewN _, hbel_4.drewN' _⟩

set_option maxRecDepth 100000 in
set_option maxHeartbeats 4000000 in
theorem rparts0 {w : World} {a1 b1 : Option Addr} {n1 c1 m1 d1 u1 v1 : Nat} {s : Bool} {J : Nat} (h1 : RdN J w a1 n1 c1 u1) (hd1 : RdN J w b1 m1 d1 v1) (hJ : J ≤ 1000000) (hv : v1 ≠ 0) :
    Calls Try.prog 93 #[.agg #[.bool s, .slice a1 n1 c1, .slice b1 m1 d1]] w (RetPr w (decide ((qv s u1 v1).num < 0)) (qv s u1 v1).num.natAbs (qv s u1 v1).den) := by
  have hq := (show mkRat (zv s u1) v1 = qv s u1 v1 by unfold qv; rw [und_of hv])
  have hs1 := hid hd1.sz
  generalize qv s u1 v1 = q at *
  have HN := hid (fun W a n c b m d v (ha : RdN 4194304 W a n c u1) (hb : RdN 4194304 W b m d v) (hv : v ≠ 0) (hq : mkRat (zv s u1) v = q) => hq ▸ rlow s ha hb hv)
  have hvh := hid hv
  have hqh := hid hq
  clear hv hq
  have hent := ent1 w #[Value.bool s, Value.slice a1 n1 c1, Value.slice b1 m1 d1] 29
  go_enter Try.func93, Try.ntmps93
  go_wp2_with fail
  generalize (w.alloc (.cells #[Value.bool s, Value.slice a1 n1 c1, Value.slice b1 m1 d1] 29)) = W0 at hent ⊢
  obtain ⟨X_0, hbel_0, hsz_0⟩ := hent
  have cX_0_0 : _ = some (Value.bool s) := X_0.cell 0
  have cX_0_1 : _ = some (Value.slice a1 n1 c1) := X_0.cell 1
  have cX_0_2 : _ = some (Value.slice b1 m1 d1) := X_0.cell 2
  have h1_0 := h1.below hbel_0
  clear h1
  have hd1_0 := hd1.below hbel_0
  clear hd1
  go_wp2_with fail
  refine (rnormR hd1_0 (by omega)).mono ?_
  rintro e w1 ⟨ra, rn, rc, rfl, hO, hB⟩
  have hB_1 : Below W0.heap.size W0 w1 := (bl.next hB)
  have X_1 := X_0.next hB_1
  have cX_1_0 : _ = some (Value.bool s) := X_1.cell 0
  have cX_1_1 : _ = some (Value.slice a1 n1 c1) := X_1.cell 1
  have cX_1_2 : _ = some (Value.slice b1 m1 d1) := X_1.cell 2
  have h1_1 := h1_0.below hB_1
  have hd1_1 := hd1_0.below hB_1
  have hbel_1 := hbel_0.next hB_1
  have hsz_1 := hB_1.size
  clear X_0 cX_0_0 cX_0_1 cX_0_2 h1_0 hd1_0 hbel_0 hB_1
  have hrn : 0 < rn := by have := hO.len; have := lm_len_pos (v := v1); have := hvh.out; omega
  have hbq : ((rn : Int) == 0) = false := by simp; omega
  have D_1 := (hO.rdN hs1.out)
  clear hO
  try clear hB
  clear hd1_1
  have R_1 := D_1.mono (show J ≤ 4194304 by omega)
  clear D_1
  go_wp2_with fail
  refine (HN.out _ _ _ _ _ _ _ _ (h1_1.mono (by omega)) R_1 hvh.out hqh.out).mono ?_
  rintro e w2 ⟨qa, qn, qc, da, dn, dc, rfl, hO, hO', hD, hB⟩
  have hB_2 : Below w1.heap.size w1 w2 := (bl.next hB)
  have X_2 := X_1.next hB_2
  have cX_2_0 : _ = some (Value.bool s) := X_2.cell 0
  have cX_2_1 : _ = some (Value.slice a1 n1 c1) := X_2.cell 1
  have cX_2_2 : _ = some (Value.slice b1 m1 d1) := X_2.cell 2
  have h1_2 := h1_1.below hB_2
  have R_2 := R_1.below hB_2
  have hbel_2 := hbel_1.next hB_2
  have hsz_2 := hB_2.size
  clear X_1 cX_1_0 cX_1_1 cX_1_2 h1_1 R_1 hbel_1 hB_2
  have OQ_2 := hO
  have ltOQ := hO.ltB
  have OD_2 := hO'
  have ltOD := hO'.ltB
  clear hO hO'
  try clear hB
  clear HN
  clear h1_2
  clear R_2
  have hbx := blk_new w2 #[Value.bool (decide (q.num < 0)), Value.slice qa qn qc, Value.slice da dn dc] 29
  have hbB := (Below.refl w2.heap.size w2).alloc (Nat.le_refl _) (.cells #[Value.bool (decide (q.num < 0)), Value.slice qa qn qc, Value.slice da dn dc] 29)
  have hltY := hbx.lt
  have hB_3 : Below w2.heap.size w2 (w2.alloc (.cells #[Value.bool (decide (q.num < 0)), Value.slice qa qn qc, Value.slice da dn dc] 29)) := hbB
  have X_3 := X_2.next hB_3
  have cX_3_0 : _ = some (Value.bool s) := X_3.cell 0
  have cX_3_1 : _ = some (Value.slice a1 n1 c1) := X_3.cell 1
  have cX_3_2 : _ = some (Value.slice b1 m1 d1) := X_3.cell 2
  have OQ_3 := OQ_2.below hB_3
  have OD_3 := OD_2.below hB_3
  have hbel_3 := hbel_2.next hB_3
  have hsz_3 := hB_3.size
  clear hB_3
  have Y_3 := hbx
  clear hbx hbB
  have cY_3_0 : _ = some (Value.bool (decide (q.num < 0))) := Y_3.cell 0
  have cY_3_1 : _ = some (Value.slice qa qn qc) := Y_3.cell 1
  have cY_3_2 : _ = some (Value.slice da dn dc) := Y_3.cell 2
  go_wp2_with fail
  clear X_2 cX_2_0 cX_2_1 cX_2_2 OQ_2 OD_2 hbel_2
  generalize (w2.alloc (.cells #[Value.bool (decide (q.num < 0)), Value.slice qa qn qc, Value.slice da dn dc] 29)) = v3 at *
  go_wp2_with fail
  go_quiet (fail)
  go_wp2
  go_ret3
  exact ⟨qa, qn, qc, da, dn, dc, rfl, (OQ_3.mono (by omega)).drewN _, (OD_3.mono (by omega)).drewN _, hbel_3.drewN' _⟩

theorem rparts {w : World} {a1 b1 : Option Addr} {n1 c1 m1 d1 : Nat} {s : Bool} {x : Rat} {J : Nat} (hx : RdQ J w s a1 n1 c1 b1 m1 d1 x) (hJ : J ≤ 1000000) : Calls Try.prog 93 #[.agg #[.bool s, .slice a1 n1 c1, .slice b1 m1 d1]] w (RetPr w (decide (x.num < 0)) x.num.natAbs x.den) := by
  obtain ⟨u1, v1, h1, hd1, rfl⟩ := hx
  by_cases h : v1 = 0
  · exact rparts1 h1 hd1 hJ h
  · exact rparts0 h1 hd1 hJ h

end Go.Proofs.Ytbodlkfhmapngaa
