/- WALKS OF WHOLE NUMBERS, 9: quotients rounded down. -/
import Derived.Test.YtokkfppchfmjcaaZh
import Derived.IntWalk
namespace Go.Proofs.Ytokkfppchfmjcaa
set_option linter.unusedVariables false
set_option linter.unusedSimpArgs false
open Go.ChangeShapes Go.WideShapes Go.ChangeAt Go.RowKit Go.NatP
theorem RetZZ.drew {w W : World} {q r er : Int} {e : Ending} (h : RetZZ w q r er e W) : RetZZ w q r er e W.drew := by
  obtain ⟨a, n, c, b, m, d, h1, h2, h3, h4, h5⟩ := h
  exact ⟨a, n, c, b, m, d, h1, h2, h3, h4, ⟨h5.os, h5.tape, h5.output, h5.size, h5.block⟩⟩

set_option maxRecDepth 100000 in
set_option maxHeartbeats 4000000 in
theorem zfloor_err {w : World} {a : Option Addr} {n c : Nat} {la : List Nat} {b : Option Addr} {m d : Nat} {lb : List Nat} (s t : Bool) (ha : Rd w a n c la) (hn : n ≤ 4194304) (hb : Rd w b m d lb) (hm : m ≤ 4194304) {q r : Int} (hq : zv (!(s == t)) (val la / val lb) = q) (hr : zv s (dvR (val la) (val lb)) = r) (he : dvE (val lb) = 11) :
    Calls Try.prog 50 #[.agg #[.bool s, .slice a n c], .agg #[.bool t, .slice b m d]] w (RetZZ w q r 11) := by
  have HQ := hid (fun W (ha : Rd W a n c la) (hb : Rd W b m d lb) => zquo_any s t ha hn hb hm)
  rw [hq, hr, he] at HQ
  have hrz : Hid (Sz r.natAbs n) := by show Sz _ _; rw [← hr, zv_abs]; exact ha.szv.mono (dvR_le _ _) (Nat.le_refl _)
  have hqz : Hid (Sz q.natAbs n) := by show Sz _ _; rw [← hq, zv_abs]; exact ha.szv.mono (Nat.div_le_self _ _) (Nat.le_refl _)
  clear hq hr he
  have hent := ent4 w #[Value.bool s, Value.slice a n c] #[Value.bool t, Value.slice b m d] #[Value.bool false, Value.slice none 0 0] #[Value.bool false, Value.slice none 0 0] 25 25 25 25
  go_enter Try.func50, Try.ntmps50
  go_wp2_with fail
  generalize ((((w.alloc (.cells #[Value.bool s, Value.slice a n c] 25)).alloc (.cells #[Value.bool t, Value.slice b m d] 25)).alloc (.cells #[Value.bool false, Value.slice none 0 0] 25)).alloc (.cells #[Value.bool false, Value.slice none 0 0] 25)) = W0 at hent ⊢
  obtain ⟨Xa_0, Xb_0, R0_0, R1_0, hbel0, hsz0⟩ := hent
  have Ra_1 := ha.below hbel0
  have Rb_2 := hb.below hbel0
  have cXa0_2 : _ = some (Value.bool s) := Xa_0.cell 0
  have cXa1_2 : _ = some (Value.slice a n c) := Xa_0.cell 1
  have cXb0_2 : _ = some (Value.bool t) := Xb_0.cell 0
  have cXb1_2 : _ = some (Value.slice b m d) := Xb_0.cell 1
  have cR00_2 : _ = some (Value.bool false) := R0_0.cell 0
  have fR00_2 := R0_0.free 0
  have cR01_2 : _ = some (Value.slice none 0 0) := R0_0.cell 1
  have fR01_2 := R0_0.free 1
  have cR10_2 : _ = some (Value.bool false) := R1_0.cell 0
  have fR10_2 := R1_0.free 0
  have cR11_2 : _ = some (Value.slice none 0 0) := R1_0.cell 1
  have fR11_2 := R1_0.free 1
  go_wp2_with fail
  refine (HQ.out _ Ra_1 Rb_2).mono ?_
  rintro e w1 ⟨p, pn, pc, u, un, uc, rfl, hO1, hO2, hDf, hB⟩
  clear cXa0_2 cXa1_2 cXb0_2 cXb1_2 cR00_2 fR00_2 cR01_2 fR01_2 cR10_2 fR10_2 cR11_2 fR11_2
  have hstep : Below W0.heap.size W0 w1 := (by first | exact hB | exact below_drew hB)
  have Xa_3 := Xa_0.next hstep
  have Xb_4 := Xb_0.next hstep
  have R0_5 := R0_0.next hstep
  have R1_6 := R1_0.next hstep
  have Ra_7 := Ra_1.below hstep
  have Rb_8 := Rb_2.below hstep
  have hbel9 := hbel0.next hstep
  have hle9 := hbel9.size
  have hls9 := hstep.size
  clear Xa_0 Xb_0 R0_0 R1_0 Ra_1 Rb_2 hbel0 hstep
  have cXa0_9 : _ = some (Value.bool s) := Xa_3.cell 0
  have cXa1_9 : _ = some (Value.slice a n c) := Xa_3.cell 1
  have cXb0_9 : _ = some (Value.bool t) := Xb_4.cell 0
  have cXb1_9 : _ = some (Value.slice b m d) := Xb_4.cell 1
  have cR00_9 : _ = some (Value.bool false) := R0_5.cell 0
  have fR00_9 := R0_5.free 0
  have cR01_9 : _ = some (Value.slice none 0 0) := R0_5.cell 1
  have fR01_9 := R0_5.free 1
  have cR10_9 : _ = some (Value.bool false) := R1_6.cell 0
  have fR10_9 := R1_6.free 0
  have cR11_9 : _ = some (Value.slice none 0 0) := R1_6.cell 1
  have fR11_9 := R1_6.free 1
  have Oq_10 := hO1
  have Or_11 := hO2
  clear hO1 hO2 hB
  have hbx := blk_new' w1 #[Value.bool (decide (q < 0)), Value.slice p pn pc] 25 (g := w1.heap.size) (by simp)
  have hbB := (Below.refl w1.heap.size w1).alloc (Nat.le_refl _) (.cells #[Value.bool (decide (q < 0)), Value.slice p pn pc] 25)
  have hbg := hbx.lt
  clear cXa0_9 cXa1_9 cXb0_9 cXb1_9 cR00_9 fR00_9 cR01_9 fR01_9 cR10_9 fR10_9 cR11_9 fR11_9
  have hstep : Below w1.heap.size w1 (w1.alloc (.cells #[Value.bool (decide (q < 0)), Value.slice p pn pc] 25)) := (by first | exact hbB | exact below_drew hbB)
  have Xa_12 := Xa_3.next hstep
  have Xb_13 := Xb_4.next hstep
  have R0_14 := R0_5.next hstep
  have R1_15 := R1_6.next hstep
  have Ra_16 := Ra_7.below hstep
  have Rb_17 := Rb_8.below hstep
  have Oq_18 := Oq_10.below hstep
  have Or_19 := Or_11.below hstep
  have hbel20 := hbel9.next hstep
  have hle20 := hbel20.size
  have hls20 := hstep.size
  clear Xa_3 Xb_4 R0_5 R1_6 Ra_7 Rb_8 Oq_10 Or_11 hbel9 hstep
  have cXa0_20 : _ = some (Value.bool s) := Xa_12.cell 0
  have cXa1_20 : _ = some (Value.slice a n c) := Xa_12.cell 1
  have cXb0_20 : _ = some (Value.bool t) := Xb_13.cell 0
  have cXb1_20 : _ = some (Value.slice b m d) := Xb_13.cell 1
  have cR00_20 : _ = some (Value.bool false) := R0_14.cell 0
  have fR00_20 := R0_14.free 0
  have cR01_20 : _ = some (Value.slice none 0 0) := R0_14.cell 1
  have fR01_20 := R0_14.free 1
  have cR10_20 : _ = some (Value.bool false) := R1_15.cell 0
  have fR10_20 := R1_15.free 0
  have cR11_20 : _ = some (Value.slice none 0 0) := R1_15.cell 1
  have fR11_20 := R1_15.free 1
  have Xq_21 := hbx
  have cXq0_21 : _ = some (Value.bool (decide (q < 0))) := Xq_21.cell 0
  have cXq1_21 : _ = some (Value.slice p pn pc) := Xq_21.cell 1
  clear hbx hbB
  have hbx := blk_new' (w1.alloc (.cells #[Value.bool (decide (q < 0)), Value.slice p pn pc] 25)) #[Value.bool (decide (r < 0)), Value.slice u un uc] 25 (g := w1.heap.size + 1) (by simp)
  have hbB := (Below.refl (w1.alloc (.cells #[Value.bool (decide (q < 0)), Value.slice p pn pc] 25)).heap.size (w1.alloc (.cells #[Value.bool (decide (q < 0)), Value.slice p pn pc] 25))).alloc (Nat.le_refl _) (.cells #[Value.bool (decide (r < 0)), Value.slice u un uc] 25)
  have hbg := hbx.lt
  clear cXa0_20 cXa1_20 cXb0_20 cXb1_20 cR00_20 fR00_20 cR01_20 fR01_20 cR10_20 fR10_20 cR11_20 fR11_20 cXq0_21 cXq1_21
  have hstep : Below (w1.alloc (.cells #[Value.bool (decide (q < 0)), Value.slice p pn pc] 25)).heap.size (w1.alloc (.cells #[Value.bool (decide (q < 0)), Value.slice p pn pc] 25)) ((w1.alloc (.cells #[Value.bool (decide (q < 0)), Value.slice p pn pc] 25)).alloc (.cells #[Value.bool (decide (r < 0)), Value.slice u un uc] 25)) := (by first | exact hbB | exact below_drew hbB)
  have Xa_22 := Xa_12.next hstep
  have Xb_23 := Xb_13.next hstep
  have R0_24 := R0_14.next hstep
  have R1_25 := R1_15.next hstep
  have Xq_26 := Xq_21.next hstep
  have Ra_27 := Ra_16.below hstep
  have Rb_28 := Rb_17.below hstep
  have Oq_29 := Oq_18.below hstep
  have Or_30 := Or_19.below hstep
  have hbel31 := hbel20.next hstep
  have hle31 := hbel31.size
  have hls31 := hstep.size
  clear Xa_12 Xb_13 R0_14 R1_15 Xq_21 Ra_16 Rb_17 Oq_18 Or_19 hbel20 hstep
  have cXa0_31 : _ = some (Value.bool s) := Xa_22.cell 0
  have cXa1_31 : _ = some (Value.slice a n c) := Xa_22.cell 1
  have cXb0_31 : _ = some (Value.bool t) := Xb_23.cell 0
  have cXb1_31 : _ = some (Value.slice b m d) := Xb_23.cell 1
  have cR00_31 : _ = some (Value.bool false) := R0_24.cell 0
  have fR00_31 := R0_24.free 0
  have cR01_31 : _ = some (Value.slice none 0 0) := R0_24.cell 1
  have fR01_31 := R0_24.free 1
  have cR10_31 : _ = some (Value.bool false) := R1_25.cell 0
  have fR10_31 := R1_25.free 0
  have cR11_31 : _ = some (Value.slice none 0 0) := R1_25.cell 1
  have fR11_31 := R1_25.free 1
  have cXq0_31 : _ = some (Value.bool (decide (q < 0))) := Xq_26.cell 0
  have cXq1_31 : _ = some (Value.slice p pn pc) := Xq_26.cell 1
  have Xr_32 := hbx
  have cXr0_32 : _ = some (Value.bool (decide (r < 0))) := Xr_32.cell 0
  have cXr1_32 : _ = some (Value.slice u un uc) := Xr_32.cell 1
  clear hbx hbB
  go_wp2_with fail
  generalize ((w1.alloc (.cells #[Value.bool (decide (q < 0)), Value.slice p pn pc] 25)).alloc (.cells #[Value.bool (decide (r < 0)), Value.slice u un uc] 25)) = v2 at *
  go_quiet (fail)
  go_wp2_with fail
  go_wp2_with fail
  have KXq0_0 : _ = some (Value.bool (decide (q < 0))) := Xq_26.cell 0
  have KXq1_0 : _ = some (Value.slice p pn pc) := Xq_26.cell 1
  have KXr0_0 : _ = some (Value.bool (decide (r < 0))) := Xr_32.cell 0
  have KXr1_0 : _ = some (Value.slice u un uc) := Xr_32.cell 1
  have Xq_h0 := Xq_26
  have Xr_h0 := Xr_32
  have acc0 : Below v2.heap.size v2 v2 := Below.refl _ _
  go_region_held3 (fun w' => w'.cell? ⟨w1.heap.size, 0, none⟩ = some (Value.bool (decide (q < 0))) ∧ w'.cell? ⟨w1.heap.size, 1, none⟩ = some (Value.slice p pn pc) ∧ w'.cell? ⟨w1.heap.size + 1, 0, none⟩ = some (Value.bool (decide (r < 0))) ∧ w'.cell? ⟨w1.heap.size + 1, 1, none⟩ = some (Value.slice u un uc))
    (first | exact ⟨KXq0_0, KXq1_0, KXr0_0, KXr1_0⟩ | exact ⟨(cell_set2 (by omega) _ _).trans (KXq0_0), (cell_set2 (by omega) _ _).trans (KXq1_0), (cell_set2 (by omega) _ _).trans (KXr0_0), (cell_set2 (by omega) _ _).trans (KXr1_0)⟩ | exact ⟨(cell_set2 (by omega) _ _).trans ((cell_set2 (by omega) _ _).trans (KXq0_0)), (cell_set2 (by omega) _ _).trans ((cell_set2 (by omega) _ _).trans (KXq1_0)), (cell_set2 (by omega) _ _).trans ((cell_set2 (by omega) _ _).trans (KXr0_0)), (cell_set2 (by omega) _ _).trans ((cell_set2 (by omega) _ _).trans (KXr1_0))⟩ | go_keep)
    (fail)
  clear acc0 Xq_h0 Xr_h0 KXq0_0 KXq1_0 KXr0_0 KXr1_0
  go_wp2
  refine bodyPost_ret (v := .tuple #[.agg #[.bool (decide (q < 0)), .slice p pn pc], .agg #[.bool (decide (r < 0)), .slice u un uc], .int .i64 11]) (by simp [results, Try.results50, go_sem, cR00_31, cR01_31, cR10_31, cR11_31]) rfl ?_
  first
    | exact retzz_set (B := W0.heap.size) (g := w.heap.size + 1 + 1) (g' := w.heap.size + 1 + 1 + 1) Oq_29 Or_30 hDf (by first | exact hbel31 | exact hbel31.drewN' _ | exact ⟨hbel31.os, hbel31.tape, hbel31.output, hbel31.size, hbel31.block⟩) (by omega) (by omega) (by omega) (by omega)
    | exact RetZZ.drew (retzz_set (B := W0.heap.size) (g := w.heap.size + 1 + 1) (g' := w.heap.size + 1 + 1 + 1) Oq_29 Or_30 hDf (by first | exact hbel31 | exact hbel31.drewN' _ | exact ⟨hbel31.os, hbel31.tape, hbel31.output, hbel31.size, hbel31.block⟩) (by omega) (by omega) (by omega) (by omega))

set_option maxRecDepth 100000 in
set_option maxHeartbeats 4000000 in
theorem zfloor_stay {w : World} {a : Option Addr} {n c : Nat} {la : List Nat} {b : Option Addr} {m d : Nat} {lb : List Nat} (s t : Bool) (ha : Rd w a n c la) (hn : n ≤ 4194304) (hb : Rd w b m d lb) (hm : m ≤ 4194304) {q r : Int} (hq : zv (!(s == t)) (val la / val lb) = q) (hr : zv s (dvR (val la) (val lb)) = r) (he : dvE (val lb) = 0) (hc : 0 ≤ sgn r * sgn (zv t (val lb))) :
    Calls Try.prog 50 #[.agg #[.bool s, .slice a n c], .agg #[.bool t, .slice b m d]] w (RetZZ w q r 0) := by
  have HQ := hid (fun W (ha : Rd W a n c la) (hb : Rd W b m d lb) => zquo_any s t ha hn hb hm)
  rw [hq, hr, he] at HQ
  have hrz : Hid (Sz r.natAbs n) := by show Sz _ _; rw [← hr, zv_abs]; exact ha.szv.mono (dvR_le _ _) (Nat.le_refl _)
  have hqz : Hid (Sz q.natAbs n) := by show Sz _ _; rw [← hq, zv_abs]; exact ha.szv.mono (Nat.div_le_self _ _) (Nat.le_refl _)
  clear hq hr he
  have hr1 := sgn_range r
  have hr2 := sgn_range (zv t (val lb))
  have hPr : -1 ≤ sgn r * sgn (zv t (val lb)) ∧ sgn r * sgn (zv t (val lb)) ≤ 1 := by rcases (show sgn r = -1 ∨ sgn r = 0 ∨ sgn r = 1 by omega) with h | h | h <;> rw [h] <;> omega
  have HS1 := hid (fun W (x : Option Addr) (i j : Nat) (h : Rd W x i j (lm r.natAbs)) (hi : i ≤ 16777216) => zsign_any (decide (r < 0)) h hi)
  simp only [val_lm, zv_self] at HS1
  have HS2 := hid (fun W (hb : Rd W b m d lb) => zsign_any t hb (show m ≤ 16777216 by omega))
  obtain ⟨P, hP⟩ : ∃ P, sgn r * sgn (zv t (val lb)) = P := ⟨_, rfl⟩
  rw [hP] at hc hPr
  generalize sgn r = g1 at *
  generalize sgn (zv t (val lb)) = g2 at *
  have hW0 : IntKind.i64.wrap P = P := IntWalk.i64_in _ (by omega)
  have hW1 : decide (0 ≤ IntKind.i64.wrap P) = true := by rw [hW0]; exact decide_eq_true (by omega)
  have hW2 : (0 ≤ IntKind.i64.wrap P) = True := by rw [hW0]; simp; omega
  clear hW0
  have hent := ent4 w #[Value.bool s, Value.slice a n c] #[Value.bool t, Value.slice b m d] #[Value.bool false, Value.slice none 0 0] #[Value.bool false, Value.slice none 0 0] 25 25 25 25
  go_enter Try.func50, Try.ntmps50
  go_wp2_with fail
  generalize ((((w.alloc (.cells #[Value.bool s, Value.slice a n c] 25)).alloc (.cells #[Value.bool t, Value.slice b m d] 25)).alloc (.cells #[Value.bool false, Value.slice none 0 0] 25)).alloc (.cells #[Value.bool false, Value.slice none 0 0] 25)) = W0 at hent ⊢
  obtain ⟨Xa_0, Xb_0, R0_0, R1_0, hbel0, hsz0⟩ := hent
  have Ra_1 := ha.below hbel0
  have Rb_2 := hb.below hbel0
  have cXa0_2 : _ = some (Value.bool s) := Xa_0.cell 0
  have cXa1_2 : _ = some (Value.slice a n c) := Xa_0.cell 1
  have cXb0_2 : _ = some (Value.bool t) := Xb_0.cell 0
  have cXb1_2 : _ = some (Value.slice b m d) := Xb_0.cell 1
  have cR00_2 : _ = some (Value.bool false) := R0_0.cell 0
  have fR00_2 := R0_0.free 0
  have cR01_2 : _ = some (Value.slice none 0 0) := R0_0.cell 1
  have fR01_2 := R0_0.free 1
  have cR10_2 : _ = some (Value.bool false) := R1_0.cell 0
  have fR10_2 := R1_0.free 0
  have cR11_2 : _ = some (Value.slice none 0 0) := R1_0.cell 1
  have fR11_2 := R1_0.free 1
  go_wp2_with fail
  refine (HQ.out _ Ra_1 Rb_2).mono ?_
  rintro e w1 ⟨p, pn, pc, u, un, uc, rfl, hO1, hO2, hDf, hB⟩
  clear cXa0_2 cXa1_2 cXb0_2 cXb1_2 cR00_2 fR00_2 cR01_2 fR01_2 cR10_2 fR10_2 cR11_2 fR11_2
  have hstep : Below W0.heap.size W0 w1 := (by first | exact hB | exact below_drew hB)
  have Xa_3 := Xa_0.next hstep
  have Xb_4 := Xb_0.next hstep
  have R0_5 := R0_0.next hstep
  have R1_6 := R1_0.next hstep
  have Ra_7 := Ra_1.below hstep
  have Rb_8 := Rb_2.below hstep
  have hbel9 := hbel0.next hstep
  have hle9 := hbel9.size
  have hls9 := hstep.size
  clear Xa_0 Xb_0 R0_0 R1_0 Ra_1 Rb_2 hbel0 hstep
  have cXa0_9 : _ = some (Value.bool s) := Xa_3.cell 0
  have cXa1_9 : _ = some (Value.slice a n c) := Xa_3.cell 1
  have cXb0_9 : _ = some (Value.bool t) := Xb_4.cell 0
  have cXb1_9 : _ = some (Value.slice b m d) := Xb_4.cell 1
  have cR00_9 : _ = some (Value.bool false) := R0_5.cell 0
  have fR00_9 := R0_5.free 0
  have cR01_9 : _ = some (Value.slice none 0 0) := R0_5.cell 1
  have fR01_9 := R0_5.free 1
  have cR10_9 : _ = some (Value.bool false) := R1_6.cell 0
  have fR10_9 := R1_6.free 0
  have cR11_9 : _ = some (Value.slice none 0 0) := R1_6.cell 1
  have fR11_9 := R1_6.free 1
  have hpn : pn ≤ 4194304 := by have := len_le (l := la) hO1.len hqz.out; omega
  have hun : un ≤ 4194304 := by have := len_le (l := la) hO2.len hrz.out; omega
  have Oq_10 := hO1
  have Or_11 := hO2
  clear hO1 hO2 hB
  have hbx := blk_new' w1 #[Value.bool (decide (q < 0)), Value.slice p pn pc] 25 (g := w1.heap.size) (by simp)
  have hbB := (Below.refl w1.heap.size w1).alloc (Nat.le_refl _) (.cells #[Value.bool (decide (q < 0)), Value.slice p pn pc] 25)
  have hbg := hbx.lt
  clear cXa0_9 cXa1_9 cXb0_9 cXb1_9 cR00_9 fR00_9 cR01_9 fR01_9 cR10_9 fR10_9 cR11_9 fR11_9
  have hstep : Below w1.heap.size w1 (w1.alloc (.cells #[Value.bool (decide (q < 0)), Value.slice p pn pc] 25)) := (by first | exact hbB | exact below_drew hbB)
  have Xa_12 := Xa_3.next hstep
  have Xb_13 := Xb_4.next hstep
  have R0_14 := R0_5.next hstep
  have R1_15 := R1_6.next hstep
  have Ra_16 := Ra_7.below hstep
  have Rb_17 := Rb_8.below hstep
  have Oq_18 := Oq_10.below hstep
  have Or_19 := Or_11.below hstep
  have hbel20 := hbel9.next hstep
  have hle20 := hbel20.size
  have hls20 := hstep.size
  clear Xa_3 Xb_4 R0_5 R1_6 Ra_7 Rb_8 Oq_10 Or_11 hbel9 hstep
  have cXa0_20 : _ = some (Value.bool s) := Xa_12.cell 0
  have cXa1_20 : _ = some (Value.slice a n c) := Xa_12.cell 1
  have cXb0_20 : _ = some (Value.bool t) := Xb_13.cell 0
  have cXb1_20 : _ = some (Value.slice b m d) := Xb_13.cell 1
  have cR00_20 : _ = some (Value.bool false) := R0_14.cell 0
  have fR00_20 := R0_14.free 0
  have cR01_20 : _ = some (Value.slice none 0 0) := R0_14.cell 1
  have fR01_20 := R0_14.free 1
  have cR10_20 : _ = some (Value.bool false) := R1_15.cell 0
  have fR10_20 := R1_15.free 0
  have cR11_20 : _ = some (Value.slice none 0 0) := R1_15.cell 1
  have fR11_20 := R1_15.free 1
  have Xq_21 := hbx
  have cXq0_21 : _ = some (Value.bool (decide (q < 0))) := Xq_21.cell 0
  have cXq1_21 : _ = some (Value.slice p pn pc) := Xq_21.cell 1
  clear hbx hbB
  have hbx := blk_new' (w1.alloc (.cells #[Value.bool (decide (q < 0)), Value.slice p pn pc] 25)) #[Value.bool (decide (r < 0)), Value.slice u un uc] 25 (g := w1.heap.size + 1) (by simp)
  have hbB := (Below.refl (w1.alloc (.cells #[Value.bool (decide (q < 0)), Value.slice p pn pc] 25)).heap.size (w1.alloc (.cells #[Value.bool (decide (q < 0)), Value.slice p pn pc] 25))).alloc (Nat.le_refl _) (.cells #[Value.bool (decide (r < 0)), Value.slice u un uc] 25)
  have hbg := hbx.lt
  clear cXa0_20 cXa1_20 cXb0_20 cXb1_20 cR00_20 fR00_20 cR01_20 fR01_20 cR10_20 fR10_20 cR11_20 fR11_20 cXq0_21 cXq1_21
  have hstep : Below (w1.alloc (.cells #[Value.bool (decide (q < 0)), Value.slice p pn pc] 25)).heap.size (w1.alloc (.cells #[Value.bool (decide (q < 0)), Value.slice p pn pc] 25)) ((w1.alloc (.cells #[Value.bool (decide (q < 0)), Value.slice p pn pc] 25)).alloc (.cells #[Value.bool (decide (r < 0)), Value.slice u un uc] 25)) := (by first | exact hbB | exact below_drew hbB)
  have Xa_22 := Xa_12.next hstep
  have Xb_23 := Xb_13.next hstep
  have R0_24 := R0_14.next hstep
  have R1_25 := R1_15.next hstep
  have Xq_26 := Xq_21.next hstep
  have Ra_27 := Ra_16.below hstep
  have Rb_28 := Rb_17.below hstep
  have Oq_29 := Oq_18.below hstep
  have Or_30 := Or_19.below hstep
  have hbel31 := hbel20.next hstep
  have hle31 := hbel31.size
  have hls31 := hstep.size
  clear Xa_12 Xb_13 R0_14 R1_15 Xq_21 Ra_16 Rb_17 Oq_18 Or_19 hbel20 hstep
  have cXa0_31 : _ = some (Value.bool s) := Xa_22.cell 0
  have cXa1_31 : _ = some (Value.slice a n c) := Xa_22.cell 1
  have cXb0_31 : _ = some (Value.bool t) := Xb_23.cell 0
  have cXb1_31 : _ = some (Value.slice b m d) := Xb_23.cell 1
  have cR00_31 : _ = some (Value.bool false) := R0_24.cell 0
  have fR00_31 := R0_24.free 0
  have cR01_31 : _ = some (Value.slice none 0 0) := R0_24.cell 1
  have fR01_31 := R0_24.free 1
  have cR10_31 : _ = some (Value.bool false) := R1_25.cell 0
  have fR10_31 := R1_25.free 0
  have cR11_31 : _ = some (Value.slice none 0 0) := R1_25.cell 1
  have fR11_31 := R1_25.free 1
  have cXq0_31 : _ = some (Value.bool (decide (q < 0))) := Xq_26.cell 0
  have cXq1_31 : _ = some (Value.slice p pn pc) := Xq_26.cell 1
  have Xr_32 := hbx
  have cXr0_32 : _ = some (Value.bool (decide (r < 0))) := Xr_32.cell 0
  have cXr1_32 : _ = some (Value.slice u un uc) := Xr_32.cell 1
  clear hbx hbB
  go_wp2_with fail
  generalize ((w1.alloc (.cells #[Value.bool (decide (q < 0)), Value.slice p pn pc] 25)).alloc (.cells #[Value.bool (decide (r < 0)), Value.slice u un uc] 25)) = v2 at *
  go_wp2_with fail
  have KXb0_0 : _ = some (Value.bool t) := Xb_23.cell 0
  have KXb1_0 : _ = some (Value.slice b m d) := Xb_23.cell 1
  have KXr0_0 : _ = some (Value.bool (decide (r < 0))) := Xr_32.cell 0
  have KXr1_0 : _ = some (Value.slice u un uc) := Xr_32.cell 1
  have Xb_h0 := Xb_23
  have Xr_h0 := Xr_32
  have acc0 : Below v2.heap.size v2 v2 := Below.refl _ _
  go_region_held3 (fun w' => w'.cell? ⟨w.heap.size + 1, 0, none⟩ = some (Value.bool t) ∧ w'.cell? ⟨w.heap.size + 1, 1, none⟩ = some (Value.slice b m d) ∧ w'.cell? ⟨w1.heap.size + 1, 0, none⟩ = some (Value.bool (decide (r < 0))) ∧ w'.cell? ⟨w1.heap.size + 1, 1, none⟩ = some (Value.slice u un uc))
    (first | exact ⟨KXb0_0, KXb1_0, KXr0_0, KXr1_0⟩ | exact ⟨KXb0_1, KXb1_1, KXr0_1, KXr1_1⟩ | exact ⟨KXb0_2, KXb1_2, KXr0_2, KXr1_2⟩ | go_keep)
    (first
      | (go_at_call 27; ((with_reducible refine (HS1.out _ _ _ _ (show Rd _ u un uc (lm r.natAbs) from (Or_30.below (by first | exact acc0 | exact (acc0).drew)).rd) (by omega)).mono ?_); (rintro e w4 ⟨rfl, hB⟩; have hst1 : Below v2.heap.size v2 w4 := (by first | exact hB | exact below_drew hB); have acc1 := acc0.next hst1; have Xb_h1 := Xb_h0.next hst1; have Xr_h1 := Xr_h0.next hst1; have KXb0_1 : _ = some (Value.bool t) := Xb_h1.cell 0; have KXb1_1 : _ = some (Value.slice b m d) := Xb_h1.cell 1; have KXr0_1 : _ = some (Value.bool (decide (r < 0))) := Xr_h1.cell 0; have KXr1_1 : _ = some (Value.slice u un uc) := Xr_h1.cell 1)))
      | (go_at_call 27; ((with_reducible refine (HS2.out _ (show Rd _ b m d lb from Rb_28.below (by first | exact acc1 | exact (acc1).drew))).mono ?_); (rintro e w5 ⟨rfl, hB⟩; have hst2 : Below w4.heap.size w4 w5 := (by first | exact hB | exact below_drew hB); have acc2 := acc1.next hst2; have Xb_h2 := Xb_h1.next hst2; have Xr_h2 := Xr_h1.next hst2; have KXb0_2 : _ = some (Value.bool t) := Xb_h2.cell 0; have KXb1_2 : _ = some (Value.slice b m d) := Xb_h2.cell 1; have KXr0_2 : _ = some (Value.bool (decide (r < 0))) := Xr_h2.cell 0; have KXr1_2 : _ = some (Value.slice u un uc) := Xr_h2.cell 1))))
  clear cXa0_31 cXa1_31 cXb0_31 cXb1_31 cR00_31 fR00_31 cR01_31 fR01_31 cR10_31 fR10_31 cR11_31 fR11_31 cXq0_31 cXq1_31 cXr0_32 cXr1_32
  have hstep : Below v2.heap.size v2 w5 := (by first | exact acc2 | exact below_drew acc2)
  have Xa_33 := Xa_22.next hstep
  have Xb_34 := Xb_23.next hstep
  have R0_35 := R0_24.next hstep
  have R1_36 := R1_25.next hstep
  have Xq_37 := Xq_26.next hstep
  have Xr_38 := Xr_32.next hstep
  have Ra_39 := Ra_27.below hstep
  have Rb_40 := Rb_28.below hstep
  have Oq_41 := Oq_29.below hstep
  have Or_42 := Or_30.below hstep
  have hbel43 := hbel31.next hstep
  have hle43 := hbel43.size
  have hls43 := hstep.size
  clear Xa_22 Xb_23 R0_24 R1_25 Xq_26 Xr_32 Ra_27 Rb_28 Oq_29 Or_30 hbel31 hstep
  have cXa0_43 : _ = some (Value.bool s) := Xa_33.cell 0
  have cXa1_43 : _ = some (Value.slice a n c) := Xa_33.cell 1
  have cXb0_43 : _ = some (Value.bool t) := Xb_34.cell 0
  have cXb1_43 : _ = some (Value.slice b m d) := Xb_34.cell 1
  have cR00_43 : _ = some (Value.bool false) := R0_35.cell 0
  have fR00_43 := R0_35.free 0
  have cR01_43 : _ = some (Value.slice none 0 0) := R0_35.cell 1
  have fR01_43 := R0_35.free 1
  have cR10_43 : _ = some (Value.bool false) := R1_36.cell 0
  have fR10_43 := R1_36.free 0
  have cR11_43 : _ = some (Value.slice none 0 0) := R1_36.cell 1
  have fR11_43 := R1_36.free 1
  have cXq0_43 : _ = some (Value.bool (decide (q < 0))) := Xq_37.cell 0
  have cXq1_43 : _ = some (Value.slice p pn pc) := Xq_37.cell 1
  have cXr0_43 : _ = some (Value.bool (decide (r < 0))) := Xr_38.cell 0
  have cXr1_43 : _ = some (Value.slice u un uc) := Xr_38.cell 1
  clear acc0 acc1 acc2 hst1 hst2 KXb0_0 KXb1_0 KXr0_0 KXr1_0 KXb0_1 KXb1_1 KXr0_1 KXr1_1 KXb0_2 KXb1_2 KXr0_2 KXr1_2 Xb_h0 Xb_h1 Xb_h2 Xr_h0 Xr_h1 Xr_h2
  go_wp2_with fail
  go_wp2_with fail
  have KXq0_0 : _ = some (Value.bool (decide (q < 0))) := Xq_37.cell 0
  have KXq1_0 : _ = some (Value.slice p pn pc) := Xq_37.cell 1
  have KXr0_0 : _ = some (Value.bool (decide (r < 0))) := Xr_38.cell 0
  have KXr1_0 : _ = some (Value.slice u un uc) := Xr_38.cell 1
  have Xq_h0 := Xq_37
  have Xr_h0 := Xr_38
  have acc0 : Below w5.heap.size w5 w5 := Below.refl _ _
  go_region_held3 (fun w' => w'.cell? ⟨w1.heap.size, 0, none⟩ = some (Value.bool (decide (q < 0))) ∧ w'.cell? ⟨w1.heap.size, 1, none⟩ = some (Value.slice p pn pc) ∧ w'.cell? ⟨w1.heap.size + 1, 0, none⟩ = some (Value.bool (decide (r < 0))) ∧ w'.cell? ⟨w1.heap.size + 1, 1, none⟩ = some (Value.slice u un uc))
    (first | exact ⟨KXq0_0, KXq1_0, KXr0_0, KXr1_0⟩ | exact ⟨(cell_set2 (by omega) _ _).trans (KXq0_0), (cell_set2 (by omega) _ _).trans (KXq1_0), (cell_set2 (by omega) _ _).trans (KXr0_0), (cell_set2 (by omega) _ _).trans (KXr1_0)⟩ | exact ⟨(cell_set2 (by omega) _ _).trans ((cell_set2 (by omega) _ _).trans (KXq0_0)), (cell_set2 (by omega) _ _).trans ((cell_set2 (by omega) _ _).trans (KXq1_0)), (cell_set2 (by omega) _ _).trans ((cell_set2 (by omega) _ _).trans (KXr0_0)), (cell_set2 (by omega) _ _).trans ((cell_set2 (by omega) _ _).trans (KXr1_0))⟩ | go_keep)
    (fail)
  clear acc0 Xq_h0 Xr_h0 KXq0_0 KXq1_0 KXr0_0 KXr1_0
  go_wp2
  refine bodyPost_ret (v := .tuple #[.agg #[.bool (decide (q < 0)), .slice p pn pc], .agg #[.bool (decide (r < 0)), .slice u un uc], .int .i64 0]) (by simp [results, Try.results50, go_sem, cR00_43, cR01_43, cR10_43, cR11_43]) rfl ?_
  first
    | exact retzz_set (B := W0.heap.size) (g := w.heap.size + 1 + 1) (g' := w.heap.size + 1 + 1 + 1) Oq_41 Or_42 hDf (by first | exact hbel43 | exact hbel43.drewN' _ | exact ⟨hbel43.os, hbel43.tape, hbel43.output, hbel43.size, hbel43.block⟩) (by omega) (by omega) (by omega) (by omega)
    | exact RetZZ.drew (retzz_set (B := W0.heap.size) (g := w.heap.size + 1 + 1) (g' := w.heap.size + 1 + 1 + 1) Oq_41 Or_42 hDf (by first | exact hbel43 | exact hbel43.drewN' _ | exact ⟨hbel43.os, hbel43.tape, hbel43.output, hbel43.size, hbel43.block⟩) (by omega) (by omega) (by omega) (by omega))

set_option maxRecDepth 100000 in
set_option maxHeartbeats 4000000 in
theorem zfloor_down {w : World} {a : Option Addr} {n c : Nat} {la : List Nat} {b : Option Addr} {m d : Nat} {lb : List Nat} (s t : Bool) (ha : Rd w a n c la) (hn : n ≤ 4194304) (hb : Rd w b m d lb) (hm : m ≤ 4194304) {q r : Int} (hq : zv (!(s == t)) (val la / val lb) = q) (hr : zv s (dvR (val la) (val lb)) = r) (he : dvE (val lb) = 0) (hc : sgn r * sgn (zv t (val lb)) < 0) :
    Calls Try.prog 50 #[.agg #[.bool s, .slice a n c], .agg #[.bool t, .slice b m d]] w (RetZZ w (q - 1) (r + zv t (val lb)) 0) := by
  have HQ := hid (fun W (ha : Rd W a n c la) (hb : Rd W b m d lb) => zquo_any s t ha hn hb hm)
  rw [hq, hr, he] at HQ
  have hrz : Hid (Sz r.natAbs n) := by show Sz _ _; rw [← hr, zv_abs]; exact ha.szv.mono (dvR_le _ _) (Nat.le_refl _)
  have hqz : Hid (Sz q.natAbs n) := by show Sz _ _; rw [← hq, zv_abs]; exact ha.szv.mono (Nat.div_le_self _ _) (Nat.le_refl _)
  clear hq hr he
  have hr1 := sgn_range r
  have hr2 := sgn_range (zv t (val lb))
  have hPr : -1 ≤ sgn r * sgn (zv t (val lb)) ∧ sgn r * sgn (zv t (val lb)) ≤ 1 := by rcases (show sgn r = -1 ∨ sgn r = 0 ∨ sgn r = 1 by omega) with h | h | h <;> rw [h] <;> omega
  have HS1 := hid (fun W (x : Option Addr) (i j : Nat) (h : Rd W x i j (lm r.natAbs)) (hi : i ≤ 16777216) => zsign_any (decide (r < 0)) h hi)
  simp only [val_lm, zv_self] at HS1
  have HS2 := hid (fun W (hb : Rd W b m d lb) => zsign_any t hb (show m ≤ 16777216 by omega))
  obtain ⟨P, hP⟩ : ∃ P, sgn r * sgn (zv t (val lb)) = P := ⟨_, rfl⟩
  rw [hP] at hc hPr
  generalize sgn r = g1 at *
  generalize sgn (zv t (val lb)) = g2 at *
  have hW0 : IntKind.i64.wrap P = P := IntWalk.i64_in _ (by omega)
  have hW1 : decide (0 ≤ IntKind.i64.wrap P) = false := by rw [hW0]; exact decide_eq_false (by omega)
  have hW2 : (0 ≤ IntKind.i64.wrap P) = False := by rw [hW0]; simp; omega
  clear hW0
  have hent := ent4 w #[Value.bool s, Value.slice a n c] #[Value.bool t, Value.slice b m d] #[Value.bool false, Value.slice none 0 0] #[Value.bool false, Value.slice none 0 0] 25 25 25 25
  go_enter Try.func50, Try.ntmps50
  go_wp2_with fail
  generalize ((((w.alloc (.cells #[Value.bool s, Value.slice a n c] 25)).alloc (.cells #[Value.bool t, Value.slice b m d] 25)).alloc (.cells #[Value.bool false, Value.slice none 0 0] 25)).alloc (.cells #[Value.bool false, Value.slice none 0 0] 25)) = W0 at hent ⊢
  obtain ⟨Xa_0, Xb_0, R0_0, R1_0, hbel0, hsz0⟩ := hent
  have Ra_1 := ha.below hbel0
  have Rb_2 := hb.below hbel0
  have cXa0_2 : _ = some (Value.bool s) := Xa_0.cell 0
  have cXa1_2 : _ = some (Value.slice a n c) := Xa_0.cell 1
  have cXb0_2 : _ = some (Value.bool t) := Xb_0.cell 0
  have cXb1_2 : _ = some (Value.slice b m d) := Xb_0.cell 1
  have cR00_2 : _ = some (Value.bool false) := R0_0.cell 0
  have fR00_2 := R0_0.free 0
  have cR01_2 : _ = some (Value.slice none 0 0) := R0_0.cell 1
  have fR01_2 := R0_0.free 1
  have cR10_2 : _ = some (Value.bool false) := R1_0.cell 0
  have fR10_2 := R1_0.free 0
  have cR11_2 : _ = some (Value.slice none 0 0) := R1_0.cell 1
  have fR11_2 := R1_0.free 1
  go_wp2_with fail
  refine (HQ.out _ Ra_1 Rb_2).mono ?_
  rintro e w1 ⟨p, pn, pc, u, un, uc, rfl, hO1, hO2, hDf, hB⟩
  clear cXa0_2 cXa1_2 cXb0_2 cXb1_2 cR00_2 fR00_2 cR01_2 fR01_2 cR10_2 fR10_2 cR11_2 fR11_2
  have hstep : Below W0.heap.size W0 w1 := (by first | exact hB | exact below_drew hB)
  have Xa_3 := Xa_0.next hstep
  have Xb_4 := Xb_0.next hstep
  have R0_5 := R0_0.next hstep
  have R1_6 := R1_0.next hstep
  have Ra_7 := Ra_1.below hstep
  have Rb_8 := Rb_2.below hstep
  have hbel9 := hbel0.next hstep
  have hle9 := hbel9.size
  have hls9 := hstep.size
  clear Xa_0 Xb_0 R0_0 R1_0 Ra_1 Rb_2 hbel0 hstep
  have cXa0_9 : _ = some (Value.bool s) := Xa_3.cell 0
  have cXa1_9 : _ = some (Value.slice a n c) := Xa_3.cell 1
  have cXb0_9 : _ = some (Value.bool t) := Xb_4.cell 0
  have cXb1_9 : _ = some (Value.slice b m d) := Xb_4.cell 1
  have cR00_9 : _ = some (Value.bool false) := R0_5.cell 0
  have fR00_9 := R0_5.free 0
  have cR01_9 : _ = some (Value.slice none 0 0) := R0_5.cell 1
  have fR01_9 := R0_5.free 1
  have cR10_9 : _ = some (Value.bool false) := R1_6.cell 0
  have fR10_9 := R1_6.free 0
  have cR11_9 : _ = some (Value.slice none 0 0) := R1_6.cell 1
  have fR11_9 := R1_6.free 1
  have hpn : pn ≤ 4194304 := by have := len_le (l := la) hO1.len hqz.out; omega
  have hun : un ≤ 4194304 := by have := len_le (l := la) hO2.len hrz.out; omega
  have Oq_10 := hO1
  have Or_11 := hO2
  clear hO1 hO2 hB
  have hbx := blk_new' w1 #[Value.bool (decide (q < 0)), Value.slice p pn pc] 25 (g := w1.heap.size) (by simp)
  have hbB := (Below.refl w1.heap.size w1).alloc (Nat.le_refl _) (.cells #[Value.bool (decide (q < 0)), Value.slice p pn pc] 25)
  have hbg := hbx.lt
  clear cXa0_9 cXa1_9 cXb0_9 cXb1_9 cR00_9 fR00_9 cR01_9 fR01_9 cR10_9 fR10_9 cR11_9 fR11_9
  have hstep : Below w1.heap.size w1 (w1.alloc (.cells #[Value.bool (decide (q < 0)), Value.slice p pn pc] 25)) := (by first | exact hbB | exact below_drew hbB)
  have Xa_12 := Xa_3.next hstep
  have Xb_13 := Xb_4.next hstep
  have R0_14 := R0_5.next hstep
  have R1_15 := R1_6.next hstep
  have Ra_16 := Ra_7.below hstep
  have Rb_17 := Rb_8.below hstep
  have Oq_18 := Oq_10.below hstep
  have Or_19 := Or_11.below hstep
  have hbel20 := hbel9.next hstep
  have hle20 := hbel20.size
  have hls20 := hstep.size
  clear Xa_3 Xb_4 R0_5 R1_6 Ra_7 Rb_8 Oq_10 Or_11 hbel9 hstep
  have cXa0_20 : _ = some (Value.bool s) := Xa_12.cell 0
  have cXa1_20 : _ = some (Value.slice a n c) := Xa_12.cell 1
  have cXb0_20 : _ = some (Value.bool t) := Xb_13.cell 0
  have cXb1_20 : _ = some (Value.slice b m d) := Xb_13.cell 1
  have cR00_20 : _ = some (Value.bool false) := R0_14.cell 0
  have fR00_20 := R0_14.free 0
  have cR01_20 : _ = some (Value.slice none 0 0) := R0_14.cell 1
  have fR01_20 := R0_14.free 1
  have cR10_20 : _ = some (Value.bool false) := R1_15.cell 0
  have fR10_20 := R1_15.free 0
  have cR11_20 : _ = some (Value.slice none 0 0) := R1_15.cell 1
  have fR11_20 := R1_15.free 1
  have Xq_21 := hbx
  have cXq0_21 : _ = some (Value.bool (decide (q < 0))) := Xq_21.cell 0
  have cXq1_21 : _ = some (Value.slice p pn pc) := Xq_21.cell 1
  clear hbx hbB
  have hbx := blk_new' (w1.alloc (.cells #[Value.bool (decide (q < 0)), Value.slice p pn pc] 25)) #[Value.bool (decide (r < 0)), Value.slice u un uc] 25 (g := w1.heap.size + 1) (by simp)
  have hbB := (Below.refl (w1.alloc (.cells #[Value.bool (decide (q < 0)), Value.slice p pn pc] 25)).heap.size (w1.alloc (.cells #[Value.bool (decide (q < 0)), Value.slice p pn pc] 25))).alloc (Nat.le_refl _) (.cells #[Value.bool (decide (r < 0)), Value.slice u un uc] 25)
  have hbg := hbx.lt
  clear cXa0_20 cXa1_20 cXb0_20 cXb1_20 cR00_20 fR00_20 cR01_20 fR01_20 cR10_20 fR10_20 cR11_20 fR11_20 cXq0_21 cXq1_21
  have hstep : Below (w1.alloc (.cells #[Value.bool (decide (q < 0)), Value.slice p pn pc] 25)).heap.size (w1.alloc (.cells #[Value.bool (decide (q < 0)), Value.slice p pn pc] 25)) ((w1.alloc (.cells #[Value.bool (decide (q < 0)), Value.slice p pn pc] 25)).alloc (.cells #[Value.bool (decide (r < 0)), Value.slice u un uc] 25)) := (by first | exact hbB | exact below_drew hbB)
  have Xa_22 := Xa_12.next hstep
  have Xb_23 := Xb_13.next hstep
  have R0_24 := R0_14.next hstep
  have R1_25 := R1_15.next hstep
  have Xq_26 := Xq_21.next hstep
  have Ra_27 := Ra_16.below hstep
  have Rb_28 := Rb_17.below hstep
  have Oq_29 := Oq_18.below hstep
  have Or_30 := Or_19.below hstep
  have hbel31 := hbel20.next hstep
  have hle31 := hbel31.size
  have hls31 := hstep.size
  clear Xa_12 Xb_13 R0_14 R1_15 Xq_21 Ra_16 Rb_17 Oq_18 Or_19 hbel20 hstep
  have cXa0_31 : _ = some (Value.bool s) := Xa_22.cell 0
  have cXa1_31 : _ = some (Value.slice a n c) := Xa_22.cell 1
  have cXb0_31 : _ = some (Value.bool t) := Xb_23.cell 0
  have cXb1_31 : _ = some (Value.slice b m d) := Xb_23.cell 1
  have cR00_31 : _ = some (Value.bool false) := R0_24.cell 0
  have fR00_31 := R0_24.free 0
  have cR01_31 : _ = some (Value.slice none 0 0) := R0_24.cell 1
  have fR01_31 := R0_24.free 1
  have cR10_31 : _ = some (Value.bool false) := R1_25.cell 0
  have fR10_31 := R1_25.free 0
  have cR11_31 : _ = some (Value.slice none 0 0) := R1_25.cell 1
  have fR11_31 := R1_25.free 1
  have cXq0_31 : _ = some (Value.bool (decide (q < 0))) := Xq_26.cell 0
  have cXq1_31 : _ = some (Value.slice p pn pc) := Xq_26.cell 1
  have Xr_32 := hbx
  have cXr0_32 : _ = some (Value.bool (decide (r < 0))) := Xr_32.cell 0
  have cXr1_32 : _ = some (Value.slice u un uc) := Xr_32.cell 1
  clear hbx hbB
  go_wp2_with fail
  generalize ((w1.alloc (.cells #[Value.bool (decide (q < 0)), Value.slice p pn pc] 25)).alloc (.cells #[Value.bool (decide (r < 0)), Value.slice u un uc] 25)) = v2 at *
  go_wp2_with fail
  have KXb0_0 : _ = some (Value.bool t) := Xb_23.cell 0
  have KXb1_0 : _ = some (Value.slice b m d) := Xb_23.cell 1
  have KXr0_0 : _ = some (Value.bool (decide (r < 0))) := Xr_32.cell 0
  have KXr1_0 : _ = some (Value.slice u un uc) := Xr_32.cell 1
  have Xb_h0 := Xb_23
  have Xr_h0 := Xr_32
  have acc0 : Below v2.heap.size v2 v2 := Below.refl _ _
  go_region_held3 (fun w' => w'.cell? ⟨w.heap.size + 1, 0, none⟩ = some (Value.bool t) ∧ w'.cell? ⟨w.heap.size + 1, 1, none⟩ = some (Value.slice b m d) ∧ w'.cell? ⟨w1.heap.size + 1, 0, none⟩ = some (Value.bool (decide (r < 0))) ∧ w'.cell? ⟨w1.heap.size + 1, 1, none⟩ = some (Value.slice u un uc))
    (first | exact ⟨KXb0_0, KXb1_0, KXr0_0, KXr1_0⟩ | exact ⟨KXb0_1, KXb1_1, KXr0_1, KXr1_1⟩ | exact ⟨KXb0_2, KXb1_2, KXr0_2, KXr1_2⟩ | go_keep)
    (first
      | (go_at_call 27; ((with_reducible refine (HS1.out _ _ _ _ (show Rd _ u un uc (lm r.natAbs) from (Or_30.below (by first | exact acc0 | exact (acc0).drew)).rd) (by omega)).mono ?_); (rintro e w4 ⟨rfl, hB⟩; have hst1 : Below v2.heap.size v2 w4 := (by first | exact hB | exact below_drew hB); have acc1 := acc0.next hst1; have Xb_h1 := Xb_h0.next hst1; have Xr_h1 := Xr_h0.next hst1; have KXb0_1 : _ = some (Value.bool t) := Xb_h1.cell 0; have KXb1_1 : _ = some (Value.slice b m d) := Xb_h1.cell 1; have KXr0_1 : _ = some (Value.bool (decide (r < 0))) := Xr_h1.cell 0; have KXr1_1 : _ = some (Value.slice u un uc) := Xr_h1.cell 1)))
      | (go_at_call 27; ((with_reducible refine (HS2.out _ (show Rd _ b m d lb from Rb_28.below (by first | exact acc1 | exact (acc1).drew))).mono ?_); (rintro e w5 ⟨rfl, hB⟩; have hst2 : Below w4.heap.size w4 w5 := (by first | exact hB | exact below_drew hB); have acc2 := acc1.next hst2; have Xb_h2 := Xb_h1.next hst2; have Xr_h2 := Xr_h1.next hst2; have KXb0_2 : _ = some (Value.bool t) := Xb_h2.cell 0; have KXb1_2 : _ = some (Value.slice b m d) := Xb_h2.cell 1; have KXr0_2 : _ = some (Value.bool (decide (r < 0))) := Xr_h2.cell 0; have KXr1_2 : _ = some (Value.slice u un uc) := Xr_h2.cell 1))))
  clear cXa0_31 cXa1_31 cXb0_31 cXb1_31 cR00_31 fR00_31 cR01_31 fR01_31 cR10_31 fR10_31 cR11_31 fR11_31 cXq0_31 cXq1_31 cXr0_32 cXr1_32
  have hstep : Below v2.heap.size v2 w5 := (by first | exact acc2 | exact below_drew acc2)
  have Xa_33 := Xa_22.next hstep
  have Xb_34 := Xb_23.next hstep
  have R0_35 := R0_24.next hstep
  have R1_36 := R1_25.next hstep
  have Xq_37 := Xq_26.next hstep
  have Xr_38 := Xr_32.next hstep
  have Ra_39 := Ra_27.below hstep
  have Rb_40 := Rb_28.below hstep
  have Oq_41 := Oq_29.below hstep
  have Or_42 := Or_30.below hstep
  have hbel43 := hbel31.next hstep
  have hle43 := hbel43.size
  have hls43 := hstep.size
  clear Xa_22 Xb_23 R0_24 R1_25 Xq_26 Xr_32 Ra_27 Rb_28 Oq_29 Or_30 hbel31 hstep
  have cXa0_43 : _ = some (Value.bool s) := Xa_33.cell 0
  have cXa1_43 : _ = some (Value.slice a n c) := Xa_33.cell 1
  have cXb0_43 : _ = some (Value.bool t) := Xb_34.cell 0
  have cXb1_43 : _ = some (Value.slice b m d) := Xb_34.cell 1
  have cR00_43 : _ = some (Value.bool false) := R0_35.cell 0
  have fR00_43 := R0_35.free 0
  have cR01_43 : _ = some (Value.slice none 0 0) := R0_35.cell 1
  have fR01_43 := R0_35.free 1
  have cR10_43 : _ = some (Value.bool false) := R1_36.cell 0
  have fR10_43 := R1_36.free 0
  have cR11_43 : _ = some (Value.slice none 0 0) := R1_36.cell 1
  have fR11_43 := R1_36.free 1
  have cXq0_43 : _ = some (Value.bool (decide (q < 0))) := Xq_37.cell 0
  have cXq1_43 : _ = some (Value.slice p pn pc) := Xq_37.cell 1
  have cXr0_43 : _ = some (Value.bool (decide (r < 0))) := Xr_38.cell 0
  have cXr1_43 : _ = some (Value.slice u un uc) := Xr_38.cell 1
  clear acc0 acc1 acc2 hst1 hst2 KXb0_0 KXb1_0 KXr0_0 KXr1_0 KXb0_1 KXb1_1 KXr0_1 KXr1_1 KXb0_2 KXb1_2 KXr0_2 KXr1_2 Xb_h0 Xb_h1 Xb_h2 Xr_h0 Xr_h1 Xr_h2
  have HSU := hid (fun W (x : Option Addr) (i j : Nat) (hx : Rd W x i j (lm q.natAbs)) (hi : i ≤ 4194304) (y : Option Addr) (k l : Nat) (hy : Rd W y k l (lm 1)) (hk : k ≤ 4194304) => zsub_any (decide (q < 0)) false hx hi hy hk)
  simp only [val_lm, zv_self, show zv false 1 = 1 from rfl] at HSU
  have HAD := hid (fun W (x : Option Addr) (i j : Nat) (hx : Rd W x i j (lm r.natAbs)) (hi : i ≤ 4194304) (hb : Rd W b m d lb) => zadd_any (decide (r < 0)) t hx hb hi hm)
  simp only [val_lm, zv_self] at HAD
  have hl1 : (lm (1 : Int).natAbs).length ≤ 1 := length_lm_le (by decide)
  go_wp2_with fail
  have KXq0_0 : _ = some (Value.bool (decide (q < 0))) := Xq_37.cell 0
  have KXq1_0 : _ = some (Value.slice p pn pc) := Xq_37.cell 1
  have KXr0_0 : _ = some (Value.bool (decide (r < 0))) := Xr_38.cell 0
  have KXr1_0 : _ = some (Value.slice u un uc) := Xr_38.cell 1
  have KXb0_0 : _ = some (Value.bool t) := Xb_34.cell 0
  have KXb1_0 : _ = some (Value.slice b m d) := Xb_34.cell 1
  have Xq_h0 := Xq_37
  have Xr_h0 := Xr_38
  have Xb_h0 := Xb_34
  have acc0 : Below w5.heap.size w5 w5 := Below.refl _ _
  go_region_held3 (fun w' => w'.cell? ⟨w1.heap.size, 0, none⟩ = some (Value.bool (decide (q < 0))) ∧ w'.cell? ⟨w1.heap.size, 1, none⟩ = some (Value.slice p pn pc) ∧ w'.cell? ⟨w1.heap.size + 1, 0, none⟩ = some (Value.bool (decide (r < 0))) ∧ w'.cell? ⟨w1.heap.size + 1, 1, none⟩ = some (Value.slice u un uc) ∧ w'.cell? ⟨w.heap.size + 1, 0, none⟩ = some (Value.bool t) ∧ w'.cell? ⟨w.heap.size + 1, 1, none⟩ = some (Value.slice b m d))
    (first | exact ⟨KXq0_0, KXq1_0, KXr0_0, KXr1_0, KXb0_0, KXb1_0⟩ | exact ⟨KXq0_1, KXq1_1, KXr0_1, KXr1_1, KXb0_1, KXb1_1⟩ | exact ⟨KXq0_2, KXq1_2, KXr0_2, KXr1_2, KXb0_2, KXb1_2⟩ | exact ⟨KXq0_3, KXq1_3, KXr0_3, KXr1_3, KXb0_3, KXb1_3⟩ | exact ⟨(cell_set2 (by omega) _ _).trans (KXq0_3), (cell_set2 (by omega) _ _).trans (KXq1_3), (cell_set2 (by omega) _ _).trans (KXr0_3), (cell_set2 (by omega) _ _).trans (KXr1_3), (cell_set2 (by omega) _ _).trans (KXb0_3), (cell_set2 (by omega) _ _).trans (KXb1_3)⟩ | exact ⟨(cell_set2 (by omega) _ _).trans ((cell_set2 (by omega) _ _).trans (KXq0_3)), (cell_set2 (by omega) _ _).trans ((cell_set2 (by omega) _ _).trans (KXq1_3)), (cell_set2 (by omega) _ _).trans ((cell_set2 (by omega) _ _).trans (KXr0_3)), (cell_set2 (by omega) _ _).trans ((cell_set2 (by omega) _ _).trans (KXr1_3)), (cell_set2 (by omega) _ _).trans ((cell_set2 (by omega) _ _).trans (KXb0_3)), (cell_set2 (by omega) _ _).trans ((cell_set2 (by omega) _ _).trans (KXb1_3))⟩ | go_keep)
    (first
      | (go_at_call 29; ((with_reducible refine (zofi_any 1 (by omega) (by omega)).mono ?_); (rintro e w6 ⟨o, on, oc, rfl, hO3, hB⟩; have hst1 : Below w5.heap.size w5 w6 := (by first | exact hB | exact below_drew hB); have acc1 := acc0.next hst1; have Xq_h1 := Xq_h0.next hst1; have Xr_h1 := Xr_h0.next hst1; have Xb_h1 := Xb_h0.next hst1; have KXq0_1 : _ = some (Value.bool (decide (q < 0))) := Xq_h1.cell 0; have KXq1_1 : _ = some (Value.slice p pn pc) := Xq_h1.cell 1; have KXr0_1 : _ = some (Value.bool (decide (r < 0))) := Xr_h1.cell 0; have KXr1_1 : _ = some (Value.slice u un uc) := Xr_h1.cell 1; have KXb0_1 : _ = some (Value.bool t) := Xb_h1.cell 0; have KXb1_1 : _ = some (Value.slice b m d) := Xb_h1.cell 1; have R0_h1 := R0_35.next hst1; have R1_h1 := R1_36.next hst1; have hon : on ≤ 4194304 := by have := hO3.len; omega)))
      | (go_at_call 46; ((with_reducible refine (HSU.out _ _ _ _ (show Rd _ p pn pc (lm q.natAbs) from (Oq_41.below (by first | exact acc1 | exact (acc1).drew)).rd) hpn _ _ _ (show Rd _ o on oc (lm 1) from hO3.rd) hon).mono ?_); (rintro e w7 ⟨x, xn, xc, rfl, hO4, hB⟩; have hst2 : Below w6.heap.size w6 w7 := (by first | exact hB | exact below_drew hB); have acc2 := acc1.next hst2; have Xq_h2 := Xq_h1.next hst2; have Xr_h2 := Xr_h1.next hst2; have Xb_h2 := Xb_h1.next hst2; have KXq0_2 : _ = some (Value.bool (decide (q < 0))) := Xq_h2.cell 0; have KXq1_2 : _ = some (Value.slice p pn pc) := Xq_h2.cell 1; have KXr0_2 : _ = some (Value.bool (decide (r < 0))) := Xr_h2.cell 0; have KXr1_2 : _ = some (Value.slice u un uc) := Xr_h2.cell 1; have KXb0_2 : _ = some (Value.bool t) := Xb_h2.cell 0; have KXb1_2 : _ = some (Value.slice b m d) := Xb_h2.cell 1; have R0_h2 := R0_h1.next hst2; have R1_h2 := R1_h1.next hst2; have hza1 := acc1.size)))
      | (go_at_call 41; ((with_reducible refine (HAD.out _ _ _ _ (show Rd _ u un uc (lm r.natAbs) from (Or_42.below (by first | exact acc2 | exact (acc2).drew)).rd) hun (show Rd _ b m d lb from Rb_40.below (by first | exact acc2 | exact (acc2).drew))).mono ?_); (rintro e w8 ⟨y, yn, yc, rfl, hO5, hB⟩; have hst3 : Below w7.heap.size w7 w8 := (by first | exact hB | exact below_drew hB); have acc3 := acc2.next hst3; have Xq_h3 := Xq_h2.next hst3; have Xr_h3 := Xr_h2.next hst3; have Xb_h3 := Xb_h2.next hst3; have KXq0_3 : _ = some (Value.bool (decide (q < 0))) := Xq_h3.cell 0; have KXq1_3 : _ = some (Value.slice p pn pc) := Xq_h3.cell 1; have KXr0_3 : _ = some (Value.bool (decide (r < 0))) := Xr_h3.cell 0; have KXr1_3 : _ = some (Value.slice u un uc) := Xr_h3.cell 1; have KXb0_3 : _ = some (Value.bool t) := Xb_h3.cell 0; have KXb1_3 : _ = some (Value.slice b m d) := Xb_h3.cell 1; have R0_h3 := R0_h2.next hst3; have LR00 : _ = some (Value.bool false) := R0_h3.cell 0; have MR00 := R0_h3.free 0; have LR01 : _ = some (Value.slice none 0 0) := R0_h3.cell 1; have MR01 := R0_h3.free 1; have R1_h3 := R1_h2.next hst3; have LR10 : _ = some (Value.bool false) := R1_h3.cell 0; have MR10 := R1_h3.free 0; have LR11 : _ = some (Value.slice none 0 0) := R1_h3.cell 1; have MR11 := R1_h3.free 1; have hza2 := acc2.size; have hO4' := hO4.below hst3; have hd45 := diff_of hO4 hO5 (Nat.le_refl _)))))
  clear cXa0_43 cXa1_43 cXb0_43 cXb1_43 cR00_43 fR00_43 cR01_43 fR01_43 cR10_43 fR10_43 cR11_43 fR11_43 cXq0_43 cXq1_43 cXr0_43 cXr1_43
  have hstep : Below w5.heap.size w5 w8 := (by first | exact acc3 | exact below_drew acc3)
  have Xa_44 := Xa_33.next hstep
  have Xb_45 := Xb_34.next hstep
  have R0_46 := R0_35.next hstep
  have R1_47 := R1_36.next hstep
  have Xq_48 := Xq_37.next hstep
  have Xr_49 := Xr_38.next hstep
  have Ra_50 := Ra_39.below hstep
  have Rb_51 := Rb_40.below hstep
  have Oq_52 := Oq_41.below hstep
  have Or_53 := Or_42.below hstep
  have hbel54 := hbel43.next hstep
  have hle54 := hbel54.size
  have hls54 := hstep.size
  clear Xa_33 Xb_34 R0_35 R1_36 Xq_37 Xr_38 Ra_39 Rb_40 Oq_41 Or_42 hbel43 hstep
  have cXa0_54 : _ = some (Value.bool s) := Xa_44.cell 0
  have cXa1_54 : _ = some (Value.slice a n c) := Xa_44.cell 1
  have cXb0_54 : _ = some (Value.bool t) := Xb_45.cell 0
  have cXb1_54 : _ = some (Value.slice b m d) := Xb_45.cell 1
  have cR00_54 : _ = some (Value.bool false) := R0_46.cell 0
  have fR00_54 := R0_46.free 0
  have cR01_54 : _ = some (Value.slice none 0 0) := R0_46.cell 1
  have fR01_54 := R0_46.free 1
  have cR10_54 : _ = some (Value.bool false) := R1_47.cell 0
  have fR10_54 := R1_47.free 0
  have cR11_54 : _ = some (Value.slice none 0 0) := R1_47.cell 1
  have fR11_54 := R1_47.free 1
  have cXq0_54 : _ = some (Value.bool (decide (q < 0))) := Xq_48.cell 0
  have cXq1_54 : _ = some (Value.slice p pn pc) := Xq_48.cell 1
  have cXr0_54 : _ = some (Value.bool (decide (r < 0))) := Xr_49.cell 0
  have cXr1_54 : _ = some (Value.slice u un uc) := Xr_49.cell 1
  clear acc0 acc1 acc2 acc3 hst1 hst2 hst3 KXq0_0 KXq1_0 KXr0_0 KXr1_0 KXb0_0 KXb1_0 KXq0_1 KXq1_1 KXr0_1 KXr1_1 KXb0_1 KXb1_1 KXq0_2 KXq1_2 KXr0_2 KXr1_2 KXb0_2 KXb1_2 KXq0_3 KXq1_3 KXr0_3 KXr1_3 KXb0_3 KXb1_3 Xq_h0 Xq_h1 Xq_h2 Xq_h3 Xr_h0 Xr_h1 Xr_h2 Xr_h3 Xb_h0 Xb_h1 Xb_h2 Xb_h3
  clear R0_h1 R0_h2 R0_h3 R1_h1 R1_h2 R1_h3 LR00 MR00 LR01 MR01 LR10 MR10 LR11 MR11
  go_wp2
  refine bodyPost_ret (v := .tuple #[.agg #[.bool (decide (q - 1 < 0)), .slice x xn xc], .agg #[.bool (decide (r + zv t (val lb) < 0)), .slice y yn yc], .int .i64 0]) (by simp [results, Try.results50, go_sem, cR00_54, cR01_54, cR10_54, cR11_54]) rfl ?_
  first
    | exact retzz_set (B := W0.heap.size) (g := w.heap.size + 1 + 1) (g' := w.heap.size + 1 + 1 + 1) (hO4'.mono (by omega)) (hO5.mono (by omega)) hd45 (by first | exact hbel54 | exact hbel54.drewN' _ | exact ⟨hbel54.os, hbel54.tape, hbel54.output, hbel54.size, hbel54.block⟩) (by omega) (by omega) (by omega) (by omega)
    | exact RetZZ.drew (retzz_set (B := W0.heap.size) (g := w.heap.size + 1 + 1) (g' := w.heap.size + 1 + 1 + 1) (hO4'.mono (by omega)) (hO5.mono (by omega)) hd45 (by first | exact hbel54 | exact hbel54.drewN' _ | exact ⟨hbel54.os, hbel54.tape, hbel54.output, hbel54.size, hbel54.block⟩) (by omega) (by omega) (by omega) (by omega))

theorem zfloor_any {w : World} {a : Option Addr} {n c : Nat} {la : List Nat} {b : Option Addr} {m d : Nat} {lb : List Nat} (s t : Bool) (ha : Rd w a n c la) (hn : n ≤ 4194304) (hb : Rd w b m d lb) (hm : m ≤ 4194304) :
    Calls Try.prog 50 #[.agg #[.bool s, .slice a n c], .agg #[.bool t, .slice b m d]] w
      (RetZZ w (if dvE (val lb) = 0 ∧ sgn (zv s (dvR (val la) (val lb))) * sgn (zv t (val lb)) < 0 then zv (!(s == t)) (val la / val lb) - 1 else zv (!(s == t)) (val la / val lb))
        (if dvE (val lb) = 0 ∧ sgn (zv s (dvR (val la) (val lb))) * sgn (zv t (val lb)) < 0 then zv s (dvR (val la) (val lb)) + zv t (val lb) else zv s (dvR (val la) (val lb))) (dvE (val lb))) := by
  by_cases he : dvE (val lb) = 0
  · by_cases hc : sgn (zv s (dvR (val la) (val lb))) * sgn (zv t (val lb)) < 0
    · simp only [he, hc, and_self, if_true]; exact zfloor_down s t ha hn hb hm rfl rfl he hc
    · simp only [hc, and_false, if_false]; rw [he]; exact zfloor_stay s t ha hn hb hm rfl rfl he (by omega)
  · have he' : dvE (val lb) = 11 := by unfold dvE at he ⊢; split at he <;> simp_all
    simp only [he, false_and, if_false]; rw [he']; exact zfloor_err s t ha hn hb hm rfl rfl he'


end Go.Proofs.Ytokkfppchfmjcaa
