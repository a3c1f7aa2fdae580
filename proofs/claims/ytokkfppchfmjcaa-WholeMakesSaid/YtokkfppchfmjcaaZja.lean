/- WALKS OF WHOLE NUMBERS, 10: the reference's quotients rounded down. -/
import Derived.Test.YtokkfppchfmjcaaZi
import Derived.Test.YtokkfppchfmjcaaAw
import Derived.Deep.Cut
import Derived.Deep.CutRange
namespace Go.Proofs.Ytokkfppchfmjcaa
set_option linter.unusedVariables false
set_option linter.unusedSimpArgs false
open Go.ChangeShapes Go.WideShapes Go.ChangeAt Go.RowKit Go.NatP

set_option maxRecDepth 100000 in
set_option maxHeartbeats 4000000 in
theorem rzfloor_err {w : World} {a : Option Addr} {n c : Nat} {la : List Nat} {b : Option Addr} {m d : Nat} {lb : List Nat} (s t : Bool) (ha : Rd w a n c la) (hn : n ≤ 4194304) (hb : Rd w b m d lb) (hm : m ≤ 4194304) {q r : Int} (hq : zv (!(s == t)) (val la / val lb) = q) (hr : zv s (dvR (val la) (val lb)) = r) (he : dvE (val lb) = 11) :
    Calls Try.prog 60 #[.agg #[.bool s, .slice a n c], .agg #[.bool t, .slice b m d]] w (RetZZ w q r 11) := by
  have HQ := hid (fun W (ha : Rd W a n c la) (hb : Rd W b m d lb) => rzquo_any s t ha hn hb hm)
  rw [hq, hr, he] at HQ
  have hrz : Hid (Sz r.natAbs n) := by show Sz _ _; rw [← hr, zv_abs]; exact ha.szv.mono (dvR_le _ _) (Nat.le_refl _)
  have hqz : Hid (Sz q.natAbs n) := by show Sz _ _; rw [← hq, zv_abs]; exact ha.szv.mono (Nat.div_le_self _ _) (Nat.le_refl _)
  clear hq hr he
  have hent := ent4 w #[Value.bool s, Value.slice a n c] #[Value.bool t, Value.slice b m d] #[Value.bool false, Value.slice none 0 0] #[Value.bool false, Value.slice none 0 0] 25 25 25 25
  go_enter Try.func60, Try.ntmps60
  go_wp2_with fail
  generalize ((((w.alloc (.cells #[Value.bool s, Value.slice a n c] 25)).alloc (.cells #[Value.bool t, Value.slice b m d] 25)).alloc (.cells #[Value.bool false, Value.slice none 0 0] 25)).alloc (.cells #[Value.bool false, Value.slice none 0 0] 25)) = W0 at hent ⊢
  obtain ⟨Xa_0, Xb_0, R0_0, R1_0, hbel0, hsz0⟩ := hent
  have Ra_1 := ha.below hbel0
  have Rb_2 := hb.below hbel0
  have cXa0_2 : _ = some (Value.bool s) := Xa_0.cell 0
  have cXa1_2 : _ = some (Value.slice a n c) := Xa_0.cell 1
  have cXb0_2 : _ = some (Value.bool t) := Xb_0.cell 0
  have cXb1_2 : _ = some (Value.slice b m d) := Xb_0.cell 1
  have cR00_2 : _ = some (Value.bool false) := R0_0.cell 0
  have fR00_2 := R0_0.free 0
  have cR01_2 : _ = some (Value.slice none 0 0) := R0_0.cell 1
  have fR01_2 := R0_0.free 1
  have cR10_2 : _ = some (Value.bool false) := R1_0.cell 0
  have fR10_2 := R1_0.free 0
  have cR11_2 : _ = some (Value.slice none 0 0) := R1_0.cell 1
  have fR11_2 := R1_0.free 1
  go_wp2_with fail
  refine (HQ.out _ Ra_1 Rb_2).mono ?_
  rintro e w1 ⟨p, pn, pc, u, un, uc, rfl, hO1, hO2, hDf, hB⟩
  clear cXa0_2 cXa1_2 cXb0_2 cXb1_2 cR00_2 fR00_2 cR01_2 fR01_2 cR10_2 fR10_2 cR11_2 fR11_2
  have hstep : Below W0.heap.size W0 w1 := (by first | exact hB | exact below_drew hB)
  have Xa_3 := Xa_0.next hstep
  have Xb_4 := Xb_0.next hstep
  have R0_5 := R0_0.next hstep
  have R1_6 := R1_0.next hstep
  have Ra_7 := Ra_1.below hstep
  have Rb_8 := Rb_2.below hstep
  have hbel9 := hbel0.next hstep
  have hle9 := hbel9.size
  have hls9 := hstep.size
  clear Xa_0 Xb_0 R0_0 R1_0 Ra_1 Rb_2 hbel0 hstep
  have cXa0_9 : _ = some (Value.bool s) := Xa_3.cell 0
  have cXa1_9 : _ = some (Value.slice a n c) := Xa_3.cell 1
  have cXb0_9 : _ = some (Value.bool t) := Xb_4.cell 0
  have cXb1_9 : _ = some (Value.slice b m d) := Xb_4.cell 1
  have cR00_9 : _ = some (Value.bool false) := R0_5.cell 0
  have fR00_9 := R0_5.free 0
  have cR01_9 : _ = some (Value.slice none 0 0) := R0_5.cell 1
  have fR01_9 := R0_5.free 1
  have cR10_9 : _ = some (Value.bool false) := R1_6.cell 0
  have fR10_9 := R1_6.free 0
  have cR11_9 : _ = some (Value.slice none 0 0) := R1_6.cell 1
  have fR11_9 := R1_6.free 1
  have hpn : pn ≤ 4194304 := by have := len_le (l := la) hO1.len hqz.out; omega
  have hun : un ≤ 4194304 := by have := len_le (l := la) hO2.len hrz.out; omega
  have Oq_10 := hO1
  have Or_11 := hO2
  have ltq := hO1.ltOf
  have ltr := hO2.ltOf
  clear hO1 hO2 hB
  have hbx := blk_new' w1 #[Value.bool (decide (q < 0)), Value.slice p pn pc] 25 (g := w1.heap.size) (by simp)
  have hbB := (Below.refl w1.heap.size w1).alloc (Nat.le_refl _) (.cells #[Value.bool (decide (q < 0)), Value.slice p pn pc] 25)
  have hbg := hbx.lt
  clear cXa0_9 cXa1_9 cXb0_9 cXb1_9 cR00_9 fR00_9 cR01_9 fR01_9 cR10_9 fR10_9 cR11_9 fR11_9
  have hstep : Below w1.heap.size w1 (w1.alloc (.cells #[Value.bool (decide (q < 0)), Value.slice p pn pc] 25)) := (by first | exact hbB | exact below_drew hbB)
  have Xa_12 := Xa_3.next hstep
  have Xb_13 := Xb_4.next hstep
  have R0_14 := R0_5.next hstep
  have R1_15 := R1_6.next hstep
  have Ra_16 := Ra_7.below hstep
  have Rb_17 := Rb_8.below hstep
  have Oq_18 := Oq_10.below hstep
  have Or_19 := Or_11.below hstep
  have hbel20 := hbel9.next hstep
  have hle20 := hbel20.size
  have hls20 := hstep.size
  clear Xa_3 Xb_4 R0_5 R1_6 Ra_7 Rb_8 Oq_10 Or_11 hbel9 hstep
  have cXa0_20 : _ = some (Value.bool s) := Xa_12.cell 0
  have cXa1_20 : _ = some (Value.slice a n c) := Xa_12.cell 1
  have cXb0_20 : _ = some (Value.bool t) := Xb_13.cell 0
  have cXb1_20 : _ = some (Value.slice b m d) := Xb_13.cell 1
  have cR00_20 : _ = some (Value.bool false) := R0_14.cell 0
  have fR00_20 := R0_14.free 0
  have cR01_20 : _ = some (Value.slice none 0 0) := R0_14.cell 1
  have fR01_20 := R0_14.free 1
  have cR10_20 : _ = some (Value.bool false) := R1_15.cell 0
  have fR10_20 := R1_15.free 0
  have cR11_20 : _ = some (Value.slice none 0 0) := R1_15.cell 1
  have fR11_20 := R1_15.free 1
  have Xq_21 := hbx
  have cXq0_21 : _ = some (Value.bool (decide (q < 0))) := Xq_21.cell 0
  have fXq0_21 := Xq_21.free 0
  have cXq1_21 : _ = some (Value.slice p pn pc) := Xq_21.cell 1
  have fXq1_21 := Xq_21.free 1
  clear hbx hbB
  have hbx := blk_new' (w1.alloc (.cells #[Value.bool (decide (q < 0)), Value.slice p pn pc] 25)) #[Value.bool (decide (r < 0)), Value.slice u un uc] 25 (g := w1.heap.size + 1) (by simp)
  have hbB := (Below.refl (w1.alloc (.cells #[Value.bool (decide (q < 0)), Value.slice p pn pc] 25)).heap.size (w1.alloc (.cells #[Value.bool (decide (q < 0)), Value.slice p pn pc] 25))).alloc (Nat.le_refl _) (.cells #[Value.bool (decide (r < 0)), Value.slice u un uc] 25)
  have hbg := hbx.lt
  clear cXa0_20 cXa1_20 cXb0_20 cXb1_20 cR00_20 fR00_20 cR01_20 fR01_20 cR10_20 fR10_20 cR11_20 fR11_20 cXq0_21 fXq0_21 cXq1_21 fXq1_21
  have hstep : Below (w1.alloc (.cells #[Value.bool (decide (q < 0)), Value.slice p pn pc] 25)).heap.size (w1.alloc (.cells #[Value.bool (decide (q < 0)), Value.slice p pn pc] 25)) ((w1.alloc (.cells #[Value.bool (decide (q < 0)), Value.slice p pn pc] 25)).alloc (.cells #[Value.bool (decide (r < 0)), Value.slice u un uc] 25)) := (by first | exact hbB | exact below_drew hbB)
  have Xa_22 := Xa_12.next hstep
  have Xb_23 := Xb_13.next hstep
  have R0_24 := R0_14.next hstep
  have R1_25 := R1_15.next hstep
  have Xq_26 := Xq_21.next hstep
  have Ra_27 := Ra_16.below hstep
  have Rb_28 := Rb_17.below hstep
  have Oq_29 := Oq_18.below hstep
  have Or_30 := Or_19.below hstep
  have hbel31 := hbel20.next hstep
  have hle31 := hbel31.size
  have hls31 := hstep.size
  clear Xa_12 Xb_13 R0_14 R1_15 Xq_21 Ra_16 Rb_17 Oq_18 Or_19 hbel20 hstep
  have cXa0_31 : _ = some (Value.bool s) := Xa_22.cell 0
  have cXa1_31 : _ = some (Value.slice a n c) := Xa_22.cell 1
  have cXb0_31 : _ = some (Value.bool t) := Xb_23.cell 0
  have cXb1_31 : _ = some (Value.slice b m d) := Xb_23.cell 1
  have cR00_31 : _ = some (Value.bool false) := R0_24.cell 0
  have fR00_31 := R0_24.free 0
  have cR01_31 : _ = some (Value.slice none 0 0) := R0_24.cell 1
  have fR01_31 := R0_24.free 1
  have cR10_31 : _ = some (Value.bool false) := R1_25.cell 0
  have fR10_31 := R1_25.free 0
  have cR11_31 : _ = some (Value.slice none 0 0) := R1_25.cell 1
  have fR11_31 := R1_25.free 1
  have cXq0_31 : _ = some (Value.bool (decide (q < 0))) := Xq_26.cell 0
  have fXq0_31 := Xq_26.free 0
  have cXq1_31 : _ = some (Value.slice p pn pc) := Xq_26.cell 1
  have fXq1_31 := Xq_26.free 1
  have Xr_32 := hbx
  have cXr0_32 : _ = some (Value.bool (decide (r < 0))) := Xr_32.cell 0
  have fXr0_32 := Xr_32.free 0
  have cXr1_32 : _ = some (Value.slice u un uc) := Xr_32.cell 1
  have fXr1_32 := Xr_32.free 1
  clear hbx hbB
  go_wp2_with fail
  generalize ((w1.alloc (.cells #[Value.bool (decide (q < 0)), Value.slice p pn pc] 25)).alloc (.cells #[Value.bool (decide (r < 0)), Value.slice u un uc] 25)) = v2 at *
  have awOqXq : Aw p (w1.heap.size) := ltq.aw (by omega)
  have awOqXr : Aw p (w1.heap.size + 1) := ltq.aw (by omega)
  have awOrXq : Aw u (w1.heap.size) := ltr.aw (by omega)
  have awOrXr : Aw u (w1.heap.size + 1) := ltr.aw (by omega)
  go_wp2_with fail
  have KXq0_0 : _ = some (Value.bool (decide (q < 0))) := Xq_26.cell 0
  have KXq1_0 : _ = some (Value.slice p pn pc) := Xq_26.cell 1
  have KXr0_0 : _ = some (Value.bool (decide (r < 0))) := Xr_32.cell 0
  have KXr1_0 : _ = some (Value.slice u un uc) := Xr_32.cell 1
  have Xq_h0 := Xq_26
  have Xr_h0 := Xr_32
  have acc0 : Below v2.heap.size v2 v2 := Below.refl _ _
  go_region_held3 (fun w' => w'.cell? ⟨w1.heap.size, 0, none⟩ = some (Value.bool (decide (q < 0))) ∧ w'.cell? ⟨w1.heap.size, 1, none⟩ = some (Value.slice p pn pc) ∧ w'.cell? ⟨w1.heap.size + 1, 0, none⟩ = some (Value.bool (decide (r < 0))) ∧ w'.cell? ⟨w1.heap.size + 1, 1, none⟩ = some (Value.slice u un uc))
    (first | exact ⟨KXq0_0, KXq1_0, KXr0_0, KXr1_0⟩ | exact ⟨(cell_set2 (by omega) _ _).trans (KXq0_0), (cell_set2 (by omega) _ _).trans (KXq1_0), (cell_set2 (by omega) _ _).trans (KXr0_0), (cell_set2 (by omega) _ _).trans (KXr1_0)⟩ | exact ⟨(cell_set2 (by omega) _ _).trans ((cell_set2 (by omega) _ _).trans (KXq0_0)), (cell_set2 (by omega) _ _).trans ((cell_set2 (by omega) _ _).trans (KXq1_0)), (cell_set2 (by omega) _ _).trans ((cell_set2 (by omega) _ _).trans (KXr0_0)), (cell_set2 (by omega) _ _).trans ((cell_set2 (by omega) _ _).trans (KXr1_0))⟩ | go_keep)
    (fail)
  clear acc0 Xq_h0 Xr_h0 KXq0_0 KXq1_0 KXr0_0 KXr1_0
  go_wp2
  refine bodyPost_ret (v := .tuple #[.agg #[.bool (decide (q < 0)), .slice p pn pc], .agg #[.bool (decide (r < 0)), .slice u un uc], .int .i64 11]) (by simp [results, Try.results60, go_sem, cR00_31, cR01_31, cR10_31, cR11_31]) rfl ?_
  first
    | exact retzz_set (B := W0.heap.size) (g := w.heap.size + 1 + 1) (g' := w.heap.size + 1 + 1 + 1) Oq_29 Or_30 hDf (by first | exact hbel31 | exact hbel31.drewN' _ | exact ⟨hbel31.os, hbel31.tape, hbel31.output, hbel31.size, hbel31.block⟩) (by omega) (by omega) (by omega) (by omega)
    | exact RetZZ.drew (retzz_set (B := W0.heap.size) (g := w.heap.size + 1 + 1) (g' := w.heap.size + 1 + 1 + 1) Oq_29 Or_30 hDf (by first | exact hbel31 | exact hbel31.drewN' _ | exact ⟨hbel31.os, hbel31.tape, hbel31.output, hbel31.size, hbel31.block⟩) (by omega) (by omega) (by omega) (by omega))

set_option maxRecDepth 100000 in
set_option maxHeartbeats 4000000 in
theorem rzfloor_stay0 {w : World} {a : Option Addr} {n c : Nat} {la : List Nat} {b : Option Addr} {m d : Nat} {lb : List Nat} (s t : Bool) (ha : Rd w a n c la) (hn : n ≤ 4194304) (hb : Rd w b m d lb) (hm : m ≤ 4194304) {q r : Int} (hq : zv (!(s == t)) (val la / val lb) = q) (hr : zv s (dvR (val la) (val lb)) = r) (he : dvE (val lb) = 0) (hc : sgn r = 0) :
    Calls Try.prog 60 #[.agg #[.bool s, .slice a n c], .agg #[.bool t, .slice b m d]] w (RetZZ w q r 0) := by
  have HQ := hid (fun W (ha : Rd W a n c la) (hb : Rd W b m d lb) => rzquo_any s t ha hn hb hm)
  rw [hq, hr, he] at HQ
  have hrz : Hid (Sz r.natAbs n) := by show Sz _ _; rw [← hr, zv_abs]; exact ha.szv.mono (dvR_le _ _) (Nat.le_refl _)
  have hqz : Hid (Sz q.natAbs n) := by show Sz _ _; rw [← hq, zv_abs]; exact ha.szv.mono (Nat.div_le_self _ _) (Nat.le_refl _)
  clear hq hr he
  have HS1 := hid (fun W (x : Option Addr) (i j : Nat) (h : Rd W x i j (lm r.natAbs)) (hi : i ≤ 16777216) => rzsign_any (decide (r < 0)) h hi)
  simp only [val_lm, zv_self] at HS1
  have HS2 := hid (fun W (hb : Rd W b m d lb) => rzsign_any t hb (show m ≤ 16777216 by omega))
  rw [hc] at HS1
  clear hc HS2
  have hent := ent4 w #[Value.bool s, Value.slice a n c] #[Value.bool t, Value.slice b m d] #[Value.bool false, Value.slice none 0 0] #[Value.bool false, Value.slice none 0 0] 25 25 25 25
  go_enter Try.func60, Try.ntmps60
  go_wp2_with fail
  generalize ((((w.alloc (.cells #[Value.bool s, Value.slice a n c] 25)).alloc (.cells #[Value.bool t, Value.slice b m d] 25)).alloc (.cells #[Value.bool false, Value.slice none 0 0] 25)).alloc (.cells #[Value.bool false, Value.slice none 0 0] 25)) = W0 at hent ⊢
  obtain ⟨Xa_0, Xb_0, R0_0, R1_0, hbel0, hsz0⟩ := hent
  have Ra_1 := ha.below hbel0
  have Rb_2 := hb.below hbel0
  have cXa0_2 : _ = some (Value.bool s) := Xa_0.cell 0
  have cXa1_2 : _ = some (Value.slice a n c) := Xa_0.cell 1
  have cXb0_2 : _ = some (Value.bool t) := Xb_0.cell 0
  have cXb1_2 : _ = some (Value.slice b m d) := Xb_0.cell 1
  have cR00_2 : _ = some (Value.bool false) := R0_0.cell 0
  have fR00_2 := R0_0.free 0
  have cR01_2 : _ = some (Value.slice none 0 0) := R0_0.cell 1
  have fR01_2 := R0_0.free 1
  have cR10_2 : _ = some (Value.bool false) := R1_0.cell 0
  have fR10_2 := R1_0.free 0
  have cR11_2 : _ = some (Value.slice none 0 0) := R1_0.cell 1
  have fR11_2 := R1_0.free 1
  go_wp2_with fail
  refine (HQ.out _ Ra_1 Rb_2).mono ?_
  rintro e w1 ⟨p, pn, pc, u, un, uc, rfl, hO1, hO2, hDf, hB⟩
  clear cXa0_2 cXa1_2 cXb0_2 cXb1_2 cR00_2 fR00_2 cR01_2 fR01_2 cR10_2 fR10_2 cR11_2 fR11_2
  have hstep : Below W0.heap.size W0 w1 := (by first | exact hB | exact below_drew hB)
  have Xa_3 := Xa_0.next hstep
  have Xb_4 := Xb_0.next hstep
  have R0_5 := R0_0.next hstep
  have R1_6 := R1_0.next hstep
  have Ra_7 := Ra_1.below hstep
  have Rb_8 := Rb_2.below hstep
  have hbel9 := hbel0.next hstep
  have hle9 := hbel9.size
  have hls9 := hstep.size
  clear Xa_0 Xb_0 R0_0 R1_0 Ra_1 Rb_2 hbel0 hstep
  have cXa0_9 : _ = some (Value.bool s) := Xa_3.cell 0
  have cXa1_9 : _ = some (Value.slice a n c) := Xa_3.cell 1
  have cXb0_9 : _ = some (Value.bool t) := Xb_4.cell 0
  have cXb1_9 : _ = some (Value.slice b m d) := Xb_4.cell 1
  have cR00_9 : _ = some (Value.bool false) := R0_5.cell 0
  have fR00_9 := R0_5.free 0
  have cR01_9 : _ = some (Value.slice none 0 0) := R0_5.cell 1
  have fR01_9 := R0_5.free 1
  have cR10_9 : _ = some (Value.bool false) := R1_6.cell 0
  have fR10_9 := R1_6.free 0
  have cR11_9 : _ = some (Value.slice none 0 0) := R1_6.cell 1
  have fR11_9 := R1_6.free 1
  have hpn : pn ≤ 4194304 := by have := len_le (l := la) hO1.len hqz.out; omega
  have hun : un ≤ 4194304 := by have := len_le (l := la) hO2.len hrz.out; omega
  have Oq_10 := hO1
  have Or_11 := hO2
  have ltq := hO1.ltOf
  have ltr := hO2.ltOf
  clear hO1 hO2 hB
  have hbx := blk_new' w1 #[Value.bool (decide (q < 0)), Value.slice p pn pc] 25 (g := w1.heap.size) (by simp)
  have hbB := (Below.refl w1.heap.size w1).alloc (Nat.le_refl _) (.cells #[Value.bool (decide (q < 0)), Value.slice p pn pc] 25)
  have hbg := hbx.lt
  clear cXa0_9 cXa1_9 cXb0_9 cXb1_9 cR00_9 fR00_9 cR01_9 fR01_9 cR10_9 fR10_9 cR11_9 fR11_9
  have hstep : Below w1.heap.size w1 (w1.alloc (.cells #[Value.bool (decide (q < 0)), Value.slice p pn pc] 25)) := (by first | exact hbB | exact below_drew hbB)
  have Xa_12 := Xa_3.next hstep
  have Xb_13 := Xb_4.next hstep
  have R0_14 := R0_5.next hstep
  have R1_15 := R1_6.next hstep
  have Ra_16 := Ra_7.below hstep
  have Rb_17 := Rb_8.below hstep
  have Oq_18 := Oq_10.below hstep
  have Or_19 := Or_11.below hstep
  have hbel20 := hbel9.next hstep
  have hle20 := hbel20.size
  have hls20 := hstep.size
  clear Xa_3 Xb_4 R0_5 R1_6 Ra_7 Rb_8 Oq_10 Or_11 hbel9 hstep
  have cXa0_20 : _ = some (Value.bool s) := Xa_12.cell 0
  have cXa1_20 : _ = some (Value.slice a n c) := Xa_12.cell 1
  have cXb0_20 : _ = some (Value.bool t) := Xb_13.cell 0
  have cXb1_20 : _ = some (Value.slice b m d) := Xb_13.cell 1
  have cR00_20 : _ = some (Value.bool false) := R0_14.cell 0
  have fR00_20 := R0_14.free 0
  have cR01_20 : _ = some (Value.slice none 0 0) := R0_14.cell 1
  have fR01_20 := R0_14.free 1
  have cR10_20 : _ = some (Value.bool false) := R1_15.cell 0
  have fR10_20 := R1_15.free 0
  have cR11_20 : _ = some (Value.slice none 0 0) := R1_15.cell 1
  have fR11_20 := R1_15.free 1
  have Xq_21 := hbx
  have cXq0_21 : _ = some (Value.bool (decide (q < 0))) := Xq_21.cell 0
  have fXq0_21 := Xq_21.free 0
  have cXq1_21 : _ = some (Value.slice p pn pc) := Xq_21.cell 1
  have fXq1_21 := Xq_21.free 1
  clear hbx hbB
  have hbx := blk_new' (w1.alloc (.cells #[Value.bool (decide (q < 0)), Value.slice p pn pc] 25)) #[Value.bool (decide (r < 0)), Value.slice u un uc] 25 (g := w1.heap.size + 1) (by simp)
  have hbB := (Below.refl (w1.alloc (.cells #[Value.bool (decide (q < 0)), Value.slice p pn pc] 25)).heap.size (w1.alloc (.cells #[Value.bool (decide (q < 0)), Value.slice p pn pc] 25))).alloc (Nat.le_refl _) (.cells #[Value.bool (decide (r < 0)), Value.slice u un uc] 25)
  have hbg := hbx.lt
  clear cXa0_20 cXa1_20 cXb0_20 cXb1_20 cR00_20 fR00_20 cR01_20 fR01_20 cR10_20 fR10_20 cR11_20 fR11_20 cXq0_21 fXq0_21 cXq1_21 fXq1_21
  have hstep : Below (w1.alloc (.cells #[Value.bool (decide (q < 0)), Value.slice p pn pc] 25)).heap.size (w1.alloc (.cells #[Value.bool (decide (q < 0)), Value.slice p pn pc] 25)) ((w1.alloc (.cells #[Value.bool (decide (q < 0)), Value.slice p pn pc] 25)).alloc (.cells #[Value.bool (decide (r < 0)), Value.slice u un uc] 25)) := (by first | exact hbB | exact below_drew hbB)
  have Xa_22 := Xa_12.next hstep
  have Xb_23 := Xb_13.next hstep
  have R0_24 := R0_14.next hstep
  have R1_25 := R1_15.next hstep
  have Xq_26 := Xq_21.next hstep
  have Ra_27 := Ra_16.below hstep
  have Rb_28 := Rb_17.below hstep
  have Oq_29 := Oq_18.below hstep
  have Or_30 := Or_19.below hstep
  have hbel31 := hbel20.next hstep
  have hle31 := hbel31.size
  have hls31 := hstep.size
  clear Xa_12 Xb_13 R0_14 R1_15 Xq_21 Ra_16 Rb_17 Oq_18 Or_19 hbel20 hstep
  have cXa0_31 : _ = some (Value.bool s) := Xa_22.cell 0
  have cXa1_31 : _ = some (Value.slice a n c) := Xa_22.cell 1
  have cXb0_31 : _ = some (Value.bool t) := Xb_23.cell 0
  have cXb1_31 : _ = some (Value.slice b m d) := Xb_23.cell 1
  have cR00_31 : _ = some (Value.bool false) := R0_24.cell 0
  have fR00_31 := R0_24.free 0
  have cR01_31 : _ = some (Value.slice none 0 0) := R0_24.cell 1
  have fR01_31 := R0_24.free 1
  have cR10_31 : _ = some (Value.bool false) := R1_25.cell 0
  have fR10_31 := R1_25.free 0
  have cR11_31 : _ = some (Value.slice none 0 0) := R1_25.cell 1
  have fR11_31 := R1_25.free 1
  have cXq0_31 : _ = some (Value.bool (decide (q < 0))) := Xq_26.cell 0
  have fXq0_31 := Xq_26.free 0
  have cXq1_31 : _ = some (Value.slice p pn pc) := Xq_26.cell 1
  have fXq1_31 := Xq_26.free 1
  have Xr_32 := hbx
  have cXr0_32 : _ = some (Value.bool (decide (r < 0))) := Xr_32.cell 0
  have fXr0_32 := Xr_32.free 0
  have cXr1_32 : _ = some (Value.slice u un uc) := Xr_32.cell 1
  have fXr1_32 := Xr_32.free 1
  clear hbx hbB
  go_wp2_with fail
  generalize ((w1.alloc (.cells #[Value.bool (decide (q < 0)), Value.slice p pn pc] 25)).alloc (.cells #[Value.bool (decide (r < 0)), Value.slice u un uc] 25)) = v2 at *
  have awOqXq : Aw p (w1.heap.size) := ltq.aw (by omega)
  have awOqXr : Aw p (w1.heap.size + 1) := ltq.aw (by omega)
  have awOrXq : Aw u (w1.heap.size) := ltr.aw (by omega)
  have awOrXr : Aw u (w1.heap.size + 1) := ltr.aw (by omega)
  go_wp2_with fail
  go_cut [31] from 22 to 31 (fun s31 wx => s31 = .bool false ∧ Blk wx (w1.heap.size) #[Value.bool (decide (q < 0)), Value.slice p pn pc] ∧ Blk wx (w1.heap.size + 1) #[Value.bool (decide (r < 0)), Value.slice u un uc] ∧ Blk wx (w.heap.size + 1 + 1) #[Value.bool false, Value.slice none 0 0] ∧ Blk wx (w.heap.size + 1 + 1 + 1) #[Value.bool false, Value.slice none 0 0] ∧ Own W0.heap.size wx p pn pc (lm q.natAbs) ∧ Own W0.heap.size wx u un uc (lm r.natAbs) ∧ Below w.heap.size w wx)
  case first =>
    go_wp2_with fail
    have KXb0_0 : _ = some (Value.bool t) := Xb_23.cell 0
    have KXb1_0 : _ = some (Value.slice b m d) := Xb_23.cell 1
    have KXr0_0 : _ = some (Value.bool (decide (r < 0))) := Xr_32.cell 0
    have KXr1_0 : _ = some (Value.slice u un uc) := Xr_32.cell 1
    have Xb_h0 := Xb_23
    have Xr_h0 := Xr_32
    have acc0 : Below v2.heap.size v2 v2 := Below.refl _ _
    go_region_with
      (first
        | (go_at_call 87; ((with_reducible refine (HS1.out _ _ _ _ (show Rd _ u un uc (lm r.natAbs) from (Or_30.below (by first | exact acc0 | exact (acc0).drew)).rd) (by omega)).mono ?_); (rintro e w4 ⟨rfl, hB⟩; have hst1 : Below v2.heap.size v2 w4 := (by first | exact hB | exact below_drew hB); have acc1 := acc0.next hst1; have Xb_h1 := Xb_h0.next hst1; have Xr_h1 := Xr_h0.next hst1; have KXb0_1 : _ = some (Value.bool t) := Xb_h1.cell 0; have KXb1_1 : _ = some (Value.slice b m d) := Xb_h1.cell 1; have KXr0_1 : _ = some (Value.bool (decide (r < 0))) := Xr_h1.cell 0; have KXr1_1 : _ = some (Value.slice u un uc) := Xr_h1.cell 1))))
    all_goals
      clear cXa0_31 cXa1_31 cXb0_31 cXb1_31 cR00_31 fR00_31 cR01_31 fR01_31 cR10_31 fR10_31 cR11_31 fR11_31 cXq0_31 fXq0_31 cXq1_31 fXq1_31 cXr0_32 fXr0_32 cXr1_32 fXr1_32
      have hstep : Below v2.heap.size v2 w4 := (by first | exact acc1 | exact below_drew acc1)
      have Xa_33 := Xa_22.next hstep
      have Xb_34 := Xb_23.next hstep
      have R0_35 := R0_24.next hstep
      have R1_36 := R1_25.next hstep
      have Xq_37 := Xq_26.next hstep
      have Xr_38 := Xr_32.next hstep
      have Ra_39 := Ra_27.below hstep
      have Rb_40 := Rb_28.below hstep
      have Oq_41 := Oq_29.below hstep
      have Or_42 := Or_30.below hstep
      have hbel43 := hbel31.next hstep
      have hle43 := hbel43.size
      have hls43 := hstep.size
      clear Xa_22 Xb_23 R0_24 R1_25 Xq_26 Xr_32 Ra_27 Rb_28 Oq_29 Or_30 hbel31 hstep
      have cXa0_43 : _ = some (Value.bool s) := Xa_33.cell 0
      have cXa1_43 : _ = some (Value.slice a n c) := Xa_33.cell 1
      have cXb0_43 : _ = some (Value.bool t) := Xb_34.cell 0
      have cXb1_43 : _ = some (Value.slice b m d) := Xb_34.cell 1
      have cR00_43 : _ = some (Value.bool false) := R0_35.cell 0
      have fR00_43 := R0_35.free 0
      have cR01_43 : _ = some (Value.slice none 0 0) := R0_35.cell 1
      have fR01_43 := R0_35.free 1
      have cR10_43 : _ = some (Value.bool false) := R1_36.cell 0
      have fR10_43 := R1_36.free 0
      have cR11_43 : _ = some (Value.slice none 0 0) := R1_36.cell 1
      have fR11_43 := R1_36.free 1
      have cXq0_43 : _ = some (Value.bool (decide (q < 0))) := Xq_37.cell 0
      have fXq0_43 := Xq_37.free 0
      have cXq1_43 : _ = some (Value.slice p pn pc) := Xq_37.cell 1
      have fXq1_43 := Xq_37.free 1
      have cXr0_43 : _ = some (Value.bool (decide (r < 0))) := Xr_38.cell 0
      have fXr0_43 := Xr_38.free 0
      have cXr1_43 : _ = some (Value.slice u un uc) := Xr_38.cell 1
      have fXr1_43 := Xr_38.free 1
      clear acc0 acc1 hst1 KXb0_0 KXb1_0 KXr0_0 KXr1_0 KXb0_1 KXb1_1 KXr0_1 KXr1_1 Xb_h0 Xb_h1 Xr_h0 Xr_h1
    all_goals (go_wp2_with fail; go_meet; exact ⟨rfl, Xq_37, Xr_38, R0_35, R1_36, Oq_41.mono (by omega), Or_42.mono (by omega), (by first | exact hbel43 | exact ⟨hbel43.os, hbel43.tape, hbel43.output, hbel43.size, hbel43.block⟩)⟩)
  case rest =>
    clear Xa_22 Xb_23 R0_24 R1_25 Xq_26 Xr_32 Oq_29 Or_30 Ra_27 Rb_28 cXa0_31 cXa1_31 cXb0_31 cXb1_31 cR00_31 fR00_31 cR01_31 fR01_31 cR10_31 fR10_31 cR11_31 fR11_31 cXq0_31 fXq0_31 cXq1_31 fXq1_31 cXr0_32 fXr0_32 cXr1_32 fXr1_32 hbel31
    obtain ⟨rfl, Xq_c33, Xr_c33, R0_c33, R1_c33, Oq_c33, Or_c33, hbelc33⟩ := hcut
    have hlec33 := hbelc33.size
    have cXq0_33 : _ = some (Value.bool (decide (q < 0))) := Xq_c33.cell 0
    have fXq0_33 := Xq_c33.free 0
    have cXq1_33 : _ = some (Value.slice p pn pc) := Xq_c33.cell 1
    have fXq1_33 := Xq_c33.free 1
    have cXr0_33 : _ = some (Value.bool (decide (r < 0))) := Xr_c33.cell 0
    have fXr0_33 := Xr_c33.free 0
    have cXr1_33 : _ = some (Value.slice u un uc) := Xr_c33.cell 1
    have fXr1_33 := Xr_c33.free 1
    have cR00_33 : _ = some (Value.bool false) := R0_c33.cell 0
    have fR00_33 := R0_c33.free 0
    have cR01_33 : _ = some (Value.slice none 0 0) := R0_c33.cell 1
    have fR01_33 := R0_c33.free 1
    have cR10_33 : _ = some (Value.bool false) := R1_c33.cell 0
    have fR10_33 := R1_c33.free 0
    have cR11_33 : _ = some (Value.slice none 0 0) := R1_c33.cell 1
    have fR11_33 := R1_c33.free 1
    go_wp2_with fail
    go_wp2_with fail
    have KXq0_0 : _ = some (Value.bool (decide (q < 0))) := Xq_c33.cell 0
    have KXq1_0 : _ = some (Value.slice p pn pc) := Xq_c33.cell 1
    have KXr0_0 : _ = some (Value.bool (decide (r < 0))) := Xr_c33.cell 0
    have KXr1_0 : _ = some (Value.slice u un uc) := Xr_c33.cell 1
    have Xq_h0 := Xq_c33
    have Xr_h0 := Xr_c33
    have acc0 : Below wc.heap.size wc wc := Below.refl _ _
    go_region_held3 (fun w' => w'.cell? ⟨w1.heap.size, 0, none⟩ = some (Value.bool (decide (q < 0))) ∧ w'.cell? ⟨w1.heap.size, 1, none⟩ = some (Value.slice p pn pc) ∧ w'.cell? ⟨w1.heap.size + 1, 0, none⟩ = some (Value.bool (decide (r < 0))) ∧ w'.cell? ⟨w1.heap.size + 1, 1, none⟩ = some (Value.slice u un uc))
      (first | exact ⟨KXq0_0, KXq1_0, KXr0_0, KXr1_0⟩ | exact ⟨(cell_set2 (by omega) _ _).trans (KXq0_0), (cell_set2 (by omega) _ _).trans (KXq1_0), (cell_set2 (by omega) _ _).trans (KXr0_0), (cell_set2 (by omega) _ _).trans (KXr1_0)⟩ | exact ⟨(cell_set2 (by omega) _ _).trans ((cell_set2 (by omega) _ _).trans (KXq0_0)), (cell_set2 (by omega) _ _).trans ((cell_set2 (by omega) _ _).trans (KXq1_0)), (cell_set2 (by omega) _ _).trans ((cell_set2 (by omega) _ _).trans (KXr0_0)), (cell_set2 (by omega) _ _).trans ((cell_set2 (by omega) _ _).trans (KXr1_0))⟩ | go_keep)
      (fail)
    clear acc0 Xq_h0 Xr_h0 KXq0_0 KXq1_0 KXr0_0 KXr1_0
    go_wp2
    refine bodyPost_ret (v := .tuple #[.agg #[.bool (decide (q < 0)), .slice p pn pc], .agg #[.bool (decide (r < 0)), .slice u un uc], .int .i64 0]) (by simp [results, Try.results60, go_sem, cR00_33, cR01_33, cR10_33, cR11_33]) rfl ?_
    first
      | exact retzz_set (B := W0.heap.size) (g := w.heap.size + 1 + 1) (g' := w.heap.size + 1 + 1 + 1) Oq_c33 Or_c33 hDf (by first | exact hbelc33 | exact hbelc33.drewN' _ | exact ⟨hbelc33.os, hbelc33.tape, hbelc33.output, hbelc33.size, hbelc33.block⟩) (by omega) (by omega) (by omega) (by omega)
      | exact RetZZ.drew (retzz_set (B := W0.heap.size) (g := w.heap.size + 1 + 1) (g' := w.heap.size + 1 + 1 + 1) Oq_c33 Or_c33 hDf (by first | exact hbelc33 | exact hbelc33.drewN' _ | exact ⟨hbelc33.os, hbelc33.tape, hbelc33.output, hbelc33.size, hbelc33.block⟩) (by omega) (by omega) (by omega) (by omega))


end Go.Proofs.Ytokkfppchfmjcaa
