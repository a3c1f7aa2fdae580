/- WALKS OF WHOLE NUMBERS, 10: the reference's quotients rounded down. -/
import Derived.Test.YtokkfppchfmjcaaZjb
import Derived.Deep.Cut
import Derived.Deep.CutRange
namespace Go.Proofs.Ytokkfppchfmjcaa
set_option linter.unusedVariables false
set_option linter.unusedSimpArgs false
open Go.ChangeShapes Go.WideShapes Go.ChangeAt Go.RowKit Go.NatP

set_option maxRecDepth 100000 in
set_option maxHeartbeats 9000000 in
theorem rzfloor_down {w : World} {a : Option Addr} {n c : Nat} {la : List Nat} {b : Option Addr} {m d : Nat} {lb : List Nat} (s t : Bool) (ha : Rd w a n c la) (hn : n ≤ 4194304) (hb : Rd w b m d lb) (hm : m ≤ 4194304) {q r : Int} (hq : zv (!(s == t)) (val la / val lb) = q) (hr : zv s (dvR (val la) (val lb)) = r) (he : dvE (val lb) = 0) (hc : sgn r ≠ 0 ∧ sgn r ≠ sgn (zv t (val lb))) :
    Calls Try.prog 60 #[.agg #[.bool s, .slice a n c], .agg #[.bool t, .slice b m d]] w (RetZZ w (q - 1) (r + zv t (val lb)) 0) := by
  have HQ := hid (fun W (ha : Rd W a n c la) (hb : Rd W b m d lb) => rzquo_any s t ha hn hb hm)
  rw [hq, hr, he] at HQ
  have hrz : Hid (Sz r.natAbs n) := by show Sz _ _; rw [← hr, zv_abs]; exact ha.szv.mono (dvR_le _ _) (Nat.le_refl _)
  have hqz : Hid (Sz q.natAbs n) := by show Sz _ _; rw [← hq, zv_abs]; exact ha.szv.mono (Nat.div_le_self _ _) (Nat.le_refl _)
  clear hq hr he
  have HS1 := hid (fun W (x : Option Addr) (i j : Nat) (h : Rd W x i j (lm r.natAbs)) (hi : i ≤ 16777216) => rzsign_any (decide (r < 0)) h hi)
  simp only [val_lm, zv_self] at HS1
  have HS2 := hid (fun W (hb : Rd W b m d lb) => rzsign_any t hb (show m ≤ 16777216 by omega))
  have hr1 := sgn_range r
  have hr2 := sgn_range (zv t (val lb))
  have HAD := hid (fun W (x : Option Addr) (i j : Nat) (hx : Rd W x i j (lm r.natAbs)) (hi : i ≤ 4194304) (hb : Rd W b m d lb) => rzadd_any (decide (r < 0)) t hx hb hi hm)
  simp only [val_lm, zv_self] at HAD
  generalize sgn r = g1 at *
  generalize sgn (zv t (val lb)) = g2 at *
  obtain ⟨hn0, hc⟩ := hc
  have hd0 : decide (g1 = 0) = false := decide_eq_false hn0
  have he0 : (g1 == 0) = false := beq_eq_false_iff_ne.2 hn0
  have hb0 : (g1 != 0) = true := bne_iff_ne.2 hn0
  have hd1 : decide (g1 = g2) = false := decide_eq_false hc
  have he1 : (g1 == g2) = false := beq_eq_false_iff_ne.2 hc
  have hb1 : (g1 != g2) = true := bne_iff_ne.2 hc
  have hent := ent4 w #[Value.bool s, Value.slice a n c] #[Value.bool t, Value.slice b m d] #[Value.bool false, Value.slice none 0 0] #[Value.bool false, Value.slice none 0 0] 25 25 25 25
  go_enter Try.func60, Try.ntmps60
  go_wp2_with fail
  generalize ((((w.alloc (.cells #[Value.bool s, Value.slice a n c] 25)).alloc (.cells #[Value.bool t, Value.slice b m d] 25)).alloc (.cells #[Value.bool false, Value.slice none 0 0] 25)).alloc (.cells #[Value.bool false, Value.slice none 0 0] 25)) = W0 at hent ⊢
  obtain ⟨Xa_0, Xb_0, R0_0, R1_0, hbel0, hsz0⟩ := hent
  have Ra_1 := ha.below hbel0
  have Rb_2 := hb.below hbel0
  have cXa0_2 : _ = some (Value.bool s) := Xa_0.cell 0
  have cXa1_2 : _ = some (Value.slice a n c) := Xa_0.cell 1
  have cXb0_2 : _ = some (Value.bool t) := Xb_0.cell 0
  have cXb1_2 : _ = some (Value.slice b m d) := Xb_0.cell 1
  have cR00_2 : _ = some (Value.bool false) := R0_0.cell 0
  have fR00_2 := R0_0.free 0
  have cR01_2 : _ = some (Value.slice none 0 0) := R0_0.cell 1
  have fR01_2 := R0_0.free 1
  have cR10_2 : _ = some (Value.bool false) := R1_0.cell 0
  have fR10_2 := R1_0.free 0
  have cR11_2 : _ = some (Value.slice none 0 0) := R1_0.cell 1
  have fR11_2 := R1_0.free 1
  go_wp2_with fail
  refine (HQ.out _ Ra_1 Rb_2).mono ?_
  rintro e w1 ⟨p, pn, pc, u, un, uc, rfl, hO1, hO2, hDf, hB⟩
  clear cXa0_2 cXa1_2 cXb0_2 cXb1_2 cR00_2 fR00_2 cR01_2 fR01_2 cR10_2 fR10_2 cR11_2 fR11_2
  have hstep : Below W0.heap.size W0 w1 := (by first | exact hB | exact below_drew hB)
  have Xa_3 := Xa_0.next hstep
  have Xb_4 := Xb_0.next hstep
  have R0_5 := R0_0.next hstep
  have R1_6 := R1_0.next hstep
  have Ra_7 := Ra_1.below hstep
  have Rb_8 := Rb_2.below hstep
  have hbel9 := hbel0.next hstep
  have hle9 := hbel9.size
  have hls9 := hstep.size
  clear Xa_0 Xb_0 R0_0 R1_0 Ra_1 Rb_2 hbel0 hstep
  have cXa0_9 : _ = some (Value.bool s) := Xa_3.cell 0
  have cXa1_9 : _ = some (Value.slice a n c) := Xa_3.cell 1
  have cXb0_9 : _ = some (Value.bool t) := Xb_4.cell 0
  have cXb1_9 : _ = some (Value.slice b m d) := Xb_4.cell 1
  have cR00_9 : _ = some (Value.bool false) := R0_5.cell 0
  have fR00_9 := R0_5.free 0
  have cR01_9 : _ = some (Value.slice none 0 0) := R0_5.cell 1
  have fR01_9 := R0_5.free 1
  have cR10_9 : _ = some (Value.bool false) := R1_6.cell 0
  have fR10_9 := R1_6.free 0
  have cR11_9 : _ = some (Value.slice none 0 0) := R1_6.cell 1
  have fR11_9 := R1_6.free 1
  have hpn : pn ≤ 4194304 := by have := len_le (l := la) hO1.len hqz.out; omega
  have hun : un ≤ 4194304 := by have := len_le (l := la) hO2.len hrz.out; omega
  have Oq_10 := hO1
  have Or_11 := hO2
  have ltq := hO1.ltOf
  have ltr := hO2.ltOf
  clear hO1 hO2 hB
  have hbx := blk_new' w1 #[Value.bool (decide (q < 0)), Value.slice p pn pc] 25 (g := w1.heap.size) (by simp)
  have hbB := (Below.refl w1.heap.size w1).alloc (Nat.le_refl _) (.cells #[Value.bool (decide (q < 0)), Value.slice p pn pc] 25)
  have hbg := hbx.lt
  clear cXa0_9 cXa1_9 cXb0_9 cXb1_9 cR00_9 fR00_9 cR01_9 fR01_9 cR10_9 fR10_9 cR11_9 fR11_9
  have hstep : Below w1.heap.size w1 (w1.alloc (.cells #[Value.bool (decide (q < 0)), Value.slice p pn pc] 25)) := (by first | exact hbB | exact below_drew hbB)
  have Xa_12 := Xa_3.next hstep
  have Xb_13 := Xb_4.next hstep
  have R0_14 := R0_5.next hstep
  have R1_15 := R1_6.next hstep
  have Ra_16 := Ra_7.below hstep
  have Rb_17 := Rb_8.below hstep
  have Oq_18 := Oq_10.below hstep
  have Or_19 := Or_11.below hstep
  have hbel20 := hbel9.next hstep
  have hle20 := hbel20.size
  have hls20 := hstep.size
  clear Xa_3 Xb_4 R0_5 R1_6 Ra_7 Rb_8 Oq_10 Or_11 hbel9 hstep
  have cXa0_20 : _ = some (Value.bool s) := Xa_12.cell 0
  have cXa1_20 : _ = some (Value.slice a n c) := Xa_12.cell 1
  have cXb0_20 : _ = some (Value.bool t) := Xb_13.cell 0
  have cXb1_20 : _ = some (Value.slice b m d) := Xb_13.cell 1
  have cR00_20 : _ = some (Value.bool false) := R0_14.cell 0
  have fR00_20 := R0_14.free 0
  have cR01_20 : _ = some (Value.slice none 0 0) := R0_14.cell 1
  have fR01_20 := R0_14.free 1
  have cR10_20 : _ = some (Value.bool false) := R1_15.cell 0
  have fR10_20 := R1_15.free 0
  have cR11_20 : _ = some (Value.slice none 0 0) := R1_15.cell 1
  have fR11_20 := R1_15.free 1
  have Xq_21 := hbx
  have cXq0_21 : _ = some (Value.bool (decide (q < 0))) := Xq_21.cell 0
  have fXq0_21 := Xq_21.free 0
  have cXq1_21 : _ = some (Value.slice p pn pc) := Xq_21.cell 1
  have fXq1_21 := Xq_21.free 1
  clear hbx hbB
  have hbx := blk_new' (w1.alloc (.cells #[Value.bool (decide (q < 0)), Value.slice p pn pc] 25)) #[Value.bool (decide (r < 0)), Value.slice u un uc] 25 (g := w1.heap.size + 1) (by simp)
  have hbB := (Below.refl (w1.alloc (.cells #[Value.bool (decide (q < 0)), Value.slice p pn pc] 25)).heap.size (w1.alloc (.cells #[Value.bool (decide (q < 0)), Value.slice p pn pc] 25))).alloc (Nat.le_refl _) (.cells #[Value.bool (decide (r < 0)), Value.slice u un uc] 25)
  have hbg := hbx.lt
  clear cXa0_20 cXa1_20 cXb0_20 cXb1_20 cR00_20 fR00_20 cR01_20 fR01_20 cR10_20 fR10_20 cR11_20 fR11_20 cXq0_21 fXq0_21 cXq1_21 fXq1_21
  have hstep : Below (w1.alloc (.cells #[Value.bool (decide (q < 0)), Value.slice p pn pc] 25)).heap.size (w1.alloc (.cells #[Value.bool (decide (q < 0)), Value.slice p pn pc] 25)) ((w1.alloc (.cells #[Value.bool (decide (q < 0)), Value.slice p pn pc] 25)).alloc (.cells #[Value.bool (decide (r < 0)), Value.slice u un uc] 25)) := (by first | exact hbB | exact below_drew hbB)
  have Xa_22 := Xa_12.next hstep
  have Xb_23 := Xb_13.next hstep
  have R0_24 := R0_14.next hstep
  have R1_25 := R1_15.next hstep
  have Xq_26 := Xq_21.next hstep
  have Ra_27 := Ra_16.below hstep
  have Rb_28 := Rb_17.below hstep
  have Oq_29 := Oq_18.below hstep
  have Or_30 := Or_19.below hstep
  have hbel31 := hbel20.next hstep
  have hle31 := hbel31.size
  have hls31 := hstep.size
  clear Xa_12 Xb_13 R0_14 R1_15 Xq_21 Ra_16 Rb_17 Oq_18 Or_19 hbel20 hstep
  have cXa0_31 : _ = some (Value.bool s) := Xa_22.cell 0
  have cXa1_31 : _ = some (Value.slice a n c) := Xa_22.cell 1
  have cXb0_31 : _ = some (Value.bool t) := Xb_23.cell 0
  have cXb1_31 : _ = some (Value.slice b m d) := Xb_23.cell 1
  have cR00_31 : _ = some (Value.bool false) := R0_24.cell 0
  have fR00_31 := R0_24.free 0
  have cR01_31 : _ = some (Value.slice none 0 0) := R0_24.cell 1
  have fR01_31 := R0_24.free 1
  have cR10_31 : _ = some (Value.bool false) := R1_25.cell 0
  have fR10_31 := R1_25.free 0
  have cR11_31 : _ = some (Value.slice none 0 0) := R1_25.cell 1
  have fR11_31 := R1_25.free 1
  have cXq0_31 : _ = some (Value.bool (decide (q < 0))) := Xq_26.cell 0
  have fXq0_31 := Xq_26.free 0
  have cXq1_31 : _ = some (Value.slice p pn pc) := Xq_26.cell 1
  have fXq1_31 := Xq_26.free 1
  have Xr_32 := hbx
  have cXr0_32 : _ = some (Value.bool (decide (r < 0))) := Xr_32.cell 0
  have fXr0_32 := Xr_32.free 0
  have cXr1_32 : _ = some (Value.slice u un uc) := Xr_32.cell 1
  have fXr1_32 := Xr_32.free 1
  clear hbx hbB
  go_wp2_with fail
  generalize ((w1.alloc (.cells #[Value.bool (decide (q < 0)), Value.slice p pn pc] 25)).alloc (.cells #[Value.bool (decide (r < 0)), Value.slice u un uc] 25)) = v2 at *
  have awOqXq : Aw p (w1.heap.size) := ltq.aw (by omega)
  have awOqXr : Aw p (w1.heap.size + 1) := ltq.aw (by omega)
  have awOrXq : Aw u (w1.heap.size) := ltr.aw (by omega)
  have awOrXr : Aw u (w1.heap.size + 1) := ltr.aw (by omega)
  go_wp2_with fail
  have KXb0_0 : _ = some (Value.bool t) := Xb_23.cell 0
  have KXb1_0 : _ = some (Value.slice b m d) := Xb_23.cell 1
  have KXr0_0 : _ = some (Value.bool (decide (r < 0))) := Xr_32.cell 0
  have KXr1_0 : _ = some (Value.slice u un uc) := Xr_32.cell 1
  have Xb_h0 := Xb_23
  have Xr_h0 := Xr_32
  have acc0 : Below v2.heap.size v2 v2 := Below.refl _ _
  go_region_held3 (fun w' => w'.cell? ⟨w.heap.size + 1, 0, none⟩ = some (Value.bool t) ∧ w'.cell? ⟨w.heap.size + 1, 1, none⟩ = some (Value.slice b m d) ∧ w'.cell? ⟨w1.heap.size + 1, 0, none⟩ = some (Value.bool (decide (r < 0))) ∧ w'.cell? ⟨w1.heap.size + 1, 1, none⟩ = some (Value.slice u un uc))
    (first | exact ⟨KXb0_0, KXb1_0, KXr0_0, KXr1_0⟩ | exact ⟨KXb0_1, KXb1_1, KXr0_1, KXr1_1⟩ | exact ⟨KXb0_2, KXb1_2, KXr0_2, KXr1_2⟩ | exact ⟨KXb0_3, KXb1_3, KXr0_3, KXr1_3⟩ | go_keep)
    (first
      | (go_at_call 87; ((with_reducible refine (HS1.out _ _ _ _ (show Rd _ u un uc (lm r.natAbs) from (Or_30.below (by first | exact acc0 | exact (acc0).drew)).rd) (by omega)).mono ?_); (rintro e w4 ⟨rfl, hB⟩; have hst1 : Below v2.heap.size v2 w4 := (by first | exact hB | exact below_drew hB); have acc1 := acc0.next hst1; have Xb_h1 := Xb_h0.next hst1; have Xr_h1 := Xr_h0.next hst1; have KXb0_1 : _ = some (Value.bool t) := Xb_h1.cell 0; have KXb1_1 : _ = some (Value.slice b m d) := Xb_h1.cell 1; have KXr0_1 : _ = some (Value.bool (decide (r < 0))) := Xr_h1.cell 0; have KXr1_1 : _ = some (Value.slice u un uc) := Xr_h1.cell 1)))
      | (go_at_call 87; ((with_reducible refine (HS1.out _ _ _ _ (show Rd _ u un uc (lm r.natAbs) from (Or_30.below (by first | exact acc1 | exact (acc1).drew)).rd) (by omega)).mono ?_); (rintro e w5 ⟨rfl, hB⟩; have hst2 : Below w4.heap.size w4 w5 := (by first | exact hB | exact below_drew hB); have acc2 := acc1.next hst2; have Xb_h2 := Xb_h1.next hst2; have Xr_h2 := Xr_h1.next hst2; have KXb0_2 : _ = some (Value.bool t) := Xb_h2.cell 0; have KXb1_2 : _ = some (Value.slice b m d) := Xb_h2.cell 1; have KXr0_2 : _ = some (Value.bool (decide (r < 0))) := Xr_h2.cell 0; have KXr1_2 : _ = some (Value.slice u un uc) := Xr_h2.cell 1)))
      | (go_at_call 87; ((with_reducible refine (HS2.out _ (show Rd _ b m d lb from Rb_28.below (by first | exact acc2 | exact (acc2).drew))).mono ?_); (rintro e w6 ⟨rfl, hB⟩; have hst3 : Below w5.heap.size w5 w6 := (by first | exact hB | exact below_drew hB); have acc3 := acc2.next hst3; have Xb_h3 := Xb_h2.next hst3; have Xr_h3 := Xr_h2.next hst3; have KXb0_3 : _ = some (Value.bool t) := Xb_h3.cell 0; have KXb1_3 : _ = some (Value.slice b m d) := Xb_h3.cell 1; have KXr0_3 : _ = some (Value.bool (decide (r < 0))) := Xr_h3.cell 0; have KXr1_3 : _ = some (Value.slice u un uc) := Xr_h3.cell 1))))
  clear cXa0_31 cXa1_31 cXb0_31 cXb1_31 cR00_31 fR00_31 cR01_31 fR01_31 cR10_31 fR10_31 cR11_31 fR11_31 cXq0_31 fXq0_31 cXq1_31 fXq1_31 cXr0_32 fXr0_32 cXr1_32 fXr1_32
  have hstep : Below v2.heap.size v2 w6 := (by first | exact acc3 | exact below_drew acc3)
  have Xa_33 := Xa_22.next hstep
  have Xb_34 := Xb_23.next hstep
  have R0_35 := R0_24.next hstep
  have R1_36 := R1_25.next hstep
  have Xq_37 := Xq_26.next hstep
  have Xr_38 := Xr_32.next hstep
  have Ra_39 := Ra_27.below hstep
  have Rb_40 := Rb_28.below hstep
  have Oq_41 := Oq_29.below hstep
  have Or_42 := Or_30.below hstep
  have hbel43 := hbel31.next hstep
  have hle43 := hbel43.size
  have hls43 := hstep.size
  clear Xa_22 Xb_23 R0_24 R1_25 Xq_26 Xr_32 Ra_27 Rb_28 Oq_29 Or_30 hbel31 hstep
  have cXa0_43 : _ = some (Value.bool s) := Xa_33.cell 0
  have cXa1_43 : _ = some (Value.slice a n c) := Xa_33.cell 1
  have cXb0_43 : _ = some (Value.bool t) := Xb_34.cell 0
  have cXb1_43 : _ = some (Value.slice b m d) := Xb_34.cell 1
  have cR00_43 : _ = some (Value.bool false) := R0_35.cell 0
  have fR00_43 := R0_35.free 0
  have cR01_43 : _ = some (Value.slice none 0 0) := R0_35.cell 1
  have fR01_43 := R0_35.free 1
  have cR10_43 : _ = some (Value.bool false) := R1_36.cell 0
  have fR10_43 := R1_36.free 0
  have cR11_43 : _ = some (Value.slice none 0 0) := R1_36.cell 1
  have fR11_43 := R1_36.free 1
  have cXq0_43 : _ = some (Value.bool (decide (q < 0))) := Xq_37.cell 0
  have fXq0_43 := Xq_37.free 0
  have cXq1_43 : _ = some (Value.slice p pn pc) := Xq_37.cell 1
  have fXq1_43 := Xq_37.free 1
  have cXr0_43 : _ = some (Value.bool (decide (r < 0))) := Xr_38.cell 0
  have fXr0_43 := Xr_38.free 0
  have cXr1_43 : _ = some (Value.slice u un uc) := Xr_38.cell 1
  have fXr1_43 := Xr_38.free 1
  clear acc0 acc1 acc2 acc3 hst1 hst2 hst3 KXb0_0 KXb1_0 KXr0_0 KXr1_0 KXb0_1 KXb1_1 KXr0_1 KXr1_1 KXb0_2 KXb1_2 KXr0_2 KXr1_2 KXb0_3 KXb1_3 KXr0_3 KXr1_3 Xb_h0 Xb_h1 Xb_h2 Xb_h3 Xr_h0 Xr_h1 Xr_h2 Xr_h3
  go_wp2_with fail
  have HSU := hid (fun W (x : Option Addr) (i j : Nat) (hx : Rd W x i j (lm q.natAbs)) (hi : i ≤ 4194304) (y : Option Addr) (k l : Nat) (hy : Rd W y k l (lm 1)) (hk : k ≤ 4194304) => rzsub_any (decide (q < 0)) false hx hi hy hk)
  simp only [val_lm, zv_self, show zv false 1 = 1 from rfl] at HSU
  have hl1 : (lm (1 : Int).natAbs).length ≤ 1 := length_lm_le (by decide)
  go_wp2_with fail
  have KXq0_0 : _ = some (Value.bool (decide (q < 0))) := Xq_37.cell 0
  have KXq1_0 : _ = some (Value.slice p pn pc) := Xq_37.cell 1
  have Xq_h0 := Xq_37
  have acc0 : Below w6.heap.size w6 w6 := Below.refl _ _
  go_region_with
    (first
      | (go_at_call 88; ((with_reducible refine (rzofi_any 1 (by omega) (by omega)).mono ?_); (rintro e w7 ⟨o, on, oc, rfl, hO3, hB⟩; have hst1 : Below w6.heap.size w6 w7 := (by first | exact hB | exact below_drew hB); have acc1 := acc0.next hst1; have Xq_h1 := Xq_h0.next hst1; have KXq0_1 : _ = some (Value.bool (decide (q < 0))) := Xq_h1.cell 0; have KXq1_1 : _ = some (Value.slice p pn pc) := Xq_h1.cell 1; have R0_h1 := R0_35.next hst1; have R1_h1 := R1_36.next hst1; have Xq_h1 := Xq_37.next hst1; have Xr_h1 := Xr_38.next hst1; have hon : on ≤ 4194304 := (by have := hO3.len; omega))))
      | (go_at_call 58; ((with_reducible refine (HSU.out _ _ _ _ (show Rd _ p pn pc (lm q.natAbs) from (Oq_41.below (by first | exact acc1 | exact (acc1).drew)).rd) hpn _ _ _ (show Rd _ o on oc (lm 1) from (hO3.below (by first | exact Below.refl _ _ | exact (Below.refl _ _).drew)).rd) hon).mono ?_); (rintro e w8 ⟨x, xn, xc, rfl, hO4, hB⟩; have hst2 : Below w7.heap.size w7 w8 := (by first | exact hB | exact below_drew hB); have acc2 := acc1.next hst2; have Xq_h2 := Xq_h1.next hst2; have KXq0_2 : _ = some (Value.bool (decide (q < 0))) := Xq_h2.cell 0; have KXq1_2 : _ = some (Value.slice p pn pc) := Xq_h2.cell 1; have R0_h2 := R0_h1.next hst2; have LR00 : _ = some (Value.bool false) := R0_h2.cell 0; have MR00 := R0_h2.free 0; have LR01 : _ = some (Value.slice none 0 0) := R0_h2.cell 1; have MR01 := R0_h2.free 1; have R1_h2 := R1_h1.next hst2; have LR10 : _ = some (Value.bool false) := R1_h2.cell 0; have MR10 := R1_h2.free 0; have LR11 : _ = some (Value.slice none 0 0) := R1_h2.cell 1; have MR11 := R1_h2.free 1; have Xq_h2 := Xq_h1.next hst2; have LXq0 : _ = some (Value.bool (decide (q < 0))) := Xq_h2.cell 0; have MXq0 := Xq_h2.free 0; have LXq1 : _ = some (Value.slice p pn pc) := Xq_h2.cell 1; have MXq1 := Xq_h2.free 1; have Xr_h2 := Xr_h1.next hst2; have LXr0 : _ = some (Value.bool (decide (r < 0))) := Xr_h2.cell 0; have MXr0 := Xr_h2.free 0; have LXr1 : _ = some (Value.slice u un uc) := Xr_h2.cell 1; have MXr1 := Xr_h2.free 1; have hza1 := acc1.size))))
  all_goals
    clear cXa0_43 cXa1_43 cXb0_43 cXb1_43 cR00_43 fR00_43 cR01_43 fR01_43 cR10_43 fR10_43 cR11_43 fR11_43 cXq0_43 fXq0_43 cXq1_43 fXq1_43 cXr0_43 fXr0_43 cXr1_43 fXr1_43
    have hstep : Below w6.heap.size w6 w8 := (by first | exact acc2 | exact below_drew acc2)
    have Xa_44 := Xa_33.next hstep
    have Xb_45 := Xb_34.next hstep
    have R0_46 := R0_35.next hstep
    have R1_47 := R1_36.next hstep
    have Xq_48 := Xq_37.next hstep
    have Xr_49 := Xr_38.next hstep
    have Ra_50 := Ra_39.below hstep
    have Rb_51 := Rb_40.below hstep
    have Oq_52 := Oq_41.below hstep
    have Or_53 := Or_42.below hstep
    have hbel54 := hbel43.next hstep
    have hle54 := hbel54.size
    have hls54 := hstep.size
    clear Xa_33 Xb_34 R0_35 R1_36 Xq_37 Xr_38 Ra_39 Rb_40 Oq_41 Or_42 hbel43 hstep
    have cXa0_54 : _ = some (Value.bool s) := Xa_44.cell 0
    have cXa1_54 : _ = some (Value.slice a n c) := Xa_44.cell 1
    have cXb0_54 : _ = some (Value.bool t) := Xb_45.cell 0
    have cXb1_54 : _ = some (Value.slice b m d) := Xb_45.cell 1
    have cR00_54 : _ = some (Value.bool false) := R0_46.cell 0
    have fR00_54 := R0_46.free 0
    have cR01_54 : _ = some (Value.slice none 0 0) := R0_46.cell 1
    have fR01_54 := R0_46.free 1
    have cR10_54 : _ = some (Value.bool false) := R1_47.cell 0
    have fR10_54 := R1_47.free 0
    have cR11_54 : _ = some (Value.slice none 0 0) := R1_47.cell 1
    have fR11_54 := R1_47.free 1
    have cXq0_54 : _ = some (Value.bool (decide (q < 0))) := Xq_48.cell 0
    have fXq0_54 := Xq_48.free 0
    have cXq1_54 : _ = some (Value.slice p pn pc) := Xq_48.cell 1
    have fXq1_54 := Xq_48.free 1
    have cXr0_54 : _ = some (Value.bool (decide (r < 0))) := Xr_49.cell 0
    have fXr0_54 := Xr_49.free 0
    have cXr1_54 : _ = some (Value.slice u un uc) := Xr_49.cell 1
    have fXr1_54 := Xr_49.free 1
    clear acc0 acc1 acc2 hst1 hst2 KXq0_0 KXq1_0 KXq0_1 KXq1_1 KXq0_2 KXq1_2 Xq_h0 Xq_h1 Xq_h2
    clear R0_h1 R0_h2 R1_h1 R1_h2 Xq_h1 Xq_h2 Xr_h1 Xr_h2 LR00 MR00 LR01 MR01 LR10 MR10 LR11 MR11 LXq0 MXq0 LXq1 MXq1 LXr0 MXr0 LXr1 MXr1
    have Ox_55 := hO4
    have ltx := hO4.ltOf
    have awOxXq : Aw x (w1.heap.size) := hO4.awNew (by first | omega | (simp only [World.drew]; omega))
    have awOxXr : Aw x (w1.heap.size + 1) := hO4.awNew (by first | omega | (simp only [World.drew]; omega))
    clear cXa0_54 cXa1_54 cXb0_54 cXb1_54 cR00_54 fR00_54 cR01_54 fR01_54 cR10_54 fR10_54 cR11_54 fR11_54 cXq0_54 fXq0_54 cXq1_54 fXq1_54 cXr0_54 fXr0_54 cXr1_54 fXr1_54
    have hkp : Kp (fun k => k = w1.heap.size) w8 ((w8.setCell ⟨w1.heap.size, 0, none⟩ (Value.bool (decide (q - 1 < 0)))).setCell ⟨w1.heap.size, 1, none⟩ (Value.slice x xn xc)) := ((Kp.refl (fun k => k = w1.heap.size) w8).setCell rfl (Value.bool (decide (q - 1 < 0)))).setCell rfl (Value.slice x xn xc)
    have Xq_56 := (show Blk _ _ #[Value.bool (decide (q - 1 < 0)), Value.slice x xn xc] from ((Xq_48).setCell (i := 0) (v := Value.bool (decide (q - 1 < 0))) (by simp)).setCell (i := 1) (v := Value.slice x xn xc) (by simp))
    have Xa_57 := Xa_44.kp hkp (show ¬ (w.heap.size = w1.heap.size) by omega)
    have Xb_58 := Xb_45.kp hkp (show ¬ (w.heap.size + 1 = w1.heap.size) by omega)
    have R0_59 := R0_46.kp hkp (show ¬ (w.heap.size + 1 + 1 = w1.heap.size) by omega)
    have R1_60 := R1_47.kp hkp (show ¬ (w.heap.size + 1 + 1 + 1 = w1.heap.size) by omega)
    have Xr_61 := Xr_49.kp hkp (show ¬ (w1.heap.size + 1 = w1.heap.size) by omega)
    have Oq_62 := Oq_52.kp hkp (fun g' e => awOqXq g' e)
    have Or_63 := Or_53.kp hkp (fun g' e => awOrXq g' e)
    have Ox_64 := Ox_55.kp hkp (fun g' e => awOxXq g' e)
    have hbel65 := hbel54.kp hkp (hbel54).size (fun k hk => (show ¬ (k = w1.heap.size) by omega))
    have hse65 := hkp.size
    clear Xa_44 Xb_45 R0_46 R1_47 Xq_48 Xr_49 Oq_52 Or_53 Ox_55 hbel54 hkp
    generalize ((w8.setCell ⟨w1.heap.size, 0, none⟩ (Value.bool (decide (q - 1 < 0)))).setCell ⟨w1.heap.size, 1, none⟩ (Value.slice x xn xc)) = v9 at *
    have cXa0_65 : _ = some (Value.bool s) := Xa_57.cell 0
    have cXa1_65 : _ = some (Value.slice a n c) := Xa_57.cell 1
    have cXb0_65 : _ = some (Value.bool t) := Xb_58.cell 0
    have cXb1_65 : _ = some (Value.slice b m d) := Xb_58.cell 1
    have cR00_65 : _ = some (Value.bool false) := R0_59.cell 0
    have fR00_65 := R0_59.free 0
    have cR01_65 : _ = some (Value.slice none 0 0) := R0_59.cell 1
    have fR01_65 := R0_59.free 1
    have cR10_65 : _ = some (Value.bool false) := R1_60.cell 0
    have fR10_65 := R1_60.free 0
    have cR11_65 : _ = some (Value.slice none 0 0) := R1_60.cell 1
    have fR11_65 := R1_60.free 1
    have cXq0_65 : _ = some (Value.bool (decide (q - 1 < 0))) := Xq_56.cell 0
    have fXq0_65 := Xq_56.free 0
    have cXq1_65 : _ = some (Value.slice x xn xc) := Xq_56.cell 1
    have fXq1_65 := Xq_56.free 1
    have cXr0_65 : _ = some (Value.bool (decide (r < 0))) := Xr_61.cell 0
    have fXr0_65 := Xr_61.free 0
    have cXr1_65 : _ = some (Value.slice u un uc) := Xr_61.cell 1
    have fXr1_65 := Xr_61.free 1
    have hXb0 := hb.below hbel65
    go_wp2_with fail
    refine (HAD.out _ _ _ _ Or_63.rd hun hXb0).mono ?_
    rintro e w10 ⟨y, yn, yc, rfl, hO5, hB⟩
    clear cXa0_65 cXa1_65 cXb0_65 cXb1_65 cR00_65 fR00_65 cR01_65 fR01_65 cR10_65 fR10_65 cR11_65 fR11_65 cXq0_65 fXq0_65 cXq1_65 fXq1_65 cXr0_65 fXr0_65 cXr1_65 fXr1_65
    have hstep : Below v9.heap.size v9 w10 := (by first | exact hB | exact below_drew hB)
    have Xa_66 := Xa_57.next hstep
    have Xb_67 := Xb_58.next hstep
    have R0_68 := R0_59.next hstep
    have R1_69 := R1_60.next hstep
    have Xq_70 := Xq_56.next hstep
    have Xr_71 := Xr_61.next hstep
    have Oq_72 := Oq_62.below hstep
    have Or_73 := Or_63.below hstep
    have Ox_74 := Ox_64.below hstep
    have hbel75 := hbel65.next hstep
    have hle75 := hbel75.size
    have hls75 := hstep.size
    clear Xa_57 Xb_58 R0_59 R1_60 Xq_56 Xr_61 Oq_62 Or_63 Ox_64 hbel65 hstep
    have cXa0_75 : _ = some (Value.bool s) := Xa_66.cell 0
    have cXa1_75 : _ = some (Value.slice a n c) := Xa_66.cell 1
    have cXb0_75 : _ = some (Value.bool t) := Xb_67.cell 0
    have cXb1_75 : _ = some (Value.slice b m d) := Xb_67.cell 1
    have cR00_75 : _ = some (Value.bool false) := R0_68.cell 0
    have fR00_75 := R0_68.free 0
    have cR01_75 : _ = some (Value.slice none 0 0) := R0_68.cell 1
    have fR01_75 := R0_68.free 1
    have cR10_75 : _ = some (Value.bool false) := R1_69.cell 0
    have fR10_75 := R1_69.free 0
    have cR11_75 : _ = some (Value.slice none 0 0) := R1_69.cell 1
    have fR11_75 := R1_69.free 1
    have cXq0_75 : _ = some (Value.bool (decide (q - 1 < 0))) := Xq_70.cell 0
    have fXq0_75 := Xq_70.free 0
    have cXq1_75 : _ = some (Value.slice x xn xc) := Xq_70.cell 1
    have fXq1_75 := Xq_70.free 1
    have cXr0_75 : _ = some (Value.bool (decide (r < 0))) := Xr_71.cell 0
    have fXr0_75 := Xr_71.free 0
    have cXr1_75 : _ = some (Value.slice u un uc) := Xr_71.cell 1
    have fXr1_75 := Xr_71.free 1
    have Oy_76 := hO5
    have hdxy : Diff x y := ltx.diff hO5 (by omega)
    have awOyXq : Aw y (w1.heap.size) := hO5.awNew (by omega)
    have awOyXr : Aw y (w1.heap.size + 1) := hO5.awNew (by omega)
    go_wp2_with fail
    clear cXa0_75 cXa1_75 cXb0_75 cXb1_75 cR00_75 fR00_75 cR01_75 fR01_75 cR10_75 fR10_75 cR11_75 fR11_75 cXq0_75 fXq0_75 cXq1_75 fXq1_75 cXr0_75 fXr0_75 cXr1_75 fXr1_75
    have hkp : Kp (fun k => k = w1.heap.size + 1) w10 ((w10.setCell ⟨w1.heap.size + 1, 0, none⟩ (Value.bool (decide (r + zv t (val lb) < 0)))).setCell ⟨w1.heap.size + 1, 1, none⟩ (Value.slice y yn yc)) := ((Kp.refl (fun k => k = w1.heap.size + 1) w10).setCell rfl (Value.bool (decide (r + zv t (val lb) < 0)))).setCell rfl (Value.slice y yn yc)
    have Xr_77 := (show Blk _ _ #[Value.bool (decide (r + zv t (val lb) < 0)), Value.slice y yn yc] from ((Xr_71).setCell (i := 0) (v := Value.bool (decide (r + zv t (val lb) < 0))) (by simp)).setCell (i := 1) (v := Value.slice y yn yc) (by simp))
    have Xa_78 := Xa_66.kp hkp (show ¬ (w.heap.size = w1.heap.size + 1) by omega)
    have Xb_79 := Xb_67.kp hkp (show ¬ (w.heap.size + 1 = w1.heap.size + 1) by omega)
    have R0_80 := R0_68.kp hkp (show ¬ (w.heap.size + 1 + 1 = w1.heap.size + 1) by omega)
    have R1_81 := R1_69.kp hkp (show ¬ (w.heap.size + 1 + 1 + 1 = w1.heap.size + 1) by omega)
    have Xq_82 := Xq_70.kp hkp (show ¬ (w1.heap.size = w1.heap.size + 1) by omega)
    have Oq_83 := Oq_72.kp hkp (fun g' e => awOqXr g' e)
    have Or_84 := Or_73.kp hkp (fun g' e => awOrXr g' e)
    have Ox_85 := Ox_74.kp hkp (fun g' e => awOxXr g' e)
    have Oy_86 := Oy_76.kp hkp (fun g' e => awOyXr g' e)
    have hbel87 := hbel75.kp hkp (hbel75).size (fun k hk => (show ¬ (k = w1.heap.size + 1) by omega))
    have hse87 := hkp.size
    clear Xa_66 Xb_67 R0_68 R1_69 Xq_70 Xr_71 Oq_72 Or_73 Ox_74 Oy_76 hbel75 hkp
    generalize ((w10.setCell ⟨w1.heap.size + 1, 0, none⟩ (Value.bool (decide (r + zv t (val lb) < 0)))).setCell ⟨w1.heap.size + 1, 1, none⟩ (Value.slice y yn yc)) = v11 at *
    have cXa0_87 : _ = some (Value.bool s) := Xa_78.cell 0
    have cXa1_87 : _ = some (Value.slice a n c) := Xa_78.cell 1
    have cXb0_87 : _ = some (Value.bool t) := Xb_79.cell 0
    have cXb1_87 : _ = some (Value.slice b m d) := Xb_79.cell 1
    have cR00_87 : _ = some (Value.bool false) := R0_80.cell 0
    have fR00_87 := R0_80.free 0
    have cR01_87 : _ = some (Value.slice none 0 0) := R0_80.cell 1
    have fR01_87 := R0_80.free 1
    have cR10_87 : _ = some (Value.bool false) := R1_81.cell 0
    have fR10_87 := R1_81.free 0
    have cR11_87 : _ = some (Value.slice none 0 0) := R1_81.cell 1
    have fR11_87 := R1_81.free 1
    have cXq0_87 : _ = some (Value.bool (decide (q - 1 < 0))) := Xq_82.cell 0
    have fXq0_87 := Xq_82.free 0
    have cXq1_87 : _ = some (Value.slice x xn xc) := Xq_82.cell 1
    have fXq1_87 := Xq_82.free 1
    have cXr0_87 : _ = some (Value.bool (decide (r + zv t (val lb) < 0))) := Xr_77.cell 0
    have fXr0_87 := Xr_77.free 0
    have cXr1_87 : _ = some (Value.slice y yn yc) := Xr_77.cell 1
    have fXr1_87 := Xr_77.free 1
    go_wp2_with fail
    have KXq0_0 : _ = some (Value.bool (decide (q - 1 < 0))) := Xq_82.cell 0
    have KXq1_0 : _ = some (Value.slice x xn xc) := Xq_82.cell 1
    have KXr0_0 : _ = some (Value.bool (decide (r + zv t (val lb) < 0))) := Xr_77.cell 0
    have KXr1_0 : _ = some (Value.slice y yn yc) := Xr_77.cell 1
    have Xq_h0 := Xq_82
    have Xr_h0 := Xr_77
    have acc0 : Below v11.heap.size v11 v11 := Below.refl _ _
    go_region_held3 (fun w' => w'.cell? ⟨w1.heap.size, 0, none⟩ = some (Value.bool (decide (q - 1 < 0))) ∧ w'.cell? ⟨w1.heap.size, 1, none⟩ = some (Value.slice x xn xc) ∧ w'.cell? ⟨w1.heap.size + 1, 0, none⟩ = some (Value.bool (decide (r + zv t (val lb) < 0))) ∧ w'.cell? ⟨w1.heap.size + 1, 1, none⟩ = some (Value.slice y yn yc))
      (first | exact ⟨KXq0_0, KXq1_0, KXr0_0, KXr1_0⟩ | exact ⟨(cell_set2 (by omega) _ _).trans (KXq0_0), (cell_set2 (by omega) _ _).trans (KXq1_0), (cell_set2 (by omega) _ _).trans (KXr0_0), (cell_set2 (by omega) _ _).trans (KXr1_0)⟩ | exact ⟨(cell_set2 (by omega) _ _).trans ((cell_set2 (by omega) _ _).trans (KXq0_0)), (cell_set2 (by omega) _ _).trans ((cell_set2 (by omega) _ _).trans (KXq1_0)), (cell_set2 (by omega) _ _).trans ((cell_set2 (by omega) _ _).trans (KXr0_0)), (cell_set2 (by omega) _ _).trans ((cell_set2 (by omega) _ _).trans (KXr1_0))⟩ | go_keep)
      (fail)
    clear acc0 Xq_h0 Xr_h0 KXq0_0 KXq1_0 KXr0_0 KXr1_0
    go_wp2
    refine bodyPost_ret (v := .tuple #[.agg #[.bool (decide (q - 1 < 0)), .slice x xn xc], .agg #[.bool (decide (r + zv t (val lb) < 0)), .slice y yn yc], .int .i64 0]) (by simp [results, Try.results60, go_sem, cR00_87, cR01_87, cR10_87, cR11_87]) rfl ?_
    first
      | exact retzz_set (B := W0.heap.size) (g := w.heap.size + 1 + 1) (g' := w.heap.size + 1 + 1 + 1) (Ox_85.mono (by omega)) (Oy_86.mono (by omega)) hdxy (by first | exact hbel87 | exact hbel87.drewN' _ | exact ⟨hbel87.os, hbel87.tape, hbel87.output, hbel87.size, hbel87.block⟩) (by omega) (by omega) (by omega) (by omega)
      | exact RetZZ.drew (retzz_set (B := W0.heap.size) (g := w.heap.size + 1 + 1) (g' := w.heap.size + 1 + 1 + 1) (Ox_85.mono (by omega)) (Oy_86.mono (by omega)) hdxy (by first | exact hbel87 | exact hbel87.drewN' _ | exact ⟨hbel87.os, hbel87.tape, hbel87.output, hbel87.size, hbel87.block⟩) (by omega) (by omega) (by omega) (by omega))

theorem rzfloor_any {w : World} {a : Option Addr} {n c : Nat} {la : List Nat} {b : Option Addr} {m d : Nat} {lb : List Nat} (s t : Bool) (ha : Rd w a n c la) (hn : n ≤ 4194304) (hb : Rd w b m d lb) (hm : m ≤ 4194304) :
    Calls Try.prog 60 #[.agg #[.bool s, .slice a n c], .agg #[.bool t, .slice b m d]] w
      (RetZZ w (if dvE (val lb) = 0 ∧ sgn (zv s (dvR (val la) (val lb))) * sgn (zv t (val lb)) < 0 then zv (!(s == t)) (val la / val lb) - 1 else zv (!(s == t)) (val la / val lb))
        (if dvE (val lb) = 0 ∧ sgn (zv s (dvR (val la) (val lb))) * sgn (zv t (val lb)) < 0 then zv s (dvR (val la) (val lb)) + zv t (val lb) else zv s (dvR (val la) (val lb))) (dvE (val lb))) := by
  by_cases he : dvE (val lb) = 0
  · have hb0 : val lb ≠ 0 := by intro h; unfold dvE at he; rw [if_pos h] at he; cases he
    have c1 := sgn_cases (zv s (dvR (val la) (val lb)))
    have c2 := sgn_cases (zv t (val lb))
    have hz : zv t (val lb) ≠ 0 := by have := zv_abs t (val lb); omega
    by_cases hc : sgn (zv s (dvR (val la) (val lb))) * sgn (zv t (val lb)) < 0
    · simp only [he, hc, and_self, if_true]
      refine rzfloor_down s t ha hn hb hm rfl rfl he ⟨fun h => ?_, fun h => ?_⟩
      · rw [h] at hc; omega
      · rw [h] at hc; rcases c2 with ⟨_, e⟩ | ⟨_, e⟩ | ⟨_, e⟩ <;> rw [e] at hc <;> omega
    · simp only [hc, and_false, if_false]; rw [he]
      by_cases h0 : sgn (zv s (dvR (val la) (val lb))) = 0
      · exact rzfloor_stay0 s t ha hn hb hm rfl rfl he h0
      · refine rzfloor_stay s t ha hn hb hm rfl rfl he ⟨h0, ?_⟩
        rcases c1 with ⟨_, e⟩ | ⟨_, e⟩ | ⟨_, e⟩ <;> rcases c2 with ⟨_, e'⟩ | ⟨_, e'⟩ | ⟨_, e'⟩ <;> rw [e, e'] at hc ⊢ <;> omega
  · have he' : dvE (val lb) = 11 := by unfold dvE at he ⊢; split at he <;> simp_all
    simp only [he, false_and, if_false]; rw [he']; exact rzfloor_err s t ha hn hb hm rfl rfl he'


end Go.Proofs.Ytokkfppchfmjcaa
