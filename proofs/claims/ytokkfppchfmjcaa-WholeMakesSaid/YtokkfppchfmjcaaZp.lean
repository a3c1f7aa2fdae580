/- WALKS OF WHOLE NUMBERS, 15: the reference's extended common divisor. -/
import Derived.Test.YtokkfppchfmjcaaZo2
import Derived.Test.YtokkfppchfmjcaaHd
import Derived.Deep.Cut
import Derived.Deep.CutRange
namespace Go.Proofs.Ytokkfppchfmjcaa
set_option linter.unusedVariables false
set_option linter.unusedSimpArgs false
open Go.ChangeShapes Go.WideShapes Go.ChangeAt Go.RowKit Go.NatP

theorem rzmulI {W : World} {i k : Option Addr} {j c l d : Nat} {x y : Int} (hx : Rd W i j c (lm x.natAbs)) (hj : j ≤ 4194304) (hy : Rd W k l d (lm y.natAbs)) (hl : l ≤ 4194304) :
    Calls Try.prog 59 #[.agg #[.bool (decide (x < 0)), .slice i j c], .agg #[.bool (decide (y < 0)), .slice k l d]] W (RetZ W (x * y)) := by
  have h := rzmul_any (decide (x < 0)) (decide (y < 0)) hx hy hj hl
  simpa only [val_lm, zv_self] using h
theorem rzsubI {W : World} {i k : Option Addr} {j c l d : Nat} {x y : Int} (hx : Rd W i j c (lm x.natAbs)) (hj : j ≤ 4194304) (hy : Rd W k l d (lm y.natAbs)) (hl : l ≤ 4194304) :
    Calls Try.prog 58 #[.agg #[.bool (decide (x < 0)), .slice i j c], .agg #[.bool (decide (y < 0)), .slice k l d]] W (RetZ W (x - y)) := by
  have h := rzsub_any (decide (x < 0)) (decide (y < 0)) hx hj hy hl
  simpa only [val_lm, zv_self] using h
theorem rzsignI {W : World} {i : Option Addr} {j c : Nat} {x : Int} (hx : Rd W i j c (lm x.natAbs)) (hj : j ≤ 16777216) :
    Calls Try.prog 87 #[.agg #[.bool (decide (x < 0)), .slice i j c]] W (RetIb W (sgn x)) := by
  have h := rzsign_any (decide (x < 0)) hx hj
  simpa only [val_lm, zv_self] using h
theorem rzsignI0 {W : World} {i : Option Addr} {j c : Nat} {x : Int} (hx : Rd W i j c (lm x.natAbs)) (hj : j ≤ 16777216) (h : x = 0) :
    Calls Try.prog 87 #[.agg #[.bool (decide (x < 0)), .slice i j c]] W (RetIb W 0) := by
  have h1 := rzsignI hx hj
  rwa [show sgn x = 0 by rw [h]; rfl] at h1
theorem rzsignI1 {W : World} {i : Option Addr} {j c : Nat} {x : Int} (hx : Rd W i j c (lm x.natAbs)) (hj : j ≤ 16777216) (h : 0 < x) :
    Calls Try.prog 87 #[.agg #[.bool (decide (x < 0)), .slice i j c]] W (RetIb W 1) := by
  have h1 := rzsignI hx hj
  rwa [show sgn x = 1 by have := sgn_cases x; omega] at h1
theorem rznegI {W : World} {i : Option Addr} {j c : Nat} {x z : Int} (hx : Rd W i j c (lm x.natAbs)) (hj : j ≤ 16777216) (hz : z = -x) :
    Calls Try.prog 56 #[.agg #[.bool (decide (x < 0)), .slice i j c]] W (RetZ W z) := by
  have h := rzneg_any (decide (x < 0)) hx hj
  rw [hz]
  simpa only [val_lm, zv_self, zv_not] using h
theorem rzquoI {W : World} {i k : Option Addr} {j c l d : Nat} {x y q z : Int} (hx : Rd W i j c (lm x.natAbs)) (hj : j ≤ 4194304) (hy : Rd W k l d (lm y.natAbs)) (hl : l ≤ 4194304) (h0 : 0 ≤ x) (h1 : 0 < y)
    (hq : q = ((x.natAbs / y.natAbs : Nat) : Int)) (hz : z = ((x.natAbs % y.natAbs : Nat) : Int)) :
    Calls Try.prog 61 #[.agg #[.bool (decide (x < 0)), .slice i j c], .agg #[.bool (decide (y < 0)), .slice k l d]] W (RetZZ W q z 0) := by
  have h := rzquo_any (decide (x < 0)) (decide (y < 0)) hx hj hy hl
  rw [val_lm, val_lm, dvE_pos (show y.natAbs ≠ 0 by omega)] at h
  rw [show zv (!(decide (x < 0) == decide (y < 0))) (x.natAbs / y.natAbs) = q by rw [hq, decide_eq_false (show ¬ x < 0 by omega), decide_eq_false (show ¬ y < 0 by omega)]; rfl,
    show zv (decide (x < 0)) (dvR x.natAbs y.natAbs) = z by rw [hz, decide_eq_false (show ¬ x < 0 by omega)]; unfold dvR; rw [if_neg (by omega)]; rfl] at h
  exact h

def lenW : Value → Nat
  | .slice _ n _ => n
  | _ => 0
theorem bz_rest {r0 r1 q : Int} (p0 : 0 ≤ r0) (p1 : 0 ≤ r1) (hq : q = ((r0.natAbs / r1.natAbs : Nat) : Int)) : (r0 - q * r1).natAbs = r0.natAbs % r1.natAbs := by
  have hd : (r1.natAbs : Int) * (r0.natAbs / r1.natAbs : Nat) + (r0.natAbs % r1.natAbs : Nat) = r0.natAbs := by exact_mod_cast Nat.div_add_mod r0.natAbs r1.natAbs
  rw [show (r1.natAbs : Int) = r1 by omega, show ((r0.natAbs : Nat) : Int) = r0 by omega] at hd
  have hr : r0 - q * r1 = ((r0.natAbs % r1.natAbs : Nat) : Int) := by rw [hq, Int.mul_comm]; omega
  omega
theorem aw_any {B : Nat} {W : World} {a : Option Addr} {n c g g' : Nat} {l : List Nat} (hO : Own B W a n c l) (h : Aw a g) (hg : g' = g ∨ W.heap.size ≤ g') : Aw a g' := by
  rcases hg with rfl | hg
  · exact h
  · intro j e he; have := (hO.lt' j e).2; omega

set_option maxRecDepth 100000 in
set_option maxHeartbeats 1500000 in
theorem rzbez_any {w : World} {a : Option Addr} {n c : Nat} {la : List Nat} {b : Option Addr} {m d : Nat} {lb : List Nat} (s t : Bool) (ha : Rd w a n c la) (hn : n ≤ 4194304) (hb : Rd w b m d lb) (hm : m ≤ 4194304) :
    Calls Try.prog 62 #[.agg #[.bool s, .slice a n c], .agg #[.bool t, .slice b m d]] w (RetBz w (Nat.gcd (val la) (val lb)) (bzS (zv s (val la)) (bzX (val la) (val lb) 1 0)) (bzS (zv t (val lb)) (bzX (val la) (val lb) 0 1))) := by
  obtain ⟨K, hK⟩ : ∃ K, K = 4194304 := ⟨_, rfl⟩
  obtain ⟨A, hA⟩ : ∃ A, val la = A := ⟨_, rfl⟩
  obtain ⟨B, hB0⟩ : ∃ B, val lb = B := ⟨_, rfl⟩
  have hSA : Hid (Sz A K) := by show Sz _ _; rw [← hA]; exact ha.szv.mono (Nat.le_refl _) (by omega)
  have hSB : Hid (Sz B K) := by show Sz _ _; rw [← hB0]; exact hb.szv.mono (Nat.le_refl _) (by omega)
  have hS1 : Hid (Sz 1 K) := (show Sz 1 1 by show 1 < 4294967296 ^ 1; decide).mono (Nat.le_refl _) (by omega)
  have hSM : ∀ z : Int, z.natAbs ≤ max A B ∨ z.natAbs ≤ max B 1 ∨ z.natAbs ≤ max A 1 → Hid (Sz z.natAbs K) := by intro z h; rcases (show z.natAbs ≤ A ∨ z.natAbs ≤ B ∨ z.natAbs ≤ 1 by omega) with h | h | h <;> first | exact hSA.out.mono h (Nat.le_refl _) | exact hSB.out.mono h (Nat.le_refl _) | exact hS1.out.mono h (Nat.le_refl _)
  have HM := hid hSM
  clear hSM
  obtain ⟨A0, hA0⟩ : ∃ A0 : Int, A0 = (A : Int) := ⟨_, rfl⟩
  obtain ⟨B0, hB00⟩ : ∃ B0 : Int, B0 = (B : Int) := ⟨_, rfl⟩
  have HOA := hid (fun W (ha : Rd W a n c la) => rmake_any false ha (show n ≤ 16777216 by omega))
  rw [hA, show zv false A = A0 from hA0.symm] at HOA
  have HOB := hid (fun W (hb : Rd W b m d lb) => rmake_any false hb (show m ≤ 16777216 by omega))
  rw [hB0, show zv false B = B0 from hB00.symm] at HOB
  have HSA := hid (fun W (ha : Rd W a n c la) => rzsign_any s ha (show n ≤ 16777216 by omega))
  have HSB := hid (fun W (hb : Rd W b m d lb) => rzsign_any t hb (show m ≤ 16777216 by omega))
  have hst : BzIn A B A0 B0 1 0 0 1 := by rw [hA0, hB00]; exact bzIn_start A B
  have HI := hid hst
  clear hst
  rw [hA] at HSA
  rw [hB0] at HSB
  rw [hA, hB0]
  obtain ⟨C, hC⟩ : ∃ C, C = nb A + nb B + 3 := ⟨_, rfl⟩
  have hCb : C ≤ 300000000 := by have h1 := nb_le.2 (show A < 2 ^ (32 * K) by have := hSA.out; unfold Sz at this; rwa [pow_32] at this); have h2 := nb_le.2 (show B < 2 ^ (32 * K) by have := hSB.out; unfold Sz at this; rwa [pow_32] at this); omega
  have hCR : BzR C (0 + 2) A0.natAbs B0.natAbs := by rw [hC, hA0, hB00]; exact bzR_start A B
  have HCR := hid hCR
  clear hC hCR hA0 hB00
  generalize hza : zv s A = za at *
  generalize hzb : zv t B = zb at *
  clear hza hzb hA hB0
  have hent := ent4 w #[Value.bool s, Value.slice a n c] #[Value.bool t, Value.slice b m d] #[Value.bool false, Value.slice none 0 0] #[Value.bool false, Value.slice none 0 0] 25 25 25 25
  go_enter Try.func62, Try.ntmps62
  go_wp2_with fail
  generalize ((((w.alloc (.cells #[Value.bool s, Value.slice a n c] 25)).alloc (.cells #[Value.bool t, Value.slice b m d] 25)).alloc (.cells #[Value.bool false, Value.slice none 0 0] 25)).alloc (.cells #[Value.bool false, Value.slice none 0 0] 25)) = W0 at hent ⊢
  obtain ⟨Xa_0, Xb_0, R0_0, R1_0, hbel0, hsz0⟩ := hent
  have Ra_1 := ha.below hbel0
  have Rb_2 := hb.below hbel0
  have cXa0_2 : _ = some (Value.bool s) := Xa_0.cell 0
  have cXa1_2 : _ = some (Value.slice a n c) := Xa_0.cell 1
  have cXb0_2 : _ = some (Value.bool t) := Xb_0.cell 0
  have cXb1_2 : _ = some (Value.slice b m d) := Xb_0.cell 1
  have cR00_2 : _ = some (Value.bool false) := R0_0.cell 0
  have fR00_2 := R0_0.free 0
  have cR01_2 : _ = some (Value.slice none 0 0) := R0_0.cell 1
  have fR01_2 := R0_0.free 1
  have cR10_2 : _ = some (Value.bool false) := R1_0.cell 0
  have fR10_2 := R1_0.free 0
  have cR11_2 : _ = some (Value.slice none 0 0) := R1_0.cell 1
  have fR11_2 := R1_0.free 1
  go_wp2_with fail
  have KXa0_0 : _ = some (Value.bool s) := Xa_0.cell 0
  have KXa1_0 : _ = some (Value.slice a n c) := Xa_0.cell 1
  have KXb0_0 : _ = some (Value.bool t) := Xb_0.cell 0
  have KXb1_0 : _ = some (Value.slice b m d) := Xb_0.cell 1
  have Xa_h0 := Xa_0
  have Xb_h0 := Xb_0
  have acc0 : Below W0.heap.size W0 W0 := Below.refl _ _
  go_region_held3 (fun w' => w'.cell? ⟨w.heap.size, 0, none⟩ = some (Value.bool s) ∧ w'.cell? ⟨w.heap.size, 1, none⟩ = some (Value.slice a n c) ∧ w'.cell? ⟨w.heap.size + 1, 0, none⟩ = some (Value.bool t) ∧ w'.cell? ⟨w.heap.size + 1, 1, none⟩ = some (Value.slice b m d))
    (first | exact ⟨KXa0_0, KXa1_0, KXb0_0, KXb1_0⟩ | exact ⟨KXa0_1, KXa1_1, KXb0_1, KXb1_1⟩ | exact ⟨KXa0_2, KXa1_2, KXb0_2, KXb1_2⟩ | exact ⟨KXa0_3, KXa1_3, KXb0_3, KXb1_3⟩ | exact ⟨KXa0_4, KXa1_4, KXb0_4, KXb1_4⟩ | go_keep)
    (first
      | (go_at_call 83; ((with_reducible refine (HOA.out _ (Ra_1.below (by first | exact acc0 | exact (acc0).drew))).mono ?_); (rintro e w1 ⟨p, pn, pc, rfl, hO1, hB⟩; have hst1 : Below W0.heap.size W0 w1 := (by first | exact hB | exact below_drew hB); have acc1 := acc0.next hst1; have Xa_h1 := Xa_h0.next hst1; have Xb_h1 := Xb_h0.next hst1; have KXa0_1 : _ = some (Value.bool s) := Xa_h1.cell 0; have KXa1_1 : _ = some (Value.slice a n c) := Xa_h1.cell 1; have KXb0_1 : _ = some (Value.bool t) := Xb_h1.cell 0; have KXb1_1 : _ = some (Value.slice b m d) := Xb_h1.cell 1; have hq1 := hst1.size)))
      | (go_at_call 88; ((with_reducible refine (rzofi_any 1 (by omega) (by omega)).mono ?_); (rintro e w2 ⟨q, qn, qc, rfl, hO2, hB⟩; have hst2 : Below w1.heap.size w1 w2 := (by first | exact hB | exact below_drew hB); have acc2 := acc1.next hst2; have Xa_h2 := Xa_h1.next hst2; have Xb_h2 := Xb_h1.next hst2; have KXa0_2 : _ = some (Value.bool s) := Xa_h2.cell 0; have KXa1_2 : _ = some (Value.slice a n c) := Xa_h2.cell 1; have KXb0_2 : _ = some (Value.bool t) := Xb_h2.cell 0; have KXb1_2 : _ = some (Value.slice b m d) := Xb_h2.cell 1; have hO1_2 := hO1.below hst2; have hq2 := hst2.size)))
      | (go_at_call 83; ((with_reducible refine (HOB.out _ (Rb_2.below (by first | exact acc2 | exact (acc2).drew))).mono ?_); (rintro e w3 ⟨p', p'n, p'c, rfl, hO3, hB⟩; have hst3 : Below w2.heap.size w2 w3 := (by first | exact hB | exact below_drew hB); have acc3 := acc2.next hst3; have Xa_h3 := Xa_h2.next hst3; have Xb_h3 := Xb_h2.next hst3; have KXa0_3 : _ = some (Value.bool s) := Xa_h3.cell 0; have KXa1_3 : _ = some (Value.slice a n c) := Xa_h3.cell 1; have KXb0_3 : _ = some (Value.bool t) := Xb_h3.cell 0; have KXb1_3 : _ = some (Value.slice b m d) := Xb_h3.cell 1; have hO1_3 := hO1_2.below hst3; have hO2_3 := hO2.below hst3; have hq3 := hst3.size)))
      | (go_at_call 88; ((with_reducible refine (rzofi_any 1 (by omega) (by omega)).mono ?_); (rintro e w4 ⟨r', r'n, r'c, rfl, hO4, hB⟩; have hst4 : Below w3.heap.size w3 w4 := (by first | exact hB | exact below_drew hB); have acc4 := acc3.next hst4; have Xa_h4 := Xa_h3.next hst4; have Xb_h4 := Xb_h3.next hst4; have KXa0_4 : _ = some (Value.bool s) := Xa_h4.cell 0; have KXa1_4 : _ = some (Value.slice a n c) := Xa_h4.cell 1; have KXb0_4 : _ = some (Value.bool t) := Xb_h4.cell 0; have KXb1_4 : _ = some (Value.slice b m d) := Xb_h4.cell 1; have hO1_4 := hO1_3.below hst4; have hO2_4 := hO2_3.below hst4; have hO3_4 := hO3.below hst4; have hq4 := hst4.size))))
  clear cXa0_2 cXa1_2 cXb0_2 cXb1_2 cR00_2 fR00_2 cR01_2 fR01_2 cR10_2 fR10_2 cR11_2 fR11_2
  have hstep : Below W0.heap.size W0 w4 := (by first | exact acc4 | exact below_drew acc4)
  have Xa_3 := Xa_0.next hstep
  have Xb_4 := Xb_0.next hstep
  have R0_5 := R0_0.next hstep
  have R1_6 := R1_0.next hstep
  have Ra_7 := Ra_1.below hstep
  have Rb_8 := Rb_2.below hstep
  have hbel9 := hbel0.next hstep
  have hle9 := hbel9.size
  have hls9 := hstep.size
  clear Xa_0 Xb_0 R0_0 R1_0 Ra_1 Rb_2 hbel0 hstep
  have cXa0_9 : _ = some (Value.bool s) := Xa_3.cell 0
  have cXa1_9 : _ = some (Value.slice a n c) := Xa_3.cell 1
  have cXb0_9 : _ = some (Value.bool t) := Xb_4.cell 0
  have cXb1_9 : _ = some (Value.slice b m d) := Xb_4.cell 1
  have cR00_9 : _ = some (Value.bool false) := R0_5.cell 0
  have fR00_9 := R0_5.free 0
  have cR01_9 : _ = some (Value.slice none 0 0) := R0_5.cell 1
  have fR01_9 := R0_5.free 1
  have cR10_9 : _ = some (Value.bool false) := R1_6.cell 0
  have fR10_9 := R1_6.free 0
  have cR11_9 : _ = some (Value.slice none 0 0) := R1_6.cell 1
  have fR11_9 := R1_6.free 1
  clear acc0 acc1 acc2 acc3 acc4 hst1 hst2 hst3 hst4 KXa0_0 KXa1_0 KXb0_0 KXb1_0 KXa0_1 KXa1_1 KXb0_1 KXb1_1 KXa0_2 KXa1_2 KXb0_2 KXb1_2 KXa0_3 KXa1_3 KXb0_3 KXb1_3 KXa0_4 KXa1_4 KXb0_4 KXb1_4 Xa_h0 Xa_h1 Xa_h2 Xa_h3 Xa_h4 Xb_h0 Xb_h1 Xb_h2 Xb_h3 Xb_h4
  go_wp2_with fail
  go_loopw [7] (fun vv wr => ∃ (k g cap : Nat) (r0 r1 x0 x1 y0 y1 : Int) (p : Option Addr) (pn pc : Nat) (q : Option Addr) (qn qc : Nat) (r : Option Addr) (rn rc : Nat) (p' : Option Addr) (p'n p'c : Nat) (q' : Option Addr) (q'n q'c : Nat) (r' : Option Addr) (r'n r'c : Nat), vv = .slice (some ⟨g, 0, none⟩) (k + 2) cap ∧ Hid (BzR C (k + 2) r0.natAbs r1.natAbs) ∧ Hid (BzIn A B r0 r1 x0 x1 y0 y1) ∧ Rows2 W0.heap.size wr g k cap [Value.bool (decide (r0 < 0)), Value.slice p pn pc, Value.bool (decide (x0 < 0)), Value.slice q qn qc, Value.bool (decide (y0 < 0)), Value.slice r rn rc, Value.bool (decide (r1 < 0)), Value.slice p' p'n p'c, Value.bool (decide (x1 < 0)), Value.slice q' q'n q'c, Value.bool (decide (y1 < 0)), Value.slice r' r'n r'c] ∧ Own W0.heap.size wr p pn pc (lm r0.natAbs) ∧ Own W0.heap.size wr q qn qc (lm x0.natAbs) ∧ Own W0.heap.size wr r rn rc (lm y0.natAbs) ∧ Own W0.heap.size wr p' p'n p'c (lm r1.natAbs) ∧ Own W0.heap.size wr q' q'n q'c (lm x1.natAbs) ∧ Own W0.heap.size wr r' r'n r'c (lm y1.natAbs) ∧ (Aw p g ∧ Aw q g ∧ Aw r g ∧ Aw p' g ∧ Aw q' g ∧ Aw r' g) ∧ (Diff p q ∧ Diff p r ∧ Diff q r ∧ Diff p' q' ∧ Diff p' r' ∧ Diff q' r') ∧ Blk wr (w.heap.size) #[Value.bool s, Value.slice a n c] ∧ Blk wr (w.heap.size + 1) #[Value.bool t, Value.slice b m d] ∧ Blk wr (w.heap.size + 1 + 1) #[Value.bool false, Value.slice none 0 0] ∧ Blk wr (w.heap.size + 1 + 1 + 1) #[Value.bool false, Value.slice none 0 0] ∧ Below w.heap.size w wr) (fun vv wr => C - lenW vv)
  case atStart =>
    exact ⟨0, _, 2, A0, B0, 1, 0, 0, 1, p, pn, pc, q, qn, qc, none, 0, 0, p', p'n, p'c, none, 0, 0, r', r'n, r'c, rfl, HCR, HI, Rows2.new (by omega) rfl, ((hO1_4.alloc _).mono (by first | omega | exact Nat.le_refl _ | (simp only [World.drew]; omega))), ((hO2_4.alloc _).mono (by first | omega | exact Nat.le_refl _ | (simp only [World.drew]; omega))), own_nil _ _, ((hO3_4.alloc _).mono (by first | omega | exact Nat.le_refl _ | (simp only [World.drew]; omega))), own_nil _ _, ((hO4.alloc _).mono (by first | omega | exact Nat.le_refl _ | (simp only [World.drew]; omega))), ⟨hO1_4.awOld (Nat.le_refl _), hO2_4.awOld (Nat.le_refl _), (fun g' e => by cases e), hO3_4.awOld (Nat.le_refl _), (fun g' e => by cases e), hO4.awOld (Nat.le_refl _)⟩, ⟨hO1.ltOf.diff hO2 (by first | exact Nat.le_refl _ | (simp only [World.drew]; omega) | omega), (fun g e e2 => by cases e2), (fun g e e2 => by cases e2), (fun g e e2 => by cases e2), hO3.ltOf.diff hO4 (by first | exact Nat.le_refl _ | (simp only [World.drew]; omega) | omega), (fun g e e2 => by cases e)⟩, Xa_3.alloc _, Xb_4.alloc _, R0_5.alloc _, R1_6.alloc _, hbel9.alloc (by omega) _⟩
  case round =>
    obtain ⟨k, g, cap, r0, r1, x0, x1, y0, y1, p, pn, pc, q, qn, qc, r, rn, rc, p', p'n, p'c, q', q'n, q'c, r', r'n, r'c, rfl, HC, HI, V_0, Op_0, Oq_0, Or_0, Op'_0, Oq'_0, Or'_0, ⟨awpg, awqg, awrg, awp'g, awq'g, awr'g⟩, ⟨dfpq, dfpr, dfqr, dfp'q', dfp'r', dfq'r'⟩, Xa_0, Xb_0, R0_0, R1_0, hbel0⟩ := hrel
    have hkC := HC.out.le
    have hVl := V_0.lt
    have hswr := hbel0.size
    have ltp := Op_0.ltOf
    have ltq := Oq_0.ltOf
    have ltr := Or_0.ltOf
    have ltp' := Op'_0.ltOf
    have ltq' := Oq'_0.ltOf
    have ltr' := Or'_0.ltOf
    have hlp : pn ≤ 4194304 := by rw [← hK]; exact len_le (l := la) Op_0.len ((HM.out _ (.inl HI.out.b0)).out)
    have hlq : qn ≤ 4194304 := by rw [← hK]; exact len_le (l := la) Oq_0.len ((HM.out _ (.inr (.inl HI.out.n0))).out)
    have hlr : rn ≤ 4194304 := by rw [← hK]; exact len_le (l := la) Or_0.len ((HM.out _ (.inr (.inr HI.out.m0))).out)
    have hlp' : p'n ≤ 4194304 := by rw [← hK]; exact len_le (l := la) Op'_0.len ((HM.out _ (.inl HI.out.b1)).out)
    have hlq' : q'n ≤ 4194304 := by rw [← hK]; exact len_le (l := la) Oq'_0.len ((HM.out _ (.inr (.inl HI.out.n1))).out)
    have hlr' : r'n ≤ 4194304 := by rw [← hK]; exact len_le (l := la) Or'_0.len ((HM.out _ (.inr (.inr HI.out.m1))).out)
    have cXa0_0 : _ = some (Value.bool s) := Xa_0.cell 0
    have cXa1_0 : _ = some (Value.slice a n c) := Xa_0.cell 1
    have cXb0_0 : _ = some (Value.bool t) := Xb_0.cell 0
    have cXb1_0 : _ = some (Value.slice b m d) := Xb_0.cell 1
    have cR00_0 : _ = some (Value.bool false) := R0_0.cell 0
    have fR00_0 := R0_0.free 0
    have cR01_0 : _ = some (Value.slice none 0 0) := R0_0.cell 1
    have fR01_0 := R0_0.free 1
    have cR10_0 : _ = some (Value.bool false) := R1_0.cell 0
    have fR10_0 := R1_0.free 0
    have cR11_0 : _ = some (Value.slice none 0 0) := R1_0.cell 1
    have fR11_0 := R1_0.free 1
    have cV0_0 : World.cell? wr ⟨g, k * 6, none⟩ = some (Value.bool (decide (r0 < 0))) := V_0.cell0 0 (by decide)
    have cV1_0 : World.cell? wr ⟨g, k * 6 + 1, none⟩ = some (Value.slice p pn pc) := V_0.cell0 1 (by decide)
    have cV2_0 : World.cell? wr ⟨g, k * 6 + 2, none⟩ = some (Value.bool (decide (x0 < 0))) := V_0.cell0 2 (by decide)
    have cV3_0 : World.cell? wr ⟨g, k * 6 + 3, none⟩ = some (Value.slice q qn qc) := V_0.cell0 3 (by decide)
    have cV4_0 : World.cell? wr ⟨g, k * 6 + 4, none⟩ = some (Value.bool (decide (y0 < 0))) := V_0.cell0 4 (by decide)
    have cV5_0 : World.cell? wr ⟨g, k * 6 + 5, none⟩ = some (Value.slice r rn rc) := V_0.cell0 5 (by decide)
    have cV6_0 : World.cell? wr ⟨g, (k + 1) * 6, none⟩ = some (Value.bool (decide (r1 < 0))) := V_0.cell1 0 (by decide)
    have cV7_0 : World.cell? wr ⟨g, (k + 1) * 6 + 1, none⟩ = some (Value.slice p' p'n p'c) := V_0.cell1 1 (by decide)
    have cV8_0 : World.cell? wr ⟨g, (k + 1) * 6 + 2, none⟩ = some (Value.bool (decide (x1 < 0))) := V_0.cell1 2 (by decide)
    have cV9_0 : World.cell? wr ⟨g, (k + 1) * 6 + 3, none⟩ = some (Value.slice q' q'n q'c) := V_0.cell1 3 (by decide)
    have cV10_0 : World.cell? wr ⟨g, (k + 1) * 6 + 4, none⟩ = some (Value.bool (decide (y1 < 0))) := V_0.cell1 4 (by decide)
    have cV11_0 : World.cell? wr ⟨g, (k + 1) * 6 + 5, none⟩ = some (Value.slice r' r'n r'c) := V_0.cell1 5 (by decide)
    rcases (show Hid (r1 = 0) ∨ Hid (0 < r1) from (Int.lt_or_eq_of_le HI.out.p1).elim (fun h => .inr h) (fun h => .inl h.symm)) with hr1 | hr1p
    · skip
      go_wp2_with fail
      refine (rzsignI0 Op'_0.rd (by omega) hr1.out).mono ?_
      rintro e w101 ⟨rfl, hB⟩
      clear cXa0_0 cXa1_0 cXb0_0 cXb1_0 cR00_0 fR00_0 cR01_0 fR01_0 cR10_0 fR10_0 cR11_0 fR11_0 cV0_0 cV1_0 cV2_0 cV3_0 cV4_0 cV5_0 cV6_0 cV7_0 cV8_0 cV9_0 cV10_0 cV11_0
      have hstep : Below wr.heap.size wr w101 := (by first | exact hB | exact below_drew hB)
      have Xa_1 := Xa_0.next hstep
      have Xb_2 := Xb_0.next hstep
      have R0_3 := R0_0.next hstep
      have R1_4 := R1_0.next hstep
      have V_5 := V_0.next hstep
      have Op_6 := Op_0.below hstep
      have Oq_7 := Oq_0.below hstep
      have Or_8 := Or_0.below hstep
      have Op'_9 := Op'_0.below hstep
      have Oq'_10 := Oq'_0.below hstep
      have Or'_11 := Or'_0.below hstep
      have hbel12 := hbel0.next hstep
      have hle12 := hbel12.size
      have hls12 := hstep.size
      clear Xa_0 Xb_0 R0_0 R1_0 V_0 Op_0 Oq_0 Or_0 Op'_0 Oq'_0 Or'_0 hbel0 hstep
      have cXa0_12 : _ = some (Value.bool s) := Xa_1.cell 0
      have cXa1_12 : _ = some (Value.slice a n c) := Xa_1.cell 1
      have cXb0_12 : _ = some (Value.bool t) := Xb_2.cell 0
      have cXb1_12 : _ = some (Value.slice b m d) := Xb_2.cell 1
      have cR00_12 : _ = some (Value.bool false) := R0_3.cell 0
      have fR00_12 := R0_3.free 0
      have cR01_12 : _ = some (Value.slice none 0 0) := R0_3.cell 1
      have fR01_12 := R0_3.free 1
      have cR10_12 : _ = some (Value.bool false) := R1_4.cell 0
      have fR10_12 := R1_4.free 0
      have cR11_12 : _ = some (Value.slice none 0 0) := R1_4.cell 1
      have fR11_12 := R1_4.free 1
      have cV0_12 : World.cell? w101 ⟨g, k * 6, none⟩ = some (Value.bool (decide (r0 < 0))) := V_5.cell0 0 (by decide)
      have cV1_12 : World.cell? w101 ⟨g, k * 6 + 1, none⟩ = some (Value.slice p pn pc) := V_5.cell0 1 (by decide)
      have cV2_12 : World.cell? w101 ⟨g, k * 6 + 2, none⟩ = some (Value.bool (decide (x0 < 0))) := V_5.cell0 2 (by decide)
      have cV3_12 : World.cell? w101 ⟨g, k * 6 + 3, none⟩ = some (Value.slice q qn qc) := V_5.cell0 3 (by decide)
      have cV4_12 : World.cell? w101 ⟨g, k * 6 + 4, none⟩ = some (Value.bool (decide (y0 < 0))) := V_5.cell0 4 (by decide)
      have cV5_12 : World.cell? w101 ⟨g, k * 6 + 5, none⟩ = some (Value.slice r rn rc) := V_5.cell0 5 (by decide)
      have cV6_12 : World.cell? w101 ⟨g, (k + 1) * 6, none⟩ = some (Value.bool (decide (r1 < 0))) := V_5.cell1 0 (by decide)
      have cV7_12 : World.cell? w101 ⟨g, (k + 1) * 6 + 1, none⟩ = some (Value.slice p' p'n p'c) := V_5.cell1 1 (by decide)
      have cV8_12 : World.cell? w101 ⟨g, (k + 1) * 6 + 2, none⟩ = some (Value.bool (decide (x1 < 0))) := V_5.cell1 2 (by decide)
      have cV9_12 : World.cell? w101 ⟨g, (k + 1) * 6 + 3, none⟩ = some (Value.slice q' q'n q'c) := V_5.cell1 3 (by decide)
      have cV10_12 : World.cell? w101 ⟨g, (k + 1) * 6 + 4, none⟩ = some (Value.bool (decide (y1 < 0))) := V_5.cell1 4 (by decide)
      have cV11_12 : World.cell? w101 ⟨g, (k + 1) * 6 + 5, none⟩ = some (Value.slice r' r'n r'c) := V_5.cell1 5 (by decide)
      clear Op'_9
      clear Oq'_10
      clear Or'_11
      obtain ⟨e1, -, e2, e3⟩ := HI.out.done hr1.out
      have E1 := hid e1
      have E2 := hid e2
      have E3 := hid e3
      clear e1 e2 e3 HI
      rcases Int.lt_or_le za 0 with hzaS | hzaS <;> rcases Int.lt_or_le zb 0 with hzbS | hzbS
      · skip
        obtain ⟨nx0, hnx0⟩ : ∃ z, z = -x0 := ⟨_, rfl⟩
        have HNx0 := hid hnx0
        clear hnx0
        obtain ⟨ny0, hny0⟩ : ∃ z, z = -y0 := ⟨_, rfl⟩
        have HNy0 := hid hny0
        clear hny0
        have hba : bzS za x0 = nx0 := (if_pos hzaS).trans HNx0.out.symm
        have hbb : bzS zb y0 = ny0 := (if_pos hzbS).trans HNy0.out.symm
        have HBA := hid hba
        have HBB := hid hbb
        clear hba hbb
        generalize hsa : sgn za = ga at HSA
        generalize hsb : sgn zb = gb at HSB
        have hsa' : ga = -1 := by have := sgn_cases za; omega
        have hsb' : gb = -1 := by have := sgn_cases zb; omega
        clear hsa hsb hzaS hzbS
        subst hsa'
        subst hsb'
        have hbx := blk_new' w101 #[Value.bool (decide (r0 < 0)), Value.slice p pn pc, Value.bool (decide (x0 < 0)), Value.slice q qn qc, Value.bool (decide (y0 < 0)), Value.slice r rn rc] 118 (g := w101.heap.size) (by simp)
        have hbB := (Below.refl w101.heap.size w101).alloc (Nat.le_refl _) (.cells #[Value.bool (decide (r0 < 0)), Value.slice p pn pc, Value.bool (decide (x0 < 0)), Value.slice q qn qc, Value.bool (decide (y0 < 0)), Value.slice r rn rc] 118)
        have hbg := hbx.lt
        have hstep : Below w101.heap.size w101 (w101.alloc (.cells #[Value.bool (decide (r0 < 0)), Value.slice p pn pc, Value.bool (decide (x0 < 0)), Value.slice q qn qc, Value.bool (decide (y0 < 0)), Value.slice r rn rc] 118)) := (by first | exact hbB | exact below_drew hbB)
        have Xa_13 := Xa_1.next hstep
        have Xb_14 := Xb_2.next hstep
        have R0_15 := R0_3.next hstep
        have R1_16 := R1_4.next hstep
        have V_17 := V_5.next hstep
        have Op_18 := Op_6.below hstep
        have Oq_19 := Oq_7.below hstep
        have Or_20 := Or_8.below hstep
        have hbel21 := hbel12.next hstep
        have hle21 := hbel21.size
        have hls21 := hstep.size
        clear Xa_1 Xb_2 R0_3 R1_4 V_5 Op_6 Oq_7 Or_8 hbel12 hstep
        have cXa0_21 : _ = some (Value.bool s) := Xa_13.cell 0
        have cXa1_21 : _ = some (Value.slice a n c) := Xa_13.cell 1
        have cXb0_21 : _ = some (Value.bool t) := Xb_14.cell 0
        have cXb1_21 : _ = some (Value.slice b m d) := Xb_14.cell 1
        have cR00_21 : _ = some (Value.bool false) := R0_15.cell 0
        have fR00_21 := R0_15.free 0
        have cR01_21 : _ = some (Value.slice none 0 0) := R0_15.cell 1
        have fR01_21 := R0_15.free 1
        have cR10_21 : _ = some (Value.bool false) := R1_16.cell 0
        have fR10_21 := R1_16.free 0
        have cR11_21 : _ = some (Value.slice none 0 0) := R1_16.cell 1
        have fR11_21 := R1_16.free 1
        have cV0_21 : World.cell? (w101.alloc (.cells #[Value.bool (decide (r0 < 0)), Value.slice p pn pc, Value.bool (decide (x0 < 0)), Value.slice q qn qc, Value.bool (decide (y0 < 0)), Value.slice r rn rc] 118)) ⟨g, k * 6, none⟩ = some (Value.bool (decide (r0 < 0))) := V_17.cell0 0 (by decide)
        have cV1_21 : World.cell? (w101.alloc (.cells #[Value.bool (decide (r0 < 0)), Value.slice p pn pc, Value.bool (decide (x0 < 0)), Value.slice q qn qc, Value.bool (decide (y0 < 0)), Value.slice r rn rc] 118)) ⟨g, k * 6 + 1, none⟩ = some (Value.slice p pn pc) := V_17.cell0 1 (by decide)
        have cV2_21 : World.cell? (w101.alloc (.cells #[Value.bool (decide (r0 < 0)), Value.slice p pn pc, Value.bool (decide (x0 < 0)), Value.slice q qn qc, Value.bool (decide (y0 < 0)), Value.slice r rn rc] 118)) ⟨g, k * 6 + 2, none⟩ = some (Value.bool (decide (x0 < 0))) := V_17.cell0 2 (by decide)
        have cV3_21 : World.cell? (w101.alloc (.cells #[Value.bool (decide (r0 < 0)), Value.slice p pn pc, Value.bool (decide (x0 < 0)), Value.slice q qn qc, Value.bool (decide (y0 < 0)), Value.slice r rn rc] 118)) ⟨g, k * 6 + 3, none⟩ = some (Value.slice q qn qc) := V_17.cell0 3 (by decide)
        have cV4_21 : World.cell? (w101.alloc (.cells #[Value.bool (decide (r0 < 0)), Value.slice p pn pc, Value.bool (decide (x0 < 0)), Value.slice q qn qc, Value.bool (decide (y0 < 0)), Value.slice r rn rc] 118)) ⟨g, k * 6 + 4, none⟩ = some (Value.bool (decide (y0 < 0))) := V_17.cell0 4 (by decide)
        have cV5_21 : World.cell? (w101.alloc (.cells #[Value.bool (decide (r0 < 0)), Value.slice p pn pc, Value.bool (decide (x0 < 0)), Value.slice q qn qc, Value.bool (decide (y0 < 0)), Value.slice r rn rc] 118)) ⟨g, k * 6 + 5, none⟩ = some (Value.slice r rn rc) := V_17.cell0 5 (by decide)
        have cV6_21 : World.cell? (w101.alloc (.cells #[Value.bool (decide (r0 < 0)), Value.slice p pn pc, Value.bool (decide (x0 < 0)), Value.slice q qn qc, Value.bool (decide (y0 < 0)), Value.slice r rn rc] 118)) ⟨g, (k + 1) * 6, none⟩ = some (Value.bool (decide (r1 < 0))) := V_17.cell1 0 (by decide)
        have cV7_21 : World.cell? (w101.alloc (.cells #[Value.bool (decide (r0 < 0)), Value.slice p pn pc, Value.bool (decide (x0 < 0)), Value.slice q qn qc, Value.bool (decide (y0 < 0)), Value.slice r rn rc] 118)) ⟨g, (k + 1) * 6 + 1, none⟩ = some (Value.slice p' p'n p'c) := V_17.cell1 1 (by decide)
        have cV8_21 : World.cell? (w101.alloc (.cells #[Value.bool (decide (r0 < 0)), Value.slice p pn pc, Value.bool (decide (x0 < 0)), Value.slice q qn qc, Value.bool (decide (y0 < 0)), Value.slice r rn rc] 118)) ⟨g, (k + 1) * 6 + 2, none⟩ = some (Value.bool (decide (x1 < 0))) := V_17.cell1 2 (by decide)
        have cV9_21 : World.cell? (w101.alloc (.cells #[Value.bool (decide (r0 < 0)), Value.slice p pn pc, Value.bool (decide (x0 < 0)), Value.slice q qn qc, Value.bool (decide (y0 < 0)), Value.slice r rn rc] 118)) ⟨g, (k + 1) * 6 + 3, none⟩ = some (Value.slice q' q'n q'c) := V_17.cell1 3 (by decide)
        have cV10_21 : World.cell? (w101.alloc (.cells #[Value.bool (decide (r0 < 0)), Value.slice p pn pc, Value.bool (decide (x0 < 0)), Value.slice q qn qc, Value.bool (decide (y0 < 0)), Value.slice r rn rc] 118)) ⟨g, (k + 1) * 6 + 4, none⟩ = some (Value.bool (decide (y1 < 0))) := V_17.cell1 4 (by decide)
        have cV11_21 : World.cell? (w101.alloc (.cells #[Value.bool (decide (r0 < 0)), Value.slice p pn pc, Value.bool (decide (x0 < 0)), Value.slice q qn qc, Value.bool (decide (y0 < 0)), Value.slice r rn rc] 118)) ⟨g, (k + 1) * 6 + 5, none⟩ = some (Value.slice r' r'n r'c) := V_17.cell1 5 (by decide)
        have L_22 := hbx
        have cL0_22 : _ = some (Value.bool (decide (r0 < 0))) := L_22.cell 0
        have cL1_22 : _ = some (Value.slice p pn pc) := L_22.cell 1
        have cL2_22 : _ = some (Value.bool (decide (x0 < 0))) := L_22.cell 2
        have cL3_22 : _ = some (Value.slice q qn qc) := L_22.cell 3
        have cL4_22 : _ = some (Value.bool (decide (y0 < 0))) := L_22.cell 4
        have cL5_22 : _ = some (Value.slice r rn rc) := L_22.cell 5
        clear hbx hbB
        have hbx := blk_new' (w101.alloc (.cells #[Value.bool (decide (r0 < 0)), Value.slice p pn pc, Value.bool (decide (x0 < 0)), Value.slice q qn qc, Value.bool (decide (y0 < 0)), Value.slice r rn rc] 118)) #[Value.bool (decide (x0 < 0)), Value.slice q qn qc] 25 (g := w101.heap.size + 1) (by simp)
        have hbB := (Below.refl (w101.alloc (.cells #[Value.bool (decide (r0 < 0)), Value.slice p pn pc, Value.bool (decide (x0 < 0)), Value.slice q qn qc, Value.bool (decide (y0 < 0)), Value.slice r rn rc] 118)).heap.size (w101.alloc (.cells #[Value.bool (decide (r0 < 0)), Value.slice p pn pc, Value.bool (decide (x0 < 0)), Value.slice q qn qc, Value.bool (decide (y0 < 0)), Value.slice r rn rc] 118))).alloc (Nat.le_refl _) (.cells #[Value.bool (decide (x0 < 0)), Value.slice q qn qc] 25)
        have hbg := hbx.lt
        have hstep : Below (w101.alloc (.cells #[Value.bool (decide (r0 < 0)), Value.slice p pn pc, Value.bool (decide (x0 < 0)), Value.slice q qn qc, Value.bool (decide (y0 < 0)), Value.slice r rn rc] 118)).heap.size (w101.alloc (.cells #[Value.bool (decide (r0 < 0)), Value.slice p pn pc, Value.bool (decide (x0 < 0)), Value.slice q qn qc, Value.bool (decide (y0 < 0)), Value.slice r rn rc] 118)) ((w101.alloc (.cells #[Value.bool (decide (r0 < 0)), Value.slice p pn pc, Value.bool (decide (x0 < 0)), Value.slice q qn qc, Value.bool (decide (y0 < 0)), Value.slice r rn rc] 118)).alloc (.cells #[Value.bool (decide (x0 < 0)), Value.slice q qn qc] 25)) := (by first | exact hbB | exact below_drew hbB)
        have Xa_23 := Xa_13.next hstep
        have Xb_24 := Xb_14.next hstep
        have R0_25 := R0_15.next hstep
        have R1_26 := R1_16.next hstep
        have V_27 := V_17.next hstep
        have L_28 := L_22.next hstep
        have Op_29 := Op_18.below hstep
        have Oq_30 := Oq_19.below hstep
        have Or_31 := Or_20.below hstep
        have hbel32 := hbel21.next hstep
        have hle32 := hbel32.size
        have hls32 := hstep.size
        clear Xa_13 Xb_14 R0_15 R1_16 V_17 L_22 Op_18 Oq_19 Or_20 hbel21 hstep
        have cXa0_32 : _ = some (Value.bool s) := Xa_23.cell 0
        have cXa1_32 : _ = some (Value.slice a n c) := Xa_23.cell 1
        have cXb0_32 : _ = some (Value.bool t) := Xb_24.cell 0
        have cXb1_32 : _ = some (Value.slice b m d) := Xb_24.cell 1
        have cR00_32 : _ = some (Value.bool false) := R0_25.cell 0
        have fR00_32 := R0_25.free 0
        have cR01_32 : _ = some (Value.slice none 0 0) := R0_25.cell 1
        have fR01_32 := R0_25.free 1
        have cR10_32 : _ = some (Value.bool false) := R1_26.cell 0
        have fR10_32 := R1_26.free 0
        have cR11_32 : _ = some (Value.slice none 0 0) := R1_26.cell 1
        have fR11_32 := R1_26.free 1
        have cV0_32 : World.cell? ((w101.alloc (.cells #[Value.bool (decide (r0 < 0)), Value.slice p pn pc, Value.bool (decide (x0 < 0)), Value.slice q qn qc, Value.bool (decide (y0 < 0)), Value.slice r rn rc] 118)).alloc (.cells #[Value.bool (decide (x0 < 0)), Value.slice q qn qc] 25)) ⟨g, k * 6, none⟩ = some (Value.bool (decide (r0 < 0))) := V_27.cell0 0 (by decide)
        have cV1_32 : World.cell? ((w101.alloc (.cells #[Value.bool (decide (r0 < 0)), Value.slice p pn pc, Value.bool (decide (x0 < 0)), Value.slice q qn qc, Value.bool (decide (y0 < 0)), Value.slice r rn rc] 118)).alloc (.cells #[Value.bool (decide (x0 < 0)), Value.slice q qn qc] 25)) ⟨g, k * 6 + 1, none⟩ = some (Value.slice p pn pc) := V_27.cell0 1 (by decide)
        have cV2_32 : World.cell? ((w101.alloc (.cells #[Value.bool (decide (r0 < 0)), Value.slice p pn pc, Value.bool (decide (x0 < 0)), Value.slice q qn qc, Value.bool (decide (y0 < 0)), Value.slice r rn rc] 118)).alloc (.cells #[Value.bool (decide (x0 < 0)), Value.slice q qn qc] 25)) ⟨g, k * 6 + 2, none⟩ = some (Value.bool (decide (x0 < 0))) := V_27.cell0 2 (by decide)
        have cV3_32 : World.cell? ((w101.alloc (.cells #[Value.bool (decide (r0 < 0)), Value.slice p pn pc, Value.bool (decide (x0 < 0)), Value.slice q qn qc, Value.bool (decide (y0 < 0)), Value.slice r rn rc] 118)).alloc (.cells #[Value.bool (decide (x0 < 0)), Value.slice q qn qc] 25)) ⟨g, k * 6 + 3, none⟩ = some (Value.slice q qn qc) := V_27.cell0 3 (by decide)
        have cV4_32 : World.cell? ((w101.alloc (.cells #[Value.bool (decide (r0 < 0)), Value.slice p pn pc, Value.bool (decide (x0 < 0)), Value.slice q qn qc, Value.bool (decide (y0 < 0)), Value.slice r rn rc] 118)).alloc (.cells #[Value.bool (decide (x0 < 0)), Value.slice q qn qc] 25)) ⟨g, k * 6 + 4, none⟩ = some (Value.bool (decide (y0 < 0))) := V_27.cell0 4 (by decide)
        have cV5_32 : World.cell? ((w101.alloc (.cells #[Value.bool (decide (r0 < 0)), Value.slice p pn pc, Value.bool (decide (x0 < 0)), Value.slice q qn qc, Value.bool (decide (y0 < 0)), Value.slice r rn rc] 118)).alloc (.cells #[Value.bool (decide (x0 < 0)), Value.slice q qn qc] 25)) ⟨g, k * 6 + 5, none⟩ = some (Value.slice r rn rc) := V_27.cell0 5 (by decide)
        have cV6_32 : World.cell? ((w101.alloc (.cells #[Value.bool (decide (r0 < 0)), Value.slice p pn pc, Value.bool (decide (x0 < 0)), Value.slice q qn qc, Value.bool (decide (y0 < 0)), Value.slice r rn rc] 118)).alloc (.cells #[Value.bool (decide (x0 < 0)), Value.slice q qn qc] 25)) ⟨g, (k + 1) * 6, none⟩ = some (Value.bool (decide (r1 < 0))) := V_27.cell1 0 (by decide)
        have cV7_32 : World.cell? ((w101.alloc (.cells #[Value.bool (decide (r0 < 0)), Value.slice p pn pc, Value.bool (decide (x0 < 0)), Value.slice q qn qc, Value.bool (decide (y0 < 0)), Value.slice r rn rc] 118)).alloc (.cells #[Value.bool (decide (x0 < 0)), Value.slice q qn qc] 25)) ⟨g, (k + 1) * 6 + 1, none⟩ = some (Value.slice p' p'n p'c) := V_27.cell1 1 (by decide)
        have cV8_32 : World.cell? ((w101.alloc (.cells #[Value.bool (decide (r0 < 0)), Value.slice p pn pc, Value.bool (decide (x0 < 0)), Value.slice q qn qc, Value.bool (decide (y0 < 0)), Value.slice r rn rc] 118)).alloc (.cells #[Value.bool (decide (x0 < 0)), Value.slice q qn qc] 25)) ⟨g, (k + 1) * 6 + 2, none⟩ = some (Value.bool (decide (x1 < 0))) := V_27.cell1 2 (by decide)
        have cV9_32 : World.cell? ((w101.alloc (.cells #[Value.bool (decide (r0 < 0)), Value.slice p pn pc, Value.bool (decide (x0 < 0)), Value.slice q qn qc, Value.bool (decide (y0 < 0)), Value.slice r rn rc] 118)).alloc (.cells #[Value.bool (decide (x0 < 0)), Value.slice q qn qc] 25)) ⟨g, (k + 1) * 6 + 3, none⟩ = some (Value.slice q' q'n q'c) := V_27.cell1 3 (by decide)
        have cV10_32 : World.cell? ((w101.alloc (.cells #[Value.bool (decide (r0 < 0)), Value.slice p pn pc, Value.bool (decide (x0 < 0)), Value.slice q qn qc, Value.bool (decide (y0 < 0)), Value.slice r rn rc] 118)).alloc (.cells #[Value.bool (decide (x0 < 0)), Value.slice q qn qc] 25)) ⟨g, (k + 1) * 6 + 4, none⟩ = some (Value.bool (decide (y1 < 0))) := V_27.cell1 4 (by decide)
        have cV11_32 : World.cell? ((w101.alloc (.cells #[Value.bool (decide (r0 < 0)), Value.slice p pn pc, Value.bool (decide (x0 < 0)), Value.slice q qn qc, Value.bool (decide (y0 < 0)), Value.slice r rn rc] 118)).alloc (.cells #[Value.bool (decide (x0 < 0)), Value.slice q qn qc] 25)) ⟨g, (k + 1) * 6 + 5, none⟩ = some (Value.slice r' r'n r'c) := V_27.cell1 5 (by decide)
        have cL0_32 : _ = some (Value.bool (decide (r0 < 0))) := L_28.cell 0
        have cL1_32 : _ = some (Value.slice p pn pc) := L_28.cell 1
        have cL2_32 : _ = some (Value.bool (decide (x0 < 0))) := L_28.cell 2
        have cL3_32 : _ = some (Value.slice q qn qc) := L_28.cell 3
        have cL4_32 : _ = some (Value.bool (decide (y0 < 0))) := L_28.cell 4
        have cL5_32 : _ = some (Value.slice r rn rc) := L_28.cell 5
        have Xx_33 := hbx
        have cXx0_33 : _ = some (Value.bool (decide (x0 < 0))) := Xx_33.cell 0
        have fXx0_33 := Xx_33.free 0
        have cXx1_33 : _ = some (Value.slice q qn qc) := Xx_33.cell 1
        have fXx1_33 := Xx_33.free 1
        clear hbx hbB
        have hbx := blk_new' ((w101.alloc (.cells #[Value.bool (decide (r0 < 0)), Value.slice p pn pc, Value.bool (decide (x0 < 0)), Value.slice q qn qc, Value.bool (decide (y0 < 0)), Value.slice r rn rc] 118)).alloc (.cells #[Value.bool (decide (x0 < 0)), Value.slice q qn qc] 25)) #[Value.bool (decide (y0 < 0)), Value.slice r rn rc] 25 (g := w101.heap.size + 1 + 1) (by simp)
        have hbB := (Below.refl ((w101.alloc (.cells #[Value.bool (decide (r0 < 0)), Value.slice p pn pc, Value.bool (decide (x0 < 0)), Value.slice q qn qc, Value.bool (decide (y0 < 0)), Value.slice r rn rc] 118)).alloc (.cells #[Value.bool (decide (x0 < 0)), Value.slice q qn qc] 25)).heap.size ((w101.alloc (.cells #[Value.bool (decide (r0 < 0)), Value.slice p pn pc, Value.bool (decide (x0 < 0)), Value.slice q qn qc, Value.bool (decide (y0 < 0)), Value.slice r rn rc] 118)).alloc (.cells #[Value.bool (decide (x0 < 0)), Value.slice q qn qc] 25))).alloc (Nat.le_refl _) (.cells #[Value.bool (decide (y0 < 0)), Value.slice r rn rc] 25)
        have hbg := hbx.lt
        have hstep : Below ((w101.alloc (.cells #[Value.bool (decide (r0 < 0)), Value.slice p pn pc, Value.bool (decide (x0 < 0)), Value.slice q qn qc, Value.bool (decide (y0 < 0)), Value.slice r rn rc] 118)).alloc (.cells #[Value.bool (decide (x0 < 0)), Value.slice q qn qc] 25)).heap.size ((w101.alloc (.cells #[Value.bool (decide (r0 < 0)), Value.slice p pn pc, Value.bool (decide (x0 < 0)), Value.slice q qn qc, Value.bool (decide (y0 < 0)), Value.slice r rn rc] 118)).alloc (.cells #[Value.bool (decide (x0 < 0)), Value.slice q qn qc] 25)) (((w101.alloc (.cells #[Value.bool (decide (r0 < 0)), Value.slice p pn pc, Value.bool (decide (x0 < 0)), Value.slice q qn qc, Value.bool (decide (y0 < 0)), Value.slice r rn rc] 118)).alloc (.cells #[Value.bool (decide (x0 < 0)), Value.slice q qn qc] 25)).alloc (.cells #[Value.bool (decide (y0 < 0)), Value.slice r rn rc] 25)) := (by first | exact hbB | exact below_drew hbB)
        have Xa_34 := Xa_23.next hstep
        have Xb_35 := Xb_24.next hstep
        have R0_36 := R0_25.next hstep
        have R1_37 := R1_26.next hstep
        have V_38 := V_27.next hstep
        have L_39 := L_28.next hstep
        have Xx_40 := Xx_33.next hstep
        have Op_41 := Op_29.below hstep
        have Oq_42 := Oq_30.below hstep
        have Or_43 := Or_31.below hstep
        have hbel44 := hbel32.next hstep
        have hle44 := hbel44.size
        have hls44 := hstep.size
        clear Xa_23 Xb_24 R0_25 R1_26 V_27 L_28 Xx_33 Op_29 Oq_30 Or_31 hbel32 hstep
        have cXa0_44 : _ = some (Value.bool s) := Xa_34.cell 0
        have cXa1_44 : _ = some (Value.slice a n c) := Xa_34.cell 1
        have cXb0_44 : _ = some (Value.bool t) := Xb_35.cell 0
        have cXb1_44 : _ = some (Value.slice b m d) := Xb_35.cell 1
        have cR00_44 : _ = some (Value.bool false) := R0_36.cell 0
        have fR00_44 := R0_36.free 0
        have cR01_44 : _ = some (Value.slice none 0 0) := R0_36.cell 1
        have fR01_44 := R0_36.free 1
        have cR10_44 : _ = some (Value.bool false) := R1_37.cell 0
        have fR10_44 := R1_37.free 0
        have cR11_44 : _ = some (Value.slice none 0 0) := R1_37.cell 1
        have fR11_44 := R1_37.free 1
        have cV0_44 : World.cell? (((w101.alloc (.cells #[Value.bool (decide (r0 < 0)), Value.slice p pn pc, Value.bool (decide (x0 < 0)), Value.slice q qn qc, Value.bool (decide (y0 < 0)), Value.slice r rn rc] 118)).alloc (.cells #[Value.bool (decide (x0 < 0)), Value.slice q qn qc] 25)).alloc (.cells #[Value.bool (decide (y0 < 0)), Value.slice r rn rc] 25)) ⟨g, k * 6, none⟩ = some (Value.bool (decide (r0 < 0))) := V_38.cell0 0 (by decide)
        have cV1_44 : World.cell? (((w101.alloc (.cells #[Value.bool (decide (r0 < 0)), Value.slice p pn pc, Value.bool (decide (x0 < 0)), Value.slice q qn qc, Value.bool (decide (y0 < 0)), Value.slice r rn rc] 118)).alloc (.cells #[Value.bool (decide (x0 < 0)), Value.slice q qn qc] 25)).alloc (.cells #[Value.bool (decide (y0 < 0)), Value.slice r rn rc] 25)) ⟨g, k * 6 + 1, none⟩ = some (Value.slice p pn pc) := V_38.cell0 1 (by decide)
        have cV2_44 : World.cell? (((w101.alloc (.cells #[Value.bool (decide (r0 < 0)), Value.slice p pn pc, Value.bool (decide (x0 < 0)), Value.slice q qn qc, Value.bool (decide (y0 < 0)), Value.slice r rn rc] 118)).alloc (.cells #[Value.bool (decide (x0 < 0)), Value.slice q qn qc] 25)).alloc (.cells #[Value.bool (decide (y0 < 0)), Value.slice r rn rc] 25)) ⟨g, k * 6 + 2, none⟩ = some (Value.bool (decide (x0 < 0))) := V_38.cell0 2 (by decide)
        have cV3_44 : World.cell? (((w101.alloc (.cells #[Value.bool (decide (r0 < 0)), Value.slice p pn pc, Value.bool (decide (x0 < 0)), Value.slice q qn qc, Value.bool (decide (y0 < 0)), Value.slice r rn rc] 118)).alloc (.cells #[Value.bool (decide (x0 < 0)), Value.slice q qn qc] 25)).alloc (.cells #[Value.bool (decide (y0 < 0)), Value.slice r rn rc] 25)) ⟨g, k * 6 + 3, none⟩ = some (Value.slice q qn qc) := V_38.cell0 3 (by decide)
        have cV4_44 : World.cell? (((w101.alloc (.cells #[Value.bool (decide (r0 < 0)), Value.slice p pn pc, Value.bool (decide (x0 < 0)), Value.slice q qn qc, Value.bool (decide (y0 < 0)), Value.slice r rn rc] 118)).alloc (.cells #[Value.bool (decide (x0 < 0)), Value.slice q qn qc] 25)).alloc (.cells #[Value.bool (decide (y0 < 0)), Value.slice r rn rc] 25)) ⟨g, k * 6 + 4, none⟩ = some (Value.bool (decide (y0 < 0))) := V_38.cell0 4 (by decide)
        have cV5_44 : World.cell? (((w101.alloc (.cells #[Value.bool (decide (r0 < 0)), Value.slice p pn pc, Value.bool (decide (x0 < 0)), Value.slice q qn qc, Value.bool (decide (y0 < 0)), Value.slice r rn rc] 118)).alloc (.cells #[Value.bool (decide (x0 < 0)), Value.slice q qn qc] 25)).alloc (.cells #[Value.bool (decide (y0 < 0)), Value.slice r rn rc] 25)) ⟨g, k * 6 + 5, none⟩ = some (Value.slice r rn rc) := V_38.cell0 5 (by decide)
        have cV6_44 : World.cell? (((w101.alloc (.cells #[Value.bool (decide (r0 < 0)), Value.slice p pn pc, Value.bool (decide (x0 < 0)), Value.slice q qn qc, Value.bool (decide (y0 < 0)), Value.slice r rn rc] 118)).alloc (.cells #[Value.bool (decide (x0 < 0)), Value.slice q qn qc] 25)).alloc (.cells #[Value.bool (decide (y0 < 0)), Value.slice r rn rc] 25)) ⟨g, (k + 1) * 6, none⟩ = some (Value.bool (decide (r1 < 0))) := V_38.cell1 0 (by decide)
        have cV7_44 : World.cell? (((w101.alloc (.cells #[Value.bool (decide (r0 < 0)), Value.slice p pn pc, Value.bool (decide (x0 < 0)), Value.slice q qn qc, Value.bool (decide (y0 < 0)), Value.slice r rn rc] 118)).alloc (.cells #[Value.bool (decide (x0 < 0)), Value.slice q qn qc] 25)).alloc (.cells #[Value.bool (decide (y0 < 0)), Value.slice r rn rc] 25)) ⟨g, (k + 1) * 6 + 1, none⟩ = some (Value.slice p' p'n p'c) := V_38.cell1 1 (by decide)
        have cV8_44 : World.cell? (((w101.alloc (.cells #[Value.bool (decide (r0 < 0)), Value.slice p pn pc, Value.bool (decide (x0 < 0)), Value.slice q qn qc, Value.bool (decide (y0 < 0)), Value.slice r rn rc] 118)).alloc (.cells #[Value.bool (decide (x0 < 0)), Value.slice q qn qc] 25)).alloc (.cells #[Value.bool (decide (y0 < 0)), Value.slice r rn rc] 25)) ⟨g, (k + 1) * 6 + 2, none⟩ = some (Value.bool (decide (x1 < 0))) := V_38.cell1 2 (by decide)
        have cV9_44 : World.cell? (((w101.alloc (.cells #[Value.bool (decide (r0 < 0)), Value.slice p pn pc, Value.bool (decide (x0 < 0)), Value.slice q qn qc, Value.bool (decide (y0 < 0)), Value.slice r rn rc] 118)).alloc (.cells #[Value.bool (decide (x0 < 0)), Value.slice q qn qc] 25)).alloc (.cells #[Value.bool (decide (y0 < 0)), Value.slice r rn rc] 25)) ⟨g, (k + 1) * 6 + 3, none⟩ = some (Value.slice q' q'n q'c) := V_38.cell1 3 (by decide)
        have cV10_44 : World.cell? (((w101.alloc (.cells #[Value.bool (decide (r0 < 0)), Value.slice p pn pc, Value.bool (decide (x0 < 0)), Value.slice q qn qc, Value.bool (decide (y0 < 0)), Value.slice r rn rc] 118)).alloc (.cells #[Value.bool (decide (x0 < 0)), Value.slice q qn qc] 25)).alloc (.cells #[Value.bool (decide (y0 < 0)), Value.slice r rn rc] 25)) ⟨g, (k + 1) * 6 + 4, none⟩ = some (Value.bool (decide (y1 < 0))) := V_38.cell1 4 (by decide)
        have cV11_44 : World.cell? (((w101.alloc (.cells #[Value.bool (decide (r0 < 0)), Value.slice p pn pc, Value.bool (decide (x0 < 0)), Value.slice q qn qc, Value.bool (decide (y0 < 0)), Value.slice r rn rc] 118)).alloc (.cells #[Value.bool (decide (x0 < 0)), Value.slice q qn qc] 25)).alloc (.cells #[Value.bool (decide (y0 < 0)), Value.slice r rn rc] 25)) ⟨g, (k + 1) * 6 + 5, none⟩ = some (Value.slice r' r'n r'c) := V_38.cell1 5 (by decide)
        have cL0_44 : _ = some (Value.bool (decide (r0 < 0))) := L_39.cell 0
        have cL1_44 : _ = some (Value.slice p pn pc) := L_39.cell 1
        have cL2_44 : _ = some (Value.bool (decide (x0 < 0))) := L_39.cell 2
        have cL3_44 : _ = some (Value.slice q qn qc) := L_39.cell 3
        have cL4_44 : _ = some (Value.bool (decide (y0 < 0))) := L_39.cell 4
        have cL5_44 : _ = some (Value.slice r rn rc) := L_39.cell 5
        have cXx0_44 : _ = some (Value.bool (decide (x0 < 0))) := Xx_40.cell 0
        have fXx0_44 := Xx_40.free 0
        have cXx1_44 : _ = some (Value.slice q qn qc) := Xx_40.cell 1
        have fXx1_44 := Xx_40.free 1
        have Xy_45 := hbx
        have cXy0_45 : _ = some (Value.bool (decide (y0 < 0))) := Xy_45.cell 0
        have fXy0_45 := Xy_45.free 0
        have cXy1_45 : _ = some (Value.slice r rn rc) := Xy_45.cell 1
        have fXy1_45 := Xy_45.free 1
        clear hbx hbB
        go_wp2_with fail
        clear cXa0_12 cXa1_12 cXb0_12 cXb1_12 cR00_12 fR00_12 cR01_12 fR01_12 cR10_12 fR10_12 cR11_12 fR11_12 cV0_12 cV1_12 cV2_12 cV3_12 cV4_12 cV5_12 cV6_12 cV7_12 cV8_12 cV9_12 cV10_12 cV11_12 cXa0_21 cXa1_21 cXb0_21 cXb1_21 cR00_21 fR00_21 cR01_21 fR01_21 cR10_21 fR10_21 cR11_21 fR11_21 cV0_21 cV1_21 cV2_21 cV3_21 cV4_21 cV5_21 cV6_21 cV7_21 cV8_21 cV9_21 cV10_21 cV11_21 cL0_22 cL1_22 cL2_22 cL3_22 cL4_22 cL5_22 cXa0_32 cXa1_32 cXb0_32 cXb1_32 cR00_32 fR00_32 cR01_32 fR01_32 cR10_32 fR10_32 cR11_32 fR11_32 cV0_32 cV1_32 cV2_32 cV3_32 cV4_32 cV5_32 cV6_32 cV7_32 cV8_32 cV9_32 cV10_32 cV11_32 cL0_32 cL1_32 cL2_32 cL3_32 cL4_32 cL5_32 cXx0_33 fXx0_33 cXx1_33 fXx1_33
        generalize (((w101.alloc (.cells #[Value.bool (decide (r0 < 0)), Value.slice p pn pc, Value.bool (decide (x0 < 0)), Value.slice q qn qc, Value.bool (decide (y0 < 0)), Value.slice r rn rc] 118)).alloc (.cells #[Value.bool (decide (x0 < 0)), Value.slice q qn qc] 25)).alloc (.cells #[Value.bool (decide (y0 < 0)), Value.slice r rn rc] 25)) = v102 at *
        clear V_38
        have awpXx : Aw p (w101.heap.size + 1) := ltp.aw (by omega)
        have awpXy : Aw p (w101.heap.size + 1 + 1) := ltp.aw (by omega)
        have awqXx : Aw q (w101.heap.size + 1) := ltq.aw (by omega)
        have awqXy : Aw q (w101.heap.size + 1 + 1) := ltq.aw (by omega)
        have awrXx : Aw r (w101.heap.size + 1) := ltr.aw (by omega)
        have awrXy : Aw r (w101.heap.size + 1 + 1) := ltr.aw (by omega)
        go_wp2_with fail
        refine (HSA.out _ (show Rd _ a n c la from (ha.below hbel44))).mono ?_
        rintro e w105 ⟨rfl, hB⟩
        clear cXa0_44 cXa1_44 cXb0_44 cXb1_44 cR00_44 fR00_44 cR01_44 fR01_44 cR10_44 fR10_44 cR11_44 fR11_44 cV0_44 cV1_44 cV2_44 cV3_44 cV4_44 cV5_44 cV6_44 cV7_44 cV8_44 cV9_44 cV10_44 cV11_44 cL0_44 cL1_44 cL2_44 cL3_44 cL4_44 cL5_44 cXx0_44 fXx0_44 cXx1_44 fXx1_44 cXy0_45 fXy0_45 cXy1_45 fXy1_45
        have hstep : Below v102.heap.size v102 w105 := (by first | exact hB | exact below_drew hB)
        have Xa_46 := Xa_34.next hstep
        have Xb_47 := Xb_35.next hstep
        have R0_48 := R0_36.next hstep
        have R1_49 := R1_37.next hstep
        have L_50 := L_39.next hstep
        have Xx_51 := Xx_40.next hstep
        have Xy_52 := Xy_45.next hstep
        have Op_53 := Op_41.below hstep
        have Oq_54 := Oq_42.below hstep
        have Or_55 := Or_43.below hstep
        have hbel56 := hbel44.next hstep
        have hle56 := hbel56.size
        have hls56 := hstep.size
        clear Xa_34 Xb_35 R0_36 R1_37 L_39 Xx_40 Xy_45 Op_41 Oq_42 Or_43 hbel44 hstep
        have cXa0_56 : _ = some (Value.bool s) := Xa_46.cell 0
        have cXa1_56 : _ = some (Value.slice a n c) := Xa_46.cell 1
        have cXb0_56 : _ = some (Value.bool t) := Xb_47.cell 0
        have cXb1_56 : _ = some (Value.slice b m d) := Xb_47.cell 1
        have cR00_56 : _ = some (Value.bool false) := R0_48.cell 0
        have fR00_56 := R0_48.free 0
        have cR01_56 : _ = some (Value.slice none 0 0) := R0_48.cell 1
        have fR01_56 := R0_48.free 1
        have cR10_56 : _ = some (Value.bool false) := R1_49.cell 0
        have fR10_56 := R1_49.free 0
        have cR11_56 : _ = some (Value.slice none 0 0) := R1_49.cell 1
        have fR11_56 := R1_49.free 1
        have cL0_56 : _ = some (Value.bool (decide (r0 < 0))) := L_50.cell 0
        have cL1_56 : _ = some (Value.slice p pn pc) := L_50.cell 1
        have cL2_56 : _ = some (Value.bool (decide (x0 < 0))) := L_50.cell 2
        have cL3_56 : _ = some (Value.slice q qn qc) := L_50.cell 3
        have cL4_56 : _ = some (Value.bool (decide (y0 < 0))) := L_50.cell 4
        have cL5_56 : _ = some (Value.slice r rn rc) := L_50.cell 5
        have cXx0_56 : _ = some (Value.bool (decide (x0 < 0))) := Xx_51.cell 0
        have fXx0_56 := Xx_51.free 0
        have cXx1_56 : _ = some (Value.slice q qn qc) := Xx_51.cell 1
        have fXx1_56 := Xx_51.free 1
        have cXy0_56 : _ = some (Value.bool (decide (y0 < 0))) := Xy_52.cell 0
        have fXy0_56 := Xy_52.free 0
        have cXy1_56 : _ = some (Value.slice r rn rc) := Xy_52.cell 1
        have fXy1_56 := Xy_52.free 1
        go_wp2_with fail
        refine (rznegI Oq_54.rd (by omega) HNx0.out).mono ?_
        rintro e w106 ⟨nx, nxn, nxc, rfl, hO, hB⟩
        clear cXa0_56 cXa1_56 cXb0_56 cXb1_56 cR00_56 fR00_56 cR01_56 fR01_56 cR10_56 fR10_56 cR11_56 fR11_56 cL0_56 cL1_56 cL2_56 cL3_56 cL4_56 cL5_56 cXx0_56 fXx0_56 cXx1_56 fXx1_56 cXy0_56 fXy0_56 cXy1_56 fXy1_56
        have hstep : Below w105.heap.size w105 w106 := (by first | exact hB | exact below_drew hB)
        have Xa_57 := Xa_46.next hstep
        have Xb_58 := Xb_47.next hstep
        have R0_59 := R0_48.next hstep
        have R1_60 := R1_49.next hstep
        have L_61 := L_50.next hstep
        have Xx_62 := Xx_51.next hstep
        have Xy_63 := Xy_52.next hstep
        have Op_64 := Op_53.below hstep
        have Oq_65 := Oq_54.below hstep
        have Or_66 := Or_55.below hstep
        have hbel67 := hbel56.next hstep
        have hle67 := hbel67.size
        have hls67 := hstep.size
        clear Xa_46 Xb_47 R0_48 R1_49 L_50 Xx_51 Xy_52 Op_53 Oq_54 Or_55 hbel56 hstep
        have cXa0_67 : _ = some (Value.bool s) := Xa_57.cell 0
        have cXa1_67 : _ = some (Value.slice a n c) := Xa_57.cell 1
        have cXb0_67 : _ = some (Value.bool t) := Xb_58.cell 0
        have cXb1_67 : _ = some (Value.slice b m d) := Xb_58.cell 1
        have cR00_67 : _ = some (Value.bool false) := R0_59.cell 0
        have fR00_67 := R0_59.free 0
        have cR01_67 : _ = some (Value.slice none 0 0) := R0_59.cell 1
        have fR01_67 := R0_59.free 1
        have cR10_67 : _ = some (Value.bool false) := R1_60.cell 0
        have fR10_67 := R1_60.free 0
        have cR11_67 : _ = some (Value.slice none 0 0) := R1_60.cell 1
        have fR11_67 := R1_60.free 1
        have cL0_67 : _ = some (Value.bool (decide (r0 < 0))) := L_61.cell 0
        have cL1_67 : _ = some (Value.slice p pn pc) := L_61.cell 1
        have cL2_67 : _ = some (Value.bool (decide (x0 < 0))) := L_61.cell 2
        have cL3_67 : _ = some (Value.slice q qn qc) := L_61.cell 3
        have cL4_67 : _ = some (Value.bool (decide (y0 < 0))) := L_61.cell 4
        have cL5_67 : _ = some (Value.slice r rn rc) := L_61.cell 5
        have cXx0_67 : _ = some (Value.bool (decide (x0 < 0))) := Xx_62.cell 0
        have fXx0_67 := Xx_62.free 0
        have cXx1_67 : _ = some (Value.slice q qn qc) := Xx_62.cell 1
        have fXx1_67 := Xx_62.free 1
        have cXy0_67 : _ = some (Value.bool (decide (y0 < 0))) := Xy_63.cell 0
        have fXy0_67 := Xy_63.free 0
        have cXy1_67 : _ = some (Value.slice r rn rc) := Xy_63.cell 1
        have fXy1_67 := Xy_63.free 1
        have Onx_68 := hO
        have ltnx := hO.ltOf
        have awnxXx : Aw nx (w101.heap.size + 1) := hO.awNew (by omega)
        have awnxXy : Aw nx (w101.heap.size + 1 + 1) := hO.awNew (by omega)
        have dfpnx : Diff p nx := ltp.diff hO (by omega)
        have dfnxr : Diff nx r := (ltr.diff hO (by omega)).symm
        clear hO
        go_wp2_with fail
        clear cXa0_67 cXa1_67 cXb0_67 cXb1_67 cR00_67 fR00_67 cR01_67 fR01_67 cR10_67 fR10_67 cR11_67 fR11_67 cL0_67 cL1_67 cL2_67 cL3_67 cL4_67 cL5_67 cXx0_67 fXx0_67 cXx1_67 fXx1_67 cXy0_67 fXy0_67 cXy1_67 fXy1_67
        have hkp : Kp (fun k => k = w101.heap.size + 1) w106 ((w106.setCell ⟨w101.heap.size + 1, 0, none⟩ (Value.bool (decide (nx0 < 0)))).setCell ⟨w101.heap.size + 1, 1, none⟩ (Value.slice nx nxn nxc)) := ((Kp.refl (fun k => k = w101.heap.size + 1) w106).setCell rfl (Value.bool (decide (nx0 < 0)))).setCell rfl (Value.slice nx nxn nxc)
        have Xx_69 := (show Blk _ _ #[Value.bool (decide (nx0 < 0)), Value.slice nx nxn nxc] from ((Xx_62).setCell (i := 0) (v := Value.bool (decide (nx0 < 0))) (by simp)).setCell (i := 1) (v := Value.slice nx nxn nxc) (by simp))
        have Xa_70 := Xa_57.kp hkp (show ¬ (w.heap.size = w101.heap.size + 1) by omega)
        have Xb_71 := Xb_58.kp hkp (show ¬ (w.heap.size + 1 = w101.heap.size + 1) by omega)
        have R0_72 := R0_59.kp hkp (show ¬ (w.heap.size + 1 + 1 = w101.heap.size + 1) by omega)
        have R1_73 := R1_60.kp hkp (show ¬ (w.heap.size + 1 + 1 + 1 = w101.heap.size + 1) by omega)
        have L_74 := L_61.kp hkp (show ¬ (w101.heap.size = w101.heap.size + 1) by omega)
        have Xy_75 := Xy_63.kp hkp (show ¬ (w101.heap.size + 1 + 1 = w101.heap.size + 1) by omega)
        have Op_76 := Op_64.kp hkp (fun g' e => awpXx g' e)
        have Oq_77 := Oq_65.kp hkp (fun g' e => awqXx g' e)
        have Or_78 := Or_66.kp hkp (fun g' e => awrXx g' e)
        have Onx_79 := Onx_68.kp hkp (fun g' e => awnxXx g' e)
        have hbel80 := hbel67.kp hkp (hbel67).size (fun k hk => (show ¬ (k = w101.heap.size + 1) by omega))
        have hse80 := hkp.size
        clear Xa_57 Xb_58 R0_59 R1_60 L_61 Xx_62 Xy_63 Op_64 Oq_65 Or_66 Onx_68 hbel67 hkp
        generalize ((w106.setCell ⟨w101.heap.size + 1, 0, none⟩ (Value.bool (decide (nx0 < 0)))).setCell ⟨w101.heap.size + 1, 1, none⟩ (Value.slice nx nxn nxc)) = v107 at *
        have cXa0_80 : _ = some (Value.bool s) := Xa_70.cell 0
        have cXa1_80 : _ = some (Value.slice a n c) := Xa_70.cell 1
        have cXb0_80 : _ = some (Value.bool t) := Xb_71.cell 0
        have cXb1_80 : _ = some (Value.slice b m d) := Xb_71.cell 1
        have cR00_80 : _ = some (Value.bool false) := R0_72.cell 0
        have fR00_80 := R0_72.free 0
        have cR01_80 : _ = some (Value.slice none 0 0) := R0_72.cell 1
        have fR01_80 := R0_72.free 1
        have cR10_80 : _ = some (Value.bool false) := R1_73.cell 0
        have fR10_80 := R1_73.free 0
        have cR11_80 : _ = some (Value.slice none 0 0) := R1_73.cell 1
        have fR11_80 := R1_73.free 1
        have cL0_80 : _ = some (Value.bool (decide (r0 < 0))) := L_74.cell 0
        have cL1_80 : _ = some (Value.slice p pn pc) := L_74.cell 1
        have cL2_80 : _ = some (Value.bool (decide (x0 < 0))) := L_74.cell 2
        have cL3_80 : _ = some (Value.slice q qn qc) := L_74.cell 3
        have cL4_80 : _ = some (Value.bool (decide (y0 < 0))) := L_74.cell 4
        have cL5_80 : _ = some (Value.slice r rn rc) := L_74.cell 5
        have cXx0_80 : _ = some (Value.bool (decide (nx0 < 0))) := Xx_69.cell 0
        have fXx0_80 := Xx_69.free 0
        have cXx1_80 : _ = some (Value.slice nx nxn nxc) := Xx_69.cell 1
        have fXx1_80 := Xx_69.free 1
        have cXy0_80 : _ = some (Value.bool (decide (y0 < 0))) := Xy_75.cell 0
        have fXy0_80 := Xy_75.free 0
        have cXy1_80 : _ = some (Value.slice r rn rc) := Xy_75.cell 1
        have fXy1_80 := Xy_75.free 1
        go_wp2_with fail
        refine (HSB.out _ (show Rd _ b m d lb from (hb.below hbel80))).mono ?_
        rintro e w108 ⟨rfl, hB⟩
        clear cXa0_80 cXa1_80 cXb0_80 cXb1_80 cR00_80 fR00_80 cR01_80 fR01_80 cR10_80 fR10_80 cR11_80 fR11_80 cL0_80 cL1_80 cL2_80 cL3_80 cL4_80 cL5_80 cXx0_80 fXx0_80 cXx1_80 fXx1_80 cXy0_80 fXy0_80 cXy1_80 fXy1_80
        have hstep : Below v107.heap.size v107 w108 := (by first | exact hB | exact below_drew hB)
        have Xa_81 := Xa_70.next hstep
        have Xb_82 := Xb_71.next hstep
        have R0_83 := R0_72.next hstep
        have R1_84 := R1_73.next hstep
        have L_85 := L_74.next hstep
        have Xx_86 := Xx_69.next hstep
        have Xy_87 := Xy_75.next hstep
        have Op_88 := Op_76.below hstep
        have Oq_89 := Oq_77.below hstep
        have Or_90 := Or_78.below hstep
        have Onx_91 := Onx_79.below hstep
        have hbel92 := hbel80.next hstep
        have hle92 := hbel92.size
        have hls92 := hstep.size
        clear Xa_70 Xb_71 R0_72 R1_73 L_74 Xx_69 Xy_75 Op_76 Oq_77 Or_78 Onx_79 hbel80 hstep
        have cXa0_92 : _ = some (Value.bool s) := Xa_81.cell 0
        have cXa1_92 : _ = some (Value.slice a n c) := Xa_81.cell 1
        have cXb0_92 : _ = some (Value.bool t) := Xb_82.cell 0
        have cXb1_92 : _ = some (Value.slice b m d) := Xb_82.cell 1
        have cR00_92 : _ = some (Value.bool false) := R0_83.cell 0
        have fR00_92 := R0_83.free 0
        have cR01_92 : _ = some (Value.slice none 0 0) := R0_83.cell 1
        have fR01_92 := R0_83.free 1
        have cR10_92 : _ = some (Value.bool false) := R1_84.cell 0
        have fR10_92 := R1_84.free 0
        have cR11_92 : _ = some (Value.slice none 0 0) := R1_84.cell 1
        have fR11_92 := R1_84.free 1
        have cL0_92 : _ = some (Value.bool (decide (r0 < 0))) := L_85.cell 0
        have cL1_92 : _ = some (Value.slice p pn pc) := L_85.cell 1
        have cL2_92 : _ = some (Value.bool (decide (x0 < 0))) := L_85.cell 2
        have cL3_92 : _ = some (Value.slice q qn qc) := L_85.cell 3
        have cL4_92 : _ = some (Value.bool (decide (y0 < 0))) := L_85.cell 4
        have cL5_92 : _ = some (Value.slice r rn rc) := L_85.cell 5
        have cXx0_92 : _ = some (Value.bool (decide (nx0 < 0))) := Xx_86.cell 0
        have fXx0_92 := Xx_86.free 0
        have cXx1_92 : _ = some (Value.slice nx nxn nxc) := Xx_86.cell 1
        have fXx1_92 := Xx_86.free 1
        have cXy0_92 : _ = some (Value.bool (decide (y0 < 0))) := Xy_87.cell 0
        have fXy0_92 := Xy_87.free 0
        have cXy1_92 : _ = some (Value.slice r rn rc) := Xy_87.cell 1
        have fXy1_92 := Xy_87.free 1
        go_wp2_with fail
        refine (rznegI Or_90.rd (by omega) HNy0.out).mono ?_
        rintro e w109 ⟨ny, nyn, nyc, rfl, hO, hB⟩
        clear cXa0_92 cXa1_92 cXb0_92 cXb1_92 cR00_92 fR00_92 cR01_92 fR01_92 cR10_92 fR10_92 cR11_92 fR11_92 cL0_92 cL1_92 cL2_92 cL3_92 cL4_92 cL5_92 cXx0_92 fXx0_92 cXx1_92 fXx1_92 cXy0_92 fXy0_92 cXy1_92 fXy1_92
        have hstep : Below w108.heap.size w108 w109 := (by first | exact hB | exact below_drew hB)
        have Xa_93 := Xa_81.next hstep
        have Xb_94 := Xb_82.next hstep
        have R0_95 := R0_83.next hstep
        have R1_96 := R1_84.next hstep
        have L_97 := L_85.next hstep
        have Xx_98 := Xx_86.next hstep
        have Xy_99 := Xy_87.next hstep
        have Op_100 := Op_88.below hstep
        have Oq_101 := Oq_89.below hstep
        have Or_102 := Or_90.below hstep
        have Onx_103 := Onx_91.below hstep
        have hbel104 := hbel92.next hstep
        have hle104 := hbel104.size
        have hls104 := hstep.size
        clear Xa_81 Xb_82 R0_83 R1_84 L_85 Xx_86 Xy_87 Op_88 Oq_89 Or_90 Onx_91 hbel92 hstep
        have cXa0_104 : _ = some (Value.bool s) := Xa_93.cell 0
        have cXa1_104 : _ = some (Value.slice a n c) := Xa_93.cell 1
        have cXb0_104 : _ = some (Value.bool t) := Xb_94.cell 0
        have cXb1_104 : _ = some (Value.slice b m d) := Xb_94.cell 1
        have cR00_104 : _ = some (Value.bool false) := R0_95.cell 0
        have fR00_104 := R0_95.free 0
        have cR01_104 : _ = some (Value.slice none 0 0) := R0_95.cell 1
        have fR01_104 := R0_95.free 1
        have cR10_104 : _ = some (Value.bool false) := R1_96.cell 0
        have fR10_104 := R1_96.free 0
        have cR11_104 : _ = some (Value.slice none 0 0) := R1_96.cell 1
        have fR11_104 := R1_96.free 1
        have cL0_104 : _ = some (Value.bool (decide (r0 < 0))) := L_97.cell 0
        have cL1_104 : _ = some (Value.slice p pn pc) := L_97.cell 1
        have cL2_104 : _ = some (Value.bool (decide (x0 < 0))) := L_97.cell 2
        have cL3_104 : _ = some (Value.slice q qn qc) := L_97.cell 3
        have cL4_104 : _ = some (Value.bool (decide (y0 < 0))) := L_97.cell 4
        have cL5_104 : _ = some (Value.slice r rn rc) := L_97.cell 5
        have cXx0_104 : _ = some (Value.bool (decide (nx0 < 0))) := Xx_98.cell 0
        have fXx0_104 := Xx_98.free 0
        have cXx1_104 : _ = some (Value.slice nx nxn nxc) := Xx_98.cell 1
        have fXx1_104 := Xx_98.free 1
        have cXy0_104 : _ = some (Value.bool (decide (y0 < 0))) := Xy_99.cell 0
        have fXy0_104 := Xy_99.free 0
        have cXy1_104 : _ = some (Value.slice r rn rc) := Xy_99.cell 1
        have fXy1_104 := Xy_99.free 1
        have Ony_105 := hO
        have ltny := hO.ltOf
        have awnyXx : Aw ny (w101.heap.size + 1) := hO.awNew (by omega)
        have awnyXy : Aw ny (w101.heap.size + 1 + 1) := hO.awNew (by omega)
        have dfpny : Diff p ny := ltp.diff hO (by omega)
        have dfnxny : Diff nx ny := ltnx.diff hO (by omega)
        clear hO
        go_wp2_with fail
        clear cXa0_104 cXa1_104 cXb0_104 cXb1_104 cR00_104 fR00_104 cR01_104 fR01_104 cR10_104 fR10_104 cR11_104 fR11_104 cL0_104 cL1_104 cL2_104 cL3_104 cL4_104 cL5_104 cXx0_104 fXx0_104 cXx1_104 fXx1_104 cXy0_104 fXy0_104 cXy1_104 fXy1_104
        have hkp : Kp (fun k => k = w101.heap.size + 1 + 1) w109 ((w109.setCell ⟨w101.heap.size + 1 + 1, 0, none⟩ (Value.bool (decide (ny0 < 0)))).setCell ⟨w101.heap.size + 1 + 1, 1, none⟩ (Value.slice ny nyn nyc)) := ((Kp.refl (fun k => k = w101.heap.size + 1 + 1) w109).setCell rfl (Value.bool (decide (ny0 < 0)))).setCell rfl (Value.slice ny nyn nyc)
        have Xy_106 := (show Blk _ _ #[Value.bool (decide (ny0 < 0)), Value.slice ny nyn nyc] from ((Xy_99).setCell (i := 0) (v := Value.bool (decide (ny0 < 0))) (by simp)).setCell (i := 1) (v := Value.slice ny nyn nyc) (by simp))
        have Xa_107 := Xa_93.kp hkp (show ¬ (w.heap.size = w101.heap.size + 1 + 1) by omega)
        have Xb_108 := Xb_94.kp hkp (show ¬ (w.heap.size + 1 = w101.heap.size + 1 + 1) by omega)
        have R0_109 := R0_95.kp hkp (show ¬ (w.heap.size + 1 + 1 = w101.heap.size + 1 + 1) by omega)
        have R1_110 := R1_96.kp hkp (show ¬ (w.heap.size + 1 + 1 + 1 = w101.heap.size + 1 + 1) by omega)
        have L_111 := L_97.kp hkp (show ¬ (w101.heap.size = w101.heap.size + 1 + 1) by omega)
        have Xx_112 := Xx_98.kp hkp (show ¬ (w101.heap.size + 1 = w101.heap.size + 1 + 1) by omega)
        have Op_113 := Op_100.kp hkp (fun g' e => awpXy g' e)
        have Oq_114 := Oq_101.kp hkp (fun g' e => awqXy g' e)
        have Or_115 := Or_102.kp hkp (fun g' e => awrXy g' e)
        have Onx_116 := Onx_103.kp hkp (fun g' e => awnxXy g' e)
        have Ony_117 := Ony_105.kp hkp (fun g' e => awnyXy g' e)
        have hbel118 := hbel104.kp hkp (hbel104).size (fun k hk => (show ¬ (k = w101.heap.size + 1 + 1) by omega))
        have hse118 := hkp.size
        clear Xa_93 Xb_94 R0_95 R1_96 L_97 Xx_98 Xy_99 Op_100 Oq_101 Or_102 Onx_103 Ony_105 hbel104 hkp
        generalize ((w109.setCell ⟨w101.heap.size + 1 + 1, 0, none⟩ (Value.bool (decide (ny0 < 0)))).setCell ⟨w101.heap.size + 1 + 1, 1, none⟩ (Value.slice ny nyn nyc)) = v110 at *
        have cXa0_118 : _ = some (Value.bool s) := Xa_107.cell 0
        have cXa1_118 : _ = some (Value.slice a n c) := Xa_107.cell 1
        have cXb0_118 : _ = some (Value.bool t) := Xb_108.cell 0
        have cXb1_118 : _ = some (Value.slice b m d) := Xb_108.cell 1
        have cR00_118 : _ = some (Value.bool false) := R0_109.cell 0
        have fR00_118 := R0_109.free 0
        have cR01_118 : _ = some (Value.slice none 0 0) := R0_109.cell 1
        have fR01_118 := R0_109.free 1
        have cR10_118 : _ = some (Value.bool false) := R1_110.cell 0
        have fR10_118 := R1_110.free 0
        have cR11_118 : _ = some (Value.slice none 0 0) := R1_110.cell 1
        have fR11_118 := R1_110.free 1
        have cL0_118 : _ = some (Value.bool (decide (r0 < 0))) := L_111.cell 0
        have cL1_118 : _ = some (Value.slice p pn pc) := L_111.cell 1
        have cL2_118 : _ = some (Value.bool (decide (x0 < 0))) := L_111.cell 2
        have cL3_118 : _ = some (Value.slice q qn qc) := L_111.cell 3
        have cL4_118 : _ = some (Value.bool (decide (y0 < 0))) := L_111.cell 4
        have cL5_118 : _ = some (Value.slice r rn rc) := L_111.cell 5
        have cXx0_118 : _ = some (Value.bool (decide (nx0 < 0))) := Xx_112.cell 0
        have fXx0_118 := Xx_112.free 0
        have cXx1_118 : _ = some (Value.slice nx nxn nxc) := Xx_112.cell 1
        have fXx1_118 := Xx_112.free 1
        have cXy0_118 : _ = some (Value.bool (decide (ny0 < 0))) := Xy_106.cell 0
        have fXy0_118 := Xy_106.free 0
        have cXy1_118 : _ = some (Value.slice ny nyn nyc) := Xy_106.cell 1
        have fXy1_118 := Xy_106.free 1
        go_wp2_with fail
        go_region
        have awpR0 : Aw p (w.heap.size + 1 + 1) := (Op_113.mono (B' := W0.heap.size) (by omega)).awNew (by omega)
        have awqR0 : Aw q (w.heap.size + 1 + 1) := (Oq_114.mono (B' := W0.heap.size) (by omega)).awNew (by omega)
        have awrR0 : Aw r (w.heap.size + 1 + 1) := (Or_115.mono (B' := W0.heap.size) (by omega)).awNew (by omega)
        have awnxR0 : Aw nx (w.heap.size + 1 + 1) := (Onx_116.mono (B' := W0.heap.size) (by omega)).awNew (by omega)
        have awnyR0 : Aw ny (w.heap.size + 1 + 1) := (Ony_117.mono (B' := W0.heap.size) (by omega)).awNew (by omega)
        have awpR1 : Aw p (w.heap.size + 1 + 1 + 1) := (Op_113.mono (B' := W0.heap.size) (by omega)).awNew (by omega)
        have awqR1 : Aw q (w.heap.size + 1 + 1 + 1) := (Oq_114.mono (B' := W0.heap.size) (by omega)).awNew (by omega)
        have awrR1 : Aw r (w.heap.size + 1 + 1 + 1) := (Or_115.mono (B' := W0.heap.size) (by omega)).awNew (by omega)
        have awnxR1 : Aw nx (w.heap.size + 1 + 1 + 1) := (Onx_116.mono (B' := W0.heap.size) (by omega)).awNew (by omega)
        have awnyR1 : Aw ny (w.heap.size + 1 + 1 + 1) := (Ony_117.mono (B' := W0.heap.size) (by omega)).awNew (by omega)
        clear cXa0_118 cXa1_118 cXb0_118 cXb1_118 cR00_118 fR00_118 cR01_118 fR01_118 cR10_118 fR10_118 cR11_118 fR11_118 cL0_118 cL1_118 cL2_118 cL3_118 cL4_118 cL5_118 cXx0_118 fXx0_118 cXx1_118 fXx1_118 cXy0_118 fXy0_118 cXy1_118 fXy1_118
        have hkp : Kp (fun k => k = w.heap.size + 1 + 1) v110 ((v110.setCell ⟨w.heap.size + 1 + 1, 0, none⟩ (Value.bool (decide (nx0 < 0)))).setCell ⟨w.heap.size + 1 + 1, 1, none⟩ (Value.slice nx nxn nxc)) := ((Kp.refl (fun k => k = w.heap.size + 1 + 1) v110).setCell rfl (Value.bool (decide (nx0 < 0)))).setCell rfl (Value.slice nx nxn nxc)
        have R0_119 := (show Blk _ _ #[Value.bool (decide (nx0 < 0)), Value.slice nx nxn nxc] from ((R0_109).setCell (i := 0) (v := Value.bool (decide (nx0 < 0))) (by simp)).setCell (i := 1) (v := Value.slice nx nxn nxc) (by simp))
        have Xa_120 := Xa_107.kp hkp (show ¬ (w.heap.size = w.heap.size + 1 + 1) by omega)
        have Xb_121 := Xb_108.kp hkp (show ¬ (w.heap.size + 1 = w.heap.size + 1 + 1) by omega)
        have R1_122 := R1_110.kp hkp (show ¬ (w.heap.size + 1 + 1 + 1 = w.heap.size + 1 + 1) by omega)
        have L_123 := L_111.kp hkp (show ¬ (w101.heap.size = w.heap.size + 1 + 1) by omega)
        have Xx_124 := Xx_112.kp hkp (show ¬ (w101.heap.size + 1 = w.heap.size + 1 + 1) by omega)
        have Xy_125 := Xy_106.kp hkp (show ¬ (w101.heap.size + 1 + 1 = w.heap.size + 1 + 1) by omega)
        have Op_126 := Op_113.kp hkp (fun g' e => awpR0 g' e)
        have Oq_127 := Oq_114.kp hkp (fun g' e => awqR0 g' e)
        have Or_128 := Or_115.kp hkp (fun g' e => awrR0 g' e)
        have Onx_129 := Onx_116.kp hkp (fun g' e => awnxR0 g' e)
        have Ony_130 := Ony_117.kp hkp (fun g' e => awnyR0 g' e)
        have hbel131 := hbel118.kp hkp (hbel118).size (fun k hk => (show ¬ (k = w.heap.size + 1 + 1) by omega))
        have hse131 := hkp.size
        clear Xa_107 Xb_108 R0_109 R1_110 L_111 Xx_112 Xy_106 Op_113 Oq_114 Or_115 Onx_116 Ony_117 hbel118 hkp
        generalize ((v110.setCell ⟨w.heap.size + 1 + 1, 0, none⟩ (Value.bool (decide (nx0 < 0)))).setCell ⟨w.heap.size + 1 + 1, 1, none⟩ (Value.slice nx nxn nxc)) = v111 at *
        have cXa0_131 : _ = some (Value.bool s) := Xa_120.cell 0
        have cXa1_131 : _ = some (Value.slice a n c) := Xa_120.cell 1
        have cXb0_131 : _ = some (Value.bool t) := Xb_121.cell 0
        have cXb1_131 : _ = some (Value.slice b m d) := Xb_121.cell 1
        have cR00_131 : _ = some (Value.bool (decide (nx0 < 0))) := R0_119.cell 0
        have fR00_131 := R0_119.free 0
        have cR01_131 : _ = some (Value.slice nx nxn nxc) := R0_119.cell 1
        have fR01_131 := R0_119.free 1
        have cR10_131 : _ = some (Value.bool false) := R1_122.cell 0
        have fR10_131 := R1_122.free 0
        have cR11_131 : _ = some (Value.slice none 0 0) := R1_122.cell 1
        have fR11_131 := R1_122.free 1
        have cL0_131 : _ = some (Value.bool (decide (r0 < 0))) := L_123.cell 0
        have cL1_131 : _ = some (Value.slice p pn pc) := L_123.cell 1
        have cL2_131 : _ = some (Value.bool (decide (x0 < 0))) := L_123.cell 2
        have cL3_131 : _ = some (Value.slice q qn qc) := L_123.cell 3
        have cL4_131 : _ = some (Value.bool (decide (y0 < 0))) := L_123.cell 4
        have cL5_131 : _ = some (Value.slice r rn rc) := L_123.cell 5
        have cXx0_131 : _ = some (Value.bool (decide (nx0 < 0))) := Xx_124.cell 0
        have fXx0_131 := Xx_124.free 0
        have cXx1_131 : _ = some (Value.slice nx nxn nxc) := Xx_124.cell 1
        have fXx1_131 := Xx_124.free 1
        have cXy0_131 : _ = some (Value.bool (decide (ny0 < 0))) := Xy_125.cell 0
        have fXy0_131 := Xy_125.free 0
        have cXy1_131 : _ = some (Value.slice ny nyn nyc) := Xy_125.cell 1
        have fXy1_131 := Xy_125.free 1
        clear cXa0_131 cXa1_131 cXb0_131 cXb1_131 cR00_131 fR00_131 cR01_131 fR01_131 cR10_131 fR10_131 cR11_131 fR11_131 cL0_131 cL1_131 cL2_131 cL3_131 cL4_131 cL5_131 cXx0_131 fXx0_131 cXx1_131 fXx1_131 cXy0_131 fXy0_131 cXy1_131 fXy1_131
        have hkp : Kp (fun k => k = w.heap.size + 1 + 1 + 1) v111 ((v111.setCell ⟨w.heap.size + 1 + 1 + 1, 0, none⟩ (Value.bool (decide (ny0 < 0)))).setCell ⟨w.heap.size + 1 + 1 + 1, 1, none⟩ (Value.slice ny nyn nyc)) := ((Kp.refl (fun k => k = w.heap.size + 1 + 1 + 1) v111).setCell rfl (Value.bool (decide (ny0 < 0)))).setCell rfl (Value.slice ny nyn nyc)
        have R1_132 := (show Blk _ _ #[Value.bool (decide (ny0 < 0)), Value.slice ny nyn nyc] from ((R1_122).setCell (i := 0) (v := Value.bool (decide (ny0 < 0))) (by simp)).setCell (i := 1) (v := Value.slice ny nyn nyc) (by simp))
        have Xa_133 := Xa_120.kp hkp (show ¬ (w.heap.size = w.heap.size + 1 + 1 + 1) by omega)
        have Xb_134 := Xb_121.kp hkp (show ¬ (w.heap.size + 1 = w.heap.size + 1 + 1 + 1) by omega)
        have R0_135 := R0_119.kp hkp (show ¬ (w.heap.size + 1 + 1 = w.heap.size + 1 + 1 + 1) by omega)
        have L_136 := L_123.kp hkp (show ¬ (w101.heap.size = w.heap.size + 1 + 1 + 1) by omega)
        have Xx_137 := Xx_124.kp hkp (show ¬ (w101.heap.size + 1 = w.heap.size + 1 + 1 + 1) by omega)
        have Xy_138 := Xy_125.kp hkp (show ¬ (w101.heap.size + 1 + 1 = w.heap.size + 1 + 1 + 1) by omega)
        have Op_139 := Op_126.kp hkp (fun g' e => awpR1 g' e)
        have Oq_140 := Oq_127.kp hkp (fun g' e => awqR1 g' e)
        have Or_141 := Or_128.kp hkp (fun g' e => awrR1 g' e)
        have Onx_142 := Onx_129.kp hkp (fun g' e => awnxR1 g' e)
        have Ony_143 := Ony_130.kp hkp (fun g' e => awnyR1 g' e)
        have hbel144 := hbel131.kp hkp (hbel131).size (fun k hk => (show ¬ (k = w.heap.size + 1 + 1 + 1) by omega))
        have hse144 := hkp.size
        clear Xa_120 Xb_121 R0_119 R1_122 L_123 Xx_124 Xy_125 Op_126 Oq_127 Or_128 Onx_129 Ony_130 hbel131 hkp
        generalize ((v111.setCell ⟨w.heap.size + 1 + 1 + 1, 0, none⟩ (Value.bool (decide (ny0 < 0)))).setCell ⟨w.heap.size + 1 + 1 + 1, 1, none⟩ (Value.slice ny nyn nyc)) = v112 at *
        have cXa0_144 : _ = some (Value.bool s) := Xa_133.cell 0
        have cXa1_144 : _ = some (Value.slice a n c) := Xa_133.cell 1
        have cXb0_144 : _ = some (Value.bool t) := Xb_134.cell 0
        have cXb1_144 : _ = some (Value.slice b m d) := Xb_134.cell 1
        have cR00_144 : _ = some (Value.bool (decide (nx0 < 0))) := R0_135.cell 0
        have fR00_144 := R0_135.free 0
        have cR01_144 : _ = some (Value.slice nx nxn nxc) := R0_135.cell 1
        have fR01_144 := R0_135.free 1
        have cR10_144 : _ = some (Value.bool (decide (ny0 < 0))) := R1_132.cell 0
        have fR10_144 := R1_132.free 0
        have cR11_144 : _ = some (Value.slice ny nyn nyc) := R1_132.cell 1
        have fR11_144 := R1_132.free 1
        have cL0_144 : _ = some (Value.bool (decide (r0 < 0))) := L_136.cell 0
        have cL1_144 : _ = some (Value.slice p pn pc) := L_136.cell 1
        have cL2_144 : _ = some (Value.bool (decide (x0 < 0))) := L_136.cell 2
        have cL3_144 : _ = some (Value.slice q qn qc) := L_136.cell 3
        have cL4_144 : _ = some (Value.bool (decide (y0 < 0))) := L_136.cell 4
        have cL5_144 : _ = some (Value.slice r rn rc) := L_136.cell 5
        have cXx0_144 : _ = some (Value.bool (decide (nx0 < 0))) := Xx_137.cell 0
        have fXx0_144 := Xx_137.free 0
        have cXx1_144 : _ = some (Value.slice nx nxn nxc) := Xx_137.cell 1
        have fXx1_144 := Xx_137.free 1
        have cXy0_144 : _ = some (Value.bool (decide (ny0 < 0))) := Xy_138.cell 0
        have fXy0_144 := Xy_138.free 0
        have cXy1_144 : _ = some (Value.slice ny nyn nyc) := Xy_138.cell 1
        have fXy1_144 := Xy_138.free 1
        go_wp2
        refine bodyPost_ret (v := .tuple #[.slice p pn pc, .agg #[.bool (decide (nx0 < 0)), .slice nx nxn nxc], .agg #[.bool (decide (ny0 < 0)), .slice ny nyn nyc]]) (by simp [results, Try.results62, go_sem, cR00_144, cR01_144, cR10_144, cR11_144]) rfl ?_
        rw [← E1.out, ← E2.out, ← E3.out, HBA.out, HBB.out]
        exact ⟨p, pn, pc, nx, nxn, nxc, ny, nyn, nyc, rfl, Op_139.mono (by omega), Onx_142.mono (by omega), Ony_143.mono (by omega), dfpnx, dfpny, dfnxny, ⟨hbel144.os, hbel144.tape, hbel144.output, hbel144.size, hbel144.block⟩⟩
      · skip
        obtain ⟨nx0, hnx0⟩ : ∃ z, z = -x0 := ⟨_, rfl⟩
        have HNx0 := hid hnx0
        clear hnx0
        have hba : bzS za x0 = nx0 := (if_pos hzaS).trans HNx0.out.symm
        have hbb : bzS zb y0 = y0 := if_neg (by omega)
        have HBA := hid hba
        have HBB := hid hbb
        clear hba hbb
        generalize hsa : sgn za = ga at HSA
        generalize hsb : sgn zb = gb at HSB
        have hsa' : ga = -1 := by have := sgn_cases za; omega
        have hsb' : 0 ≤ gb ∧ gb ≤ 1 := by have := sgn_cases zb; omega
        clear hsa hsb hzaS hzbS
        subst hsa'
        have dgb : decide (gb < 0) = false := decide_eq_false (by omega)
        have hbx := blk_new' w101 #[Value.bool (decide (r0 < 0)), Value.slice p pn pc, Value.bool (decide (x0 < 0)), Value.slice q qn qc, Value.bool (decide (y0 < 0)), Value.slice r rn rc] 118 (g := w101.heap.size) (by simp)
        have hbB := (Below.refl w101.heap.size w101).alloc (Nat.le_refl _) (.cells #[Value.bool (decide (r0 < 0)), Value.slice p pn pc, Value.bool (decide (x0 < 0)), Value.slice q qn qc, Value.bool (decide (y0 < 0)), Value.slice r rn rc] 118)
        have hbg := hbx.lt
        have hstep : Below w101.heap.size w101 (w101.alloc (.cells #[Value.bool (decide (r0 < 0)), Value.slice p pn pc, Value.bool (decide (x0 < 0)), Value.slice q qn qc, Value.bool (decide (y0 < 0)), Value.slice r rn rc] 118)) := (by first | exact hbB | exact below_drew hbB)
        have Xa_13 := Xa_1.next hstep
        have Xb_14 := Xb_2.next hstep
        have R0_15 := R0_3.next hstep
        have R1_16 := R1_4.next hstep
        have V_17 := V_5.next hstep
        have Op_18 := Op_6.below hstep
        have Oq_19 := Oq_7.below hstep
        have Or_20 := Or_8.below hstep
        have hbel21 := hbel12.next hstep
        have hle21 := hbel21.size
        have hls21 := hstep.size
        clear Xa_1 Xb_2 R0_3 R1_4 V_5 Op_6 Oq_7 Or_8 hbel12 hstep
        have cXa0_21 : _ = some (Value.bool s) := Xa_13.cell 0
        have cXa1_21 : _ = some (Value.slice a n c) := Xa_13.cell 1
        have cXb0_21 : _ = some (Value.bool t) := Xb_14.cell 0
        have cXb1_21 : _ = some (Value.slice b m d) := Xb_14.cell 1
        have cR00_21 : _ = some (Value.bool false) := R0_15.cell 0
        have fR00_21 := R0_15.free 0
        have cR01_21 : _ = some (Value.slice none 0 0) := R0_15.cell 1
        have fR01_21 := R0_15.free 1
        have cR10_21 : _ = some (Value.bool false) := R1_16.cell 0
        have fR10_21 := R1_16.free 0
        have cR11_21 : _ = some (Value.slice none 0 0) := R1_16.cell 1
        have fR11_21 := R1_16.free 1
        have cV0_21 : World.cell? (w101.alloc (.cells #[Value.bool (decide (r0 < 0)), Value.slice p pn pc, Value.bool (decide (x0 < 0)), Value.slice q qn qc, Value.bool (decide (y0 < 0)), Value.slice r rn rc] 118)) ⟨g, k * 6, none⟩ = some (Value.bool (decide (r0 < 0))) := V_17.cell0 0 (by decide)
        have cV1_21 : World.cell? (w101.alloc (.cells #[Value.bool (decide (r0 < 0)), Value.slice p pn pc, Value.bool (decide (x0 < 0)), Value.slice q qn qc, Value.bool (decide (y0 < 0)), Value.slice r rn rc] 118)) ⟨g, k * 6 + 1, none⟩ = some (Value.slice p pn pc) := V_17.cell0 1 (by decide)
        have cV2_21 : World.cell? (w101.alloc (.cells #[Value.bool (decide (r0 < 0)), Value.slice p pn pc, Value.bool (decide (x0 < 0)), Value.slice q qn qc, Value.bool (decide (y0 < 0)), Value.slice r rn rc] 118)) ⟨g, k * 6 + 2, none⟩ = some (Value.bool (decide (x0 < 0))) := V_17.cell0 2 (by decide)
        have cV3_21 : World.cell? (w101.alloc (.cells #[Value.bool (decide (r0 < 0)), Value.slice p pn pc, Value.bool (decide (x0 < 0)), Value.slice q qn qc, Value.bool (decide (y0 < 0)), Value.slice r rn rc] 118)) ⟨g, k * 6 + 3, none⟩ = some (Value.slice q qn qc) := V_17.cell0 3 (by decide)
        have cV4_21 : World.cell? (w101.alloc (.cells #[Value.bool (decide (r0 < 0)), Value.slice p pn pc, Value.bool (decide (x0 < 0)), Value.slice q qn qc, Value.bool (decide (y0 < 0)), Value.slice r rn rc] 118)) ⟨g, k * 6 + 4, none⟩ = some (Value.bool (decide (y0 < 0))) := V_17.cell0 4 (by decide)
        have cV5_21 : World.cell? (w101.alloc (.cells #[Value.bool (decide (r0 < 0)), Value.slice p pn pc, Value.bool (decide (x0 < 0)), Value.slice q qn qc, Value.bool (decide (y0 < 0)), Value.slice r rn rc] 118)) ⟨g, k * 6 + 5, none⟩ = some (Value.slice r rn rc) := V_17.cell0 5 (by decide)
        have cV6_21 : World.cell? (w101.alloc (.cells #[Value.bool (decide (r0 < 0)), Value.slice p pn pc, Value.bool (decide (x0 < 0)), Value.slice q qn qc, Value.bool (decide (y0 < 0)), Value.slice r rn rc] 118)) ⟨g, (k + 1) * 6, none⟩ = some (Value.bool (decide (r1 < 0))) := V_17.cell1 0 (by decide)
        have cV7_21 : World.cell? (w101.alloc (.cells #[Value.bool (decide (r0 < 0)), Value.slice p pn pc, Value.bool (decide (x0 < 0)), Value.slice q qn qc, Value.bool (decide (y0 < 0)), Value.slice r rn rc] 118)) ⟨g, (k + 1) * 6 + 1, none⟩ = some (Value.slice p' p'n p'c) := V_17.cell1 1 (by decide)
        have cV8_21 : World.cell? (w101.alloc (.cells #[Value.bool (decide (r0 < 0)), Value.slice p pn pc, Value.bool (decide (x0 < 0)), Value.slice q qn qc, Value.bool (decide (y0 < 0)), Value.slice r rn rc] 118)) ⟨g, (k + 1) * 6 + 2, none⟩ = some (Value.bool (decide (x1 < 0))) := V_17.cell1 2 (by decide)
        have cV9_21 : World.cell? (w101.alloc (.cells #[Value.bool (decide (r0 < 0)), Value.slice p pn pc, Value.bool (decide (x0 < 0)), Value.slice q qn qc, Value.bool (decide (y0 < 0)), Value.slice r rn rc] 118)) ⟨g, (k + 1) * 6 + 3, none⟩ = some (Value.slice q' q'n q'c) := V_17.cell1 3 (by decide)
        have cV10_21 : World.cell? (w101.alloc (.cells #[Value.bool (decide (r0 < 0)), Value.slice p pn pc, Value.bool (decide (x0 < 0)), Value.slice q qn qc, Value.bool (decide (y0 < 0)), Value.slice r rn rc] 118)) ⟨g, (k + 1) * 6 + 4, none⟩ = some (Value.bool (decide (y1 < 0))) := V_17.cell1 4 (by decide)
        have cV11_21 : World.cell? (w101.alloc (.cells #[Value.bool (decide (r0 < 0)), Value.slice p pn pc, Value.bool (decide (x0 < 0)), Value.slice q qn qc, Value.bool (decide (y0 < 0)), Value.slice r rn rc] 118)) ⟨g, (k + 1) * 6 + 5, none⟩ = some (Value.slice r' r'n r'c) := V_17.cell1 5 (by decide)
        have L_22 := hbx
        have cL0_22 : _ = some (Value.bool (decide (r0 < 0))) := L_22.cell 0
        have cL1_22 : _ = some (Value.slice p pn pc) := L_22.cell 1
        have cL2_22 : _ = some (Value.bool (decide (x0 < 0))) := L_22.cell 2
        have cL3_22 : _ = some (Value.slice q qn qc) := L_22.cell 3
        have cL4_22 : _ = some (Value.bool (decide (y0 < 0))) := L_22.cell 4
        have cL5_22 : _ = some (Value.slice r rn rc) := L_22.cell 5
        clear hbx hbB
        have hbx := blk_new' (w101.alloc (.cells #[Value.bool (decide (r0 < 0)), Value.slice p pn pc, Value.bool (decide (x0 < 0)), Value.slice q qn qc, Value.bool (decide (y0 < 0)), Value.slice r rn rc] 118)) #[Value.bool (decide (x0 < 0)), Value.slice q qn qc] 25 (g := w101.heap.size + 1) (by simp)
        have hbB := (Below.refl (w101.alloc (.cells #[Value.bool (decide (r0 < 0)), Value.slice p pn pc, Value.bool (decide (x0 < 0)), Value.slice q qn qc, Value.bool (decide (y0 < 0)), Value.slice r rn rc] 118)).heap.size (w101.alloc (.cells #[Value.bool (decide (r0 < 0)), Value.slice p pn pc, Value.bool (decide (x0 < 0)), Value.slice q qn qc, Value.bool (decide (y0 < 0)), Value.slice r rn rc] 118))).alloc (Nat.le_refl _) (.cells #[Value.bool (decide (x0 < 0)), Value.slice q qn qc] 25)
        have hbg := hbx.lt
        have hstep : Below (w101.alloc (.cells #[Value.bool (decide (r0 < 0)), Value.slice p pn pc, Value.bool (decide (x0 < 0)), Value.slice q qn qc, Value.bool (decide (y0 < 0)), Value.slice r rn rc] 118)).heap.size (w101.alloc (.cells #[Value.bool (decide (r0 < 0)), Value.slice p pn pc, Value.bool (decide (x0 < 0)), Value.slice q qn qc, Value.bool (decide (y0 < 0)), Value.slice r rn rc] 118)) ((w101.alloc (.cells #[Value.bool (decide (r0 < 0)), Value.slice p pn pc, Value.bool (decide (x0 < 0)), Value.slice q qn qc, Value.bool (decide (y0 < 0)), Value.slice r rn rc] 118)).alloc (.cells #[Value.bool (decide (x0 < 0)), Value.slice q qn qc] 25)) := (by first | exact hbB | exact below_drew hbB)
        have Xa_23 := Xa_13.next hstep
        have Xb_24 := Xb_14.next hstep
        have R0_25 := R0_15.next hstep
        have R1_26 := R1_16.next hstep
        have V_27 := V_17.next hstep
        have L_28 := L_22.next hstep
        have Op_29 := Op_18.below hstep
        have Oq_30 := Oq_19.below hstep
        have Or_31 := Or_20.below hstep
        have hbel32 := hbel21.next hstep
        have hle32 := hbel32.size
        have hls32 := hstep.size
        clear Xa_13 Xb_14 R0_15 R1_16 V_17 L_22 Op_18 Oq_19 Or_20 hbel21 hstep
        have cXa0_32 : _ = some (Value.bool s) := Xa_23.cell 0
        have cXa1_32 : _ = some (Value.slice a n c) := Xa_23.cell 1
        have cXb0_32 : _ = some (Value.bool t) := Xb_24.cell 0
        have cXb1_32 : _ = some (Value.slice b m d) := Xb_24.cell 1
        have cR00_32 : _ = some (Value.bool false) := R0_25.cell 0
        have fR00_32 := R0_25.free 0
        have cR01_32 : _ = some (Value.slice none 0 0) := R0_25.cell 1
        have fR01_32 := R0_25.free 1
        have cR10_32 : _ = some (Value.bool false) := R1_26.cell 0
        have fR10_32 := R1_26.free 0
        have cR11_32 : _ = some (Value.slice none 0 0) := R1_26.cell 1
        have fR11_32 := R1_26.free 1
        have cV0_32 : World.cell? ((w101.alloc (.cells #[Value.bool (decide (r0 < 0)), Value.slice p pn pc, Value.bool (decide (x0 < 0)), Value.slice q qn qc, Value.bool (decide (y0 < 0)), Value.slice r rn rc] 118)).alloc (.cells #[Value.bool (decide (x0 < 0)), Value.slice q qn qc] 25)) ⟨g, k * 6, none⟩ = some (Value.bool (decide (r0 < 0))) := V_27.cell0 0 (by decide)
        have cV1_32 : World.cell? ((w101.alloc (.cells #[Value.bool (decide (r0 < 0)), Value.slice p pn pc, Value.bool (decide (x0 < 0)), Value.slice q qn qc, Value.bool (decide (y0 < 0)), Value.slice r rn rc] 118)).alloc (.cells #[Value.bool (decide (x0 < 0)), Value.slice q qn qc] 25)) ⟨g, k * 6 + 1, none⟩ = some (Value.slice p pn pc) := V_27.cell0 1 (by decide)
        have cV2_32 : World.cell? ((w101.alloc (.cells #[Value.bool (decide (r0 < 0)), Value.slice p pn pc, Value.bool (decide (x0 < 0)), Value.slice q qn qc, Value.bool (decide (y0 < 0)), Value.slice r rn rc] 118)).alloc (.cells #[Value.bool (decide (x0 < 0)), Value.slice q qn qc] 25)) ⟨g, k * 6 + 2, none⟩ = some (Value.bool (decide (x0 < 0))) := V_27.cell0 2 (by decide)
        have cV3_32 : World.cell? ((w101.alloc (.cells #[Value.bool (decide (r0 < 0)), Value.slice p pn pc, Value.bool (decide (x0 < 0)), Value.slice q qn qc, Value.bool (decide (y0 < 0)), Value.slice r rn rc] 118)).alloc (.cells #[Value.bool (decide (x0 < 0)), Value.slice q qn qc] 25)) ⟨g, k * 6 + 3, none⟩ = some (Value.slice q qn qc) := V_27.cell0 3 (by decide)
        have cV4_32 : World.cell? ((w101.alloc (.cells #[Value.bool (decide (r0 < 0)), Value.slice p pn pc, Value.bool (decide (x0 < 0)), Value.slice q qn qc, Value.bool (decide (y0 < 0)), Value.slice r rn rc] 118)).alloc (.cells #[Value.bool (decide (x0 < 0)), Value.slice q qn qc] 25)) ⟨g, k * 6 + 4, none⟩ = some (Value.bool (decide (y0 < 0))) := V_27.cell0 4 (by decide)
        have cV5_32 : World.cell? ((w101.alloc (.cells #[Value.bool (decide (r0 < 0)), Value.slice p pn pc, Value.bool (decide (x0 < 0)), Value.slice q qn qc, Value.bool (decide (y0 < 0)), Value.slice r rn rc] 118)).alloc (.cells #[Value.bool (decide (x0 < 0)), Value.slice q qn qc] 25)) ⟨g, k * 6 + 5, none⟩ = some (Value.slice r rn rc) := V_27.cell0 5 (by decide)
        have cV6_32 : World.cell? ((w101.alloc (.cells #[Value.bool (decide (r0 < 0)), Value.slice p pn pc, Value.bool (decide (x0 < 0)), Value.slice q qn qc, Value.bool (decide (y0 < 0)), Value.slice r rn rc] 118)).alloc (.cells #[Value.bool (decide (x0 < 0)), Value.slice q qn qc] 25)) ⟨g, (k + 1) * 6, none⟩ = some (Value.bool (decide (r1 < 0))) := V_27.cell1 0 (by decide)
        have cV7_32 : World.cell? ((w101.alloc (.cells #[Value.bool (decide (r0 < 0)), Value.slice p pn pc, Value.bool (decide (x0 < 0)), Value.slice q qn qc, Value.bool (decide (y0 < 0)), Value.slice r rn rc] 118)).alloc (.cells #[Value.bool (decide (x0 < 0)), Value.slice q qn qc] 25)) ⟨g, (k + 1) * 6 + 1, none⟩ = some (Value.slice p' p'n p'c) := V_27.cell1 1 (by decide)
        have cV8_32 : World.cell? ((w101.alloc (.cells #[Value.bool (decide (r0 < 0)), Value.slice p pn pc, Value.bool (decide (x0 < 0)), Value.slice q qn qc, Value.bool (decide (y0 < 0)), Value.slice r rn rc] 118)).alloc (.cells #[Value.bool (decide (x0 < 0)), Value.slice q qn qc] 25)) ⟨g, (k + 1) * 6 + 2, none⟩ = some (Value.bool (decide (x1 < 0))) := V_27.cell1 2 (by decide)
        have cV9_32 : World.cell? ((w101.alloc (.cells #[Value.bool (decide (r0 < 0)), Value.slice p pn pc, Value.bool (decide (x0 < 0)), Value.slice q qn qc, Value.bool (decide (y0 < 0)), Value.slice r rn rc] 118)).alloc (.cells #[Value.bool (decide (x0 < 0)), Value.slice q qn qc] 25)) ⟨g, (k + 1) * 6 + 3, none⟩ = some (Value.slice q' q'n q'c) := V_27.cell1 3 (by decide)
        have cV10_32 : World.cell? ((w101.alloc (.cells #[Value.bool (decide (r0 < 0)), Value.slice p pn pc, Value.bool (decide (x0 < 0)), Value.slice q qn qc, Value.bool (decide (y0 < 0)), Value.slice r rn rc] 118)).alloc (.cells #[Value.bool (decide (x0 < 0)), Value.slice q qn qc] 25)) ⟨g, (k + 1) * 6 + 4, none⟩ = some (Value.bool (decide (y1 < 0))) := V_27.cell1 4 (by decide)
        have cV11_32 : World.cell? ((w101.alloc (.cells #[Value.bool (decide (r0 < 0)), Value.slice p pn pc, Value.bool (decide (x0 < 0)), Value.slice q qn qc, Value.bool (decide (y0 < 0)), Value.slice r rn rc] 118)).alloc (.cells #[Value.bool (decide (x0 < 0)), Value.slice q qn qc] 25)) ⟨g, (k + 1) * 6 + 5, none⟩ = some (Value.slice r' r'n r'c) := V_27.cell1 5 (by decide)
        have cL0_32 : _ = some (Value.bool (decide (r0 < 0))) := L_28.cell 0
        have cL1_32 : _ = some (Value.slice p pn pc) := L_28.cell 1
        have cL2_32 : _ = some (Value.bool (decide (x0 < 0))) := L_28.cell 2
        have cL3_32 : _ = some (Value.slice q qn qc) := L_28.cell 3
        have cL4_32 : _ = some (Value.bool (decide (y0 < 0))) := L_28.cell 4
        have cL5_32 : _ = some (Value.slice r rn rc) := L_28.cell 5
        have Xx_33 := hbx
        have cXx0_33 : _ = some (Value.bool (decide (x0 < 0))) := Xx_33.cell 0
        have fXx0_33 := Xx_33.free 0
        have cXx1_33 : _ = some (Value.slice q qn qc) := Xx_33.cell 1
        have fXx1_33 := Xx_33.free 1
        clear hbx hbB
        have hbx := blk_new' ((w101.alloc (.cells #[Value.bool (decide (r0 < 0)), Value.slice p pn pc, Value.bool (decide (x0 < 0)), Value.slice q qn qc, Value.bool (decide (y0 < 0)), Value.slice r rn rc] 118)).alloc (.cells #[Value.bool (decide (x0 < 0)), Value.slice q qn qc] 25)) #[Value.bool (decide (y0 < 0)), Value.slice r rn rc] 25 (g := w101.heap.size + 1 + 1) (by simp)
        have hbB := (Below.refl ((w101.alloc (.cells #[Value.bool (decide (r0 < 0)), Value.slice p pn pc, Value.bool (decide (x0 < 0)), Value.slice q qn qc, Value.bool (decide (y0 < 0)), Value.slice r rn rc] 118)).alloc (.cells #[Value.bool (decide (x0 < 0)), Value.slice q qn qc] 25)).heap.size ((w101.alloc (.cells #[Value.bool (decide (r0 < 0)), Value.slice p pn pc, Value.bool (decide (x0 < 0)), Value.slice q qn qc, Value.bool (decide (y0 < 0)), Value.slice r rn rc] 118)).alloc (.cells #[Value.bool (decide (x0 < 0)), Value.slice q qn qc] 25))).alloc (Nat.le_refl _) (.cells #[Value.bool (decide (y0 < 0)), Value.slice r rn rc] 25)
        have hbg := hbx.lt
        have hstep : Below ((w101.alloc (.cells #[Value.bool (decide (r0 < 0)), Value.slice p pn pc, Value.bool (decide (x0 < 0)), Value.slice q qn qc, Value.bool (decide (y0 < 0)), Value.slice r rn rc] 118)).alloc (.cells #[Value.bool (decide (x0 < 0)), Value.slice q qn qc] 25)).heap.size ((w101.alloc (.cells #[Value.bool (decide (r0 < 0)), Value.slice p pn pc, Value.bool (decide (x0 < 0)), Value.slice q qn qc, Value.bool (decide (y0 < 0)), Value.slice r rn rc] 118)).alloc (.cells #[Value.bool (decide (x0 < 0)), Value.slice q qn qc] 25)) (((w101.alloc (.cells #[Value.bool (decide (r0 < 0)), Value.slice p pn pc, Value.bool (decide (x0 < 0)), Value.slice q qn qc, Value.bool (decide (y0 < 0)), Value.slice r rn rc] 118)).alloc (.cells #[Value.bool (decide (x0 < 0)), Value.slice q qn qc] 25)).alloc (.cells #[Value.bool (decide (y0 < 0)), Value.slice r rn rc] 25)) := (by first | exact hbB | exact below_drew hbB)
        have Xa_34 := Xa_23.next hstep
        have Xb_35 := Xb_24.next hstep
        have R0_36 := R0_25.next hstep
        have R1_37 := R1_26.next hstep
        have V_38 := V_27.next hstep
        have L_39 := L_28.next hstep
        have Xx_40 := Xx_33.next hstep
        have Op_41 := Op_29.below hstep
        have Oq_42 := Oq_30.below hstep
        have Or_43 := Or_31.below hstep
        have hbel44 := hbel32.next hstep
        have hle44 := hbel44.size
        have hls44 := hstep.size
        clear Xa_23 Xb_24 R0_25 R1_26 V_27 L_28 Xx_33 Op_29 Oq_30 Or_31 hbel32 hstep
        have cXa0_44 : _ = some (Value.bool s) := Xa_34.cell 0
        have cXa1_44 : _ = some (Value.slice a n c) := Xa_34.cell 1
        have cXb0_44 : _ = some (Value.bool t) := Xb_35.cell 0
        have cXb1_44 : _ = some (Value.slice b m d) := Xb_35.cell 1
        have cR00_44 : _ = some (Value.bool false) := R0_36.cell 0
        have fR00_44 := R0_36.free 0
        have cR01_44 : _ = some (Value.slice none 0 0) := R0_36.cell 1
        have fR01_44 := R0_36.free 1
        have cR10_44 : _ = some (Value.bool false) := R1_37.cell 0
        have fR10_44 := R1_37.free 0
        have cR11_44 : _ = some (Value.slice none 0 0) := R1_37.cell 1
        have fR11_44 := R1_37.free 1
        have cV0_44 : World.cell? (((w101.alloc (.cells #[Value.bool (decide (r0 < 0)), Value.slice p pn pc, Value.bool (decide (x0 < 0)), Value.slice q qn qc, Value.bool (decide (y0 < 0)), Value.slice r rn rc] 118)).alloc (.cells #[Value.bool (decide (x0 < 0)), Value.slice q qn qc] 25)).alloc (.cells #[Value.bool (decide (y0 < 0)), Value.slice r rn rc] 25)) ⟨g, k * 6, none⟩ = some (Value.bool (decide (r0 < 0))) := V_38.cell0 0 (by decide)
        have cV1_44 : World.cell? (((w101.alloc (.cells #[Value.bool (decide (r0 < 0)), Value.slice p pn pc, Value.bool (decide (x0 < 0)), Value.slice q qn qc, Value.bool (decide (y0 < 0)), Value.slice r rn rc] 118)).alloc (.cells #[Value.bool (decide (x0 < 0)), Value.slice q qn qc] 25)).alloc (.cells #[Value.bool (decide (y0 < 0)), Value.slice r rn rc] 25)) ⟨g, k * 6 + 1, none⟩ = some (Value.slice p pn pc) := V_38.cell0 1 (by decide)
        have cV2_44 : World.cell? (((w101.alloc (.cells #[Value.bool (decide (r0 < 0)), Value.slice p pn pc, Value.bool (decide (x0 < 0)), Value.slice q qn qc, Value.bool (decide (y0 < 0)), Value.slice r rn rc] 118)).alloc (.cells #[Value.bool (decide (x0 < 0)), Value.slice q qn qc] 25)).alloc (.cells #[Value.bool (decide (y0 < 0)), Value.slice r rn rc] 25)) ⟨g, k * 6 + 2, none⟩ = some (Value.bool (decide (x0 < 0))) := V_38.cell0 2 (by decide)
        have cV3_44 : World.cell? (((w101.alloc (.cells #[Value.bool (decide (r0 < 0)), Value.slice p pn pc, Value.bool (decide (x0 < 0)), Value.slice q qn qc, Value.bool (decide (y0 < 0)), Value.slice r rn rc] 118)).alloc (.cells #[Value.bool (decide (x0 < 0)), Value.slice q qn qc] 25)).alloc (.cells #[Value.bool (decide (y0 < 0)), Value.slice r rn rc] 25)) ⟨g, k * 6 + 3, none⟩ = some (Value.slice q qn qc) := V_38.cell0 3 (by decide)
        have cV4_44 : World.cell? (((w101.alloc (.cells #[Value.bool (decide (r0 < 0)), Value.slice p pn pc, Value.bool (decide (x0 < 0)), Value.slice q qn qc, Value.bool (decide (y0 < 0)), Value.slice r rn rc] 118)).alloc (.cells #[Value.bool (decide (x0 < 0)), Value.slice q qn qc] 25)).alloc (.cells #[Value.bool (decide (y0 < 0)), Value.slice r rn rc] 25)) ⟨g, k * 6 + 4, none⟩ = some (Value.bool (decide (y0 < 0))) := V_38.cell0 4 (by decide)
        have cV5_44 : World.cell? (((w101.alloc (.cells #[Value.bool (decide (r0 < 0)), Value.slice p pn pc, Value.bool (decide (x0 < 0)), Value.slice q qn qc, Value.bool (decide (y0 < 0)), Value.slice r rn rc] 118)).alloc (.cells #[Value.bool (decide (x0 < 0)), Value.slice q qn qc] 25)).alloc (.cells #[Value.bool (decide (y0 < 0)), Value.slice r rn rc] 25)) ⟨g, k * 6 + 5, none⟩ = some (Value.slice r rn rc) := V_38.cell0 5 (by decide)
        have cV6_44 : World.cell? (((w101.alloc (.cells #[Value.bool (decide (r0 < 0)), Value.slice p pn pc, Value.bool (decide (x0 < 0)), Value.slice q qn qc, Value.bool (decide (y0 < 0)), Value.slice r rn rc] 118)).alloc (.cells #[Value.bool (decide (x0 < 0)), Value.slice q qn qc] 25)).alloc (.cells #[Value.bool (decide (y0 < 0)), Value.slice r rn rc] 25)) ⟨g, (k + 1) * 6, none⟩ = some (Value.bool (decide (r1 < 0))) := V_38.cell1 0 (by decide)
        have cV7_44 : World.cell? (((w101.alloc (.cells #[Value.bool (decide (r0 < 0)), Value.slice p pn pc, Value.bool (decide (x0 < 0)), Value.slice q qn qc, Value.bool (decide (y0 < 0)), Value.slice r rn rc] 118)).alloc (.cells #[Value.bool (decide (x0 < 0)), Value.slice q qn qc] 25)).alloc (.cells #[Value.bool (decide (y0 < 0)), Value.slice r rn rc] 25)) ⟨g, (k + 1) * 6 + 1, none⟩ = some (Value.slice p' p'n p'c) := V_38.cell1 1 (by decide)
        have cV8_44 : World.cell? (((w101.alloc (.cells #[Value.bool (decide (r0 < 0)), Value.slice p pn pc, Value.bool (decide (x0 < 0)), Value.slice q qn qc, Value.bool (decide (y0 < 0)), Value.slice r rn rc] 118)).alloc (.cells #[Value.bool (decide (x0 < 0)), Value.slice q qn qc] 25)).alloc (.cells #[Value.bool (decide (y0 < 0)), Value.slice r rn rc] 25)) ⟨g, (k + 1) * 6 + 2, none⟩ = some (Value.bool (decide (x1 < 0))) := V_38.cell1 2 (by decide)
        have cV9_44 : World.cell? (((w101.alloc (.cells #[Value.bool (decide (r0 < 0)), Value.slice p pn pc, Value.bool (decide (x0 < 0)), Value.slice q qn qc, Value.bool (decide (y0 < 0)), Value.slice r rn rc] 118)).alloc (.cells #[Value.bool (decide (x0 < 0)), Value.slice q qn qc] 25)).alloc (.cells #[Value.bool (decide (y0 < 0)), Value.slice r rn rc] 25)) ⟨g, (k + 1) * 6 + 3, none⟩ = some (Value.slice q' q'n q'c) := V_38.cell1 3 (by decide)
        have cV10_44 : World.cell? (((w101.alloc (.cells #[Value.bool (decide (r0 < 0)), Value.slice p pn pc, Value.bool (decide (x0 < 0)), Value.slice q qn qc, Value.bool (decide (y0 < 0)), Value.slice r rn rc] 118)).alloc (.cells #[Value.bool (decide (x0 < 0)), Value.slice q qn qc] 25)).alloc (.cells #[Value.bool (decide (y0 < 0)), Value.slice r rn rc] 25)) ⟨g, (k + 1) * 6 + 4, none⟩ = some (Value.bool (decide (y1 < 0))) := V_38.cell1 4 (by decide)
        have cV11_44 : World.cell? (((w101.alloc (.cells #[Value.bool (decide (r0 < 0)), Value.slice p pn pc, Value.bool (decide (x0 < 0)), Value.slice q qn qc, Value.bool (decide (y0 < 0)), Value.slice r rn rc] 118)).alloc (.cells #[Value.bool (decide (x0 < 0)), Value.slice q qn qc] 25)).alloc (.cells #[Value.bool (decide (y0 < 0)), Value.slice r rn rc] 25)) ⟨g, (k + 1) * 6 + 5, none⟩ = some (Value.slice r' r'n r'c) := V_38.cell1 5 (by decide)
        have cL0_44 : _ = some (Value.bool (decide (r0 < 0))) := L_39.cell 0
        have cL1_44 : _ = some (Value.slice p pn pc) := L_39.cell 1
        have cL2_44 : _ = some (Value.bool (decide (x0 < 0))) := L_39.cell 2
        have cL3_44 : _ = some (Value.slice q qn qc) := L_39.cell 3
        have cL4_44 : _ = some (Value.bool (decide (y0 < 0))) := L_39.cell 4
        have cL5_44 : _ = some (Value.slice r rn rc) := L_39.cell 5
        have cXx0_44 : _ = some (Value.bool (decide (x0 < 0))) := Xx_40.cell 0
        have fXx0_44 := Xx_40.free 0
        have cXx1_44 : _ = some (Value.slice q qn qc) := Xx_40.cell 1
        have fXx1_44 := Xx_40.free 1
        have Xy_45 := hbx
        have cXy0_45 : _ = some (Value.bool (decide (y0 < 0))) := Xy_45.cell 0
        have fXy0_45 := Xy_45.free 0
        have cXy1_45 : _ = some (Value.slice r rn rc) := Xy_45.cell 1
        have fXy1_45 := Xy_45.free 1
        clear hbx hbB
        go_wp2_with fail
        clear cXa0_12 cXa1_12 cXb0_12 cXb1_12 cR00_12 fR00_12 cR01_12 fR01_12 cR10_12 fR10_12 cR11_12 fR11_12 cV0_12 cV1_12 cV2_12 cV3_12 cV4_12 cV5_12 cV6_12 cV7_12 cV8_12 cV9_12 cV10_12 cV11_12 cXa0_21 cXa1_21 cXb0_21 cXb1_21 cR00_21 fR00_21 cR01_21 fR01_21 cR10_21 fR10_21 cR11_21 fR11_21 cV0_21 cV1_21 cV2_21 cV3_21 cV4_21 cV5_21 cV6_21 cV7_21 cV8_21 cV9_21 cV10_21 cV11_21 cL0_22 cL1_22 cL2_22 cL3_22 cL4_22 cL5_22 cXa0_32 cXa1_32 cXb0_32 cXb1_32 cR00_32 fR00_32 cR01_32 fR01_32 cR10_32 fR10_32 cR11_32 fR11_32 cV0_32 cV1_32 cV2_32 cV3_32 cV4_32 cV5_32 cV6_32 cV7_32 cV8_32 cV9_32 cV10_32 cV11_32 cL0_32 cL1_32 cL2_32 cL3_32 cL4_32 cL5_32 cXx0_33 fXx0_33 cXx1_33 fXx1_33
        generalize (((w101.alloc (.cells #[Value.bool (decide (r0 < 0)), Value.slice p pn pc, Value.bool (decide (x0 < 0)), Value.slice q qn qc, Value.bool (decide (y0 < 0)), Value.slice r rn rc] 118)).alloc (.cells #[Value.bool (decide (x0 < 0)), Value.slice q qn qc] 25)).alloc (.cells #[Value.bool (decide (y0 < 0)), Value.slice r rn rc] 25)) = v102 at *
        clear V_38
        have awpXx : Aw p (w101.heap.size + 1) := ltp.aw (by omega)
        have awpXy : Aw p (w101.heap.size + 1 + 1) := ltp.aw (by omega)
        have awqXx : Aw q (w101.heap.size + 1) := ltq.aw (by omega)
        have awqXy : Aw q (w101.heap.size + 1 + 1) := ltq.aw (by omega)
        have awrXx : Aw r (w101.heap.size + 1) := ltr.aw (by omega)
        have awrXy : Aw r (w101.heap.size + 1 + 1) := ltr.aw (by omega)
        go_wp2_with fail
        refine (HSA.out _ (show Rd _ a n c la from (ha.below hbel44))).mono ?_
        rintro e w105 ⟨rfl, hB⟩
        clear cXa0_44 cXa1_44 cXb0_44 cXb1_44 cR00_44 fR00_44 cR01_44 fR01_44 cR10_44 fR10_44 cR11_44 fR11_44 cV0_44 cV1_44 cV2_44 cV3_44 cV4_44 cV5_44 cV6_44 cV7_44 cV8_44 cV9_44 cV10_44 cV11_44 cL0_44 cL1_44 cL2_44 cL3_44 cL4_44 cL5_44 cXx0_44 fXx0_44 cXx1_44 fXx1_44 cXy0_45 fXy0_45 cXy1_45 fXy1_45
        have hstep : Below v102.heap.size v102 w105 := (by first | exact hB | exact below_drew hB)
        have Xa_46 := Xa_34.next hstep
        have Xb_47 := Xb_35.next hstep
        have R0_48 := R0_36.next hstep
        have R1_49 := R1_37.next hstep
        have L_50 := L_39.next hstep
        have Xx_51 := Xx_40.next hstep
        have Xy_52 := Xy_45.next hstep
        have Op_53 := Op_41.below hstep
        have Oq_54 := Oq_42.below hstep
        have Or_55 := Or_43.below hstep
        have hbel56 := hbel44.next hstep
        have hle56 := hbel56.size
        have hls56 := hstep.size
        clear Xa_34 Xb_35 R0_36 R1_37 L_39 Xx_40 Xy_45 Op_41 Oq_42 Or_43 hbel44 hstep
        have cXa0_56 : _ = some (Value.bool s) := Xa_46.cell 0
        have cXa1_56 : _ = some (Value.slice a n c) := Xa_46.cell 1
        have cXb0_56 : _ = some (Value.bool t) := Xb_47.cell 0
        have cXb1_56 : _ = some (Value.slice b m d) := Xb_47.cell 1
        have cR00_56 : _ = some (Value.bool false) := R0_48.cell 0
        have fR00_56 := R0_48.free 0
        have cR01_56 : _ = some (Value.slice none 0 0) := R0_48.cell 1
        have fR01_56 := R0_48.free 1
        have cR10_56 : _ = some (Value.bool false) := R1_49.cell 0
        have fR10_56 := R1_49.free 0
        have cR11_56 : _ = some (Value.slice none 0 0) := R1_49.cell 1
        have fR11_56 := R1_49.free 1
        have cL0_56 : _ = some (Value.bool (decide (r0 < 0))) := L_50.cell 0
        have cL1_56 : _ = some (Value.slice p pn pc) := L_50.cell 1
        have cL2_56 : _ = some (Value.bool (decide (x0 < 0))) := L_50.cell 2
        have cL3_56 : _ = some (Value.slice q qn qc) := L_50.cell 3
        have cL4_56 : _ = some (Value.bool (decide (y0 < 0))) := L_50.cell 4
        have cL5_56 : _ = some (Value.slice r rn rc) := L_50.cell 5
        have cXx0_56 : _ = some (Value.bool (decide (x0 < 0))) := Xx_51.cell 0
        have fXx0_56 := Xx_51.free 0
        have cXx1_56 : _ = some (Value.slice q qn qc) := Xx_51.cell 1
        have fXx1_56 := Xx_51.free 1
        have cXy0_56 : _ = some (Value.bool (decide (y0 < 0))) := Xy_52.cell 0
        have fXy0_56 := Xy_52.free 0
        have cXy1_56 : _ = some (Value.slice r rn rc) := Xy_52.cell 1
        have fXy1_56 := Xy_52.free 1
        go_wp2_with fail
        refine (rznegI Oq_54.rd (by omega) HNx0.out).mono ?_
        rintro e w106 ⟨nx, nxn, nxc, rfl, hO, hB⟩
        clear cXa0_56 cXa1_56 cXb0_56 cXb1_56 cR00_56 fR00_56 cR01_56 fR01_56 cR10_56 fR10_56 cR11_56 fR11_56 cL0_56 cL1_56 cL2_56 cL3_56 cL4_56 cL5_56 cXx0_56 fXx0_56 cXx1_56 fXx1_56 cXy0_56 fXy0_56 cXy1_56 fXy1_56
        have hstep : Below w105.heap.size w105 w106 := (by first | exact hB | exact below_drew hB)
        have Xa_57 := Xa_46.next hstep
        have Xb_58 := Xb_47.next hstep
        have R0_59 := R0_48.next hstep
        have R1_60 := R1_49.next hstep
        have L_61 := L_50.next hstep
        have Xx_62 := Xx_51.next hstep
        have Xy_63 := Xy_52.next hstep
        have Op_64 := Op_53.below hstep
        have Oq_65 := Oq_54.below hstep
        have Or_66 := Or_55.below hstep
        have hbel67 := hbel56.next hstep
        have hle67 := hbel67.size
        have hls67 := hstep.size
        clear Xa_46 Xb_47 R0_48 R1_49 L_50 Xx_51 Xy_52 Op_53 Oq_54 Or_55 hbel56 hstep
        have cXa0_67 : _ = some (Value.bool s) := Xa_57.cell 0
        have cXa1_67 : _ = some (Value.slice a n c) := Xa_57.cell 1
        have cXb0_67 : _ = some (Value.bool t) := Xb_58.cell 0
        have cXb1_67 : _ = some (Value.slice b m d) := Xb_58.cell 1
        have cR00_67 : _ = some (Value.bool false) := R0_59.cell 0
        have fR00_67 := R0_59.free 0
        have cR01_67 : _ = some (Value.slice none 0 0) := R0_59.cell 1
        have fR01_67 := R0_59.free 1
        have cR10_67 : _ = some (Value.bool false) := R1_60.cell 0
        have fR10_67 := R1_60.free 0
        have cR11_67 : _ = some (Value.slice none 0 0) := R1_60.cell 1
        have fR11_67 := R1_60.free 1
        have cL0_67 : _ = some (Value.bool (decide (r0 < 0))) := L_61.cell 0
        have cL1_67 : _ = some (Value.slice p pn pc) := L_61.cell 1
        have cL2_67 : _ = some (Value.bool (decide (x0 < 0))) := L_61.cell 2
        have cL3_67 : _ = some (Value.slice q qn qc) := L_61.cell 3
        have cL4_67 : _ = some (Value.bool (decide (y0 < 0))) := L_61.cell 4
        have cL5_67 : _ = some (Value.slice r rn rc) := L_61.cell 5
        have cXx0_67 : _ = some (Value.bool (decide (x0 < 0))) := Xx_62.cell 0
        have fXx0_67 := Xx_62.free 0
        have cXx1_67 : _ = some (Value.slice q qn qc) := Xx_62.cell 1
        have fXx1_67 := Xx_62.free 1
        have cXy0_67 : _ = some (Value.bool (decide (y0 < 0))) := Xy_63.cell 0
        have fXy0_67 := Xy_63.free 0
        have cXy1_67 : _ = some (Value.slice r rn rc) := Xy_63.cell 1
        have fXy1_67 := Xy_63.free 1
        have Onx_68 := hO
        have ltnx := hO.ltOf
        have awnxXx : Aw nx (w101.heap.size + 1) := hO.awNew (by omega)
        have awnxXy : Aw nx (w101.heap.size + 1 + 1) := hO.awNew (by omega)
        have dfpnx : Diff p nx := ltp.diff hO (by omega)
        have dfnxr : Diff nx r := (ltr.diff hO (by omega)).symm
        clear hO
        go_wp2_with fail
        clear cXa0_67 cXa1_67 cXb0_67 cXb1_67 cR00_67 fR00_67 cR01_67 fR01_67 cR10_67 fR10_67 cR11_67 fR11_67 cL0_67 cL1_67 cL2_67 cL3_67 cL4_67 cL5_67 cXx0_67 fXx0_67 cXx1_67 fXx1_67 cXy0_67 fXy0_67 cXy1_67 fXy1_67
        have hkp : Kp (fun k => k = w101.heap.size + 1) w106 ((w106.setCell ⟨w101.heap.size + 1, 0, none⟩ (Value.bool (decide (nx0 < 0)))).setCell ⟨w101.heap.size + 1, 1, none⟩ (Value.slice nx nxn nxc)) := ((Kp.refl (fun k => k = w101.heap.size + 1) w106).setCell rfl (Value.bool (decide (nx0 < 0)))).setCell rfl (Value.slice nx nxn nxc)
        have Xx_69 := (show Blk _ _ #[Value.bool (decide (nx0 < 0)), Value.slice nx nxn nxc] from ((Xx_62).setCell (i := 0) (v := Value.bool (decide (nx0 < 0))) (by simp)).setCell (i := 1) (v := Value.slice nx nxn nxc) (by simp))
        have Xa_70 := Xa_57.kp hkp (show ¬ (w.heap.size = w101.heap.size + 1) by omega)
        have Xb_71 := Xb_58.kp hkp (show ¬ (w.heap.size + 1 = w101.heap.size + 1) by omega)
        have R0_72 := R0_59.kp hkp (show ¬ (w.heap.size + 1 + 1 = w101.heap.size + 1) by omega)
        have R1_73 := R1_60.kp hkp (show ¬ (w.heap.size + 1 + 1 + 1 = w101.heap.size + 1) by omega)
        have L_74 := L_61.kp hkp (show ¬ (w101.heap.size = w101.heap.size + 1) by omega)
        have Xy_75 := Xy_63.kp hkp (show ¬ (w101.heap.size + 1 + 1 = w101.heap.size + 1) by omega)
        have Op_76 := Op_64.kp hkp (fun g' e => awpXx g' e)
        have Oq_77 := Oq_65.kp hkp (fun g' e => awqXx g' e)
        have Or_78 := Or_66.kp hkp (fun g' e => awrXx g' e)
        have Onx_79 := Onx_68.kp hkp (fun g' e => awnxXx g' e)
        have hbel80 := hbel67.kp hkp (hbel67).size (fun k hk => (show ¬ (k = w101.heap.size + 1) by omega))
        have hse80 := hkp.size
        clear Xa_57 Xb_58 R0_59 R1_60 L_61 Xx_62 Xy_63 Op_64 Oq_65 Or_66 Onx_68 hbel67 hkp
        generalize ((w106.setCell ⟨w101.heap.size + 1, 0, none⟩ (Value.bool (decide (nx0 < 0)))).setCell ⟨w101.heap.size + 1, 1, none⟩ (Value.slice nx nxn nxc)) = v107 at *
        have cXa0_80 : _ = some (Value.bool s) := Xa_70.cell 0
        have cXa1_80 : _ = some (Value.slice a n c) := Xa_70.cell 1
        have cXb0_80 : _ = some (Value.bool t) := Xb_71.cell 0
        have cXb1_80 : _ = some (Value.slice b m d) := Xb_71.cell 1
        have cR00_80 : _ = some (Value.bool false) := R0_72.cell 0
        have fR00_80 := R0_72.free 0
        have cR01_80 : _ = some (Value.slice none 0 0) := R0_72.cell 1
        have fR01_80 := R0_72.free 1
        have cR10_80 : _ = some (Value.bool false) := R1_73.cell 0
        have fR10_80 := R1_73.free 0
        have cR11_80 : _ = some (Value.slice none 0 0) := R1_73.cell 1
        have fR11_80 := R1_73.free 1
        have cL0_80 : _ = some (Value.bool (decide (r0 < 0))) := L_74.cell 0
        have cL1_80 : _ = some (Value.slice p pn pc) := L_74.cell 1
        have cL2_80 : _ = some (Value.bool (decide (x0 < 0))) := L_74.cell 2
        have cL3_80 : _ = some (Value.slice q qn qc) := L_74.cell 3
        have cL4_80 : _ = some (Value.bool (decide (y0 < 0))) := L_74.cell 4
        have cL5_80 : _ = some (Value.slice r rn rc) := L_74.cell 5
        have cXx0_80 : _ = some (Value.bool (decide (nx0 < 0))) := Xx_69.cell 0
        have fXx0_80 := Xx_69.free 0
        have cXx1_80 : _ = some (Value.slice nx nxn nxc) := Xx_69.cell 1
        have fXx1_80 := Xx_69.free 1
        have cXy0_80 : _ = some (Value.bool (decide (y0 < 0))) := Xy_75.cell 0
        have fXy0_80 := Xy_75.free 0
        have cXy1_80 : _ = some (Value.slice r rn rc) := Xy_75.cell 1
        have fXy1_80 := Xy_75.free 1
        go_wp2_with fail
        refine (HSB.out _ (show Rd _ b m d lb from (hb.below hbel80))).mono ?_
        rintro e w108 ⟨rfl, hB⟩
        clear cXa0_80 cXa1_80 cXb0_80 cXb1_80 cR00_80 fR00_80 cR01_80 fR01_80 cR10_80 fR10_80 cR11_80 fR11_80 cL0_80 cL1_80 cL2_80 cL3_80 cL4_80 cL5_80 cXx0_80 fXx0_80 cXx1_80 fXx1_80 cXy0_80 fXy0_80 cXy1_80 fXy1_80
        have hstep : Below v107.heap.size v107 w108 := (by first | exact hB | exact below_drew hB)
        have Xa_81 := Xa_70.next hstep
        have Xb_82 := Xb_71.next hstep
        have R0_83 := R0_72.next hstep
        have R1_84 := R1_73.next hstep
        have L_85 := L_74.next hstep
        have Xx_86 := Xx_69.next hstep
        have Xy_87 := Xy_75.next hstep
        have Op_88 := Op_76.below hstep
        have Oq_89 := Oq_77.below hstep
        have Or_90 := Or_78.below hstep
        have Onx_91 := Onx_79.below hstep
        have hbel92 := hbel80.next hstep
        have hle92 := hbel92.size
        have hls92 := hstep.size
        clear Xa_70 Xb_71 R0_72 R1_73 L_74 Xx_69 Xy_75 Op_76 Oq_77 Or_78 Onx_79 hbel80 hstep
        have cXa0_92 : _ = some (Value.bool s) := Xa_81.cell 0
        have cXa1_92 : _ = some (Value.slice a n c) := Xa_81.cell 1
        have cXb0_92 : _ = some (Value.bool t) := Xb_82.cell 0
        have cXb1_92 : _ = some (Value.slice b m d) := Xb_82.cell 1
        have cR00_92 : _ = some (Value.bool false) := R0_83.cell 0
        have fR00_92 := R0_83.free 0
        have cR01_92 : _ = some (Value.slice none 0 0) := R0_83.cell 1
        have fR01_92 := R0_83.free 1
        have cR10_92 : _ = some (Value.bool false) := R1_84.cell 0
        have fR10_92 := R1_84.free 0
        have cR11_92 : _ = some (Value.slice none 0 0) := R1_84.cell 1
        have fR11_92 := R1_84.free 1
        have cL0_92 : _ = some (Value.bool (decide (r0 < 0))) := L_85.cell 0
        have cL1_92 : _ = some (Value.slice p pn pc) := L_85.cell 1
        have cL2_92 : _ = some (Value.bool (decide (x0 < 0))) := L_85.cell 2
        have cL3_92 : _ = some (Value.slice q qn qc) := L_85.cell 3
        have cL4_92 : _ = some (Value.bool (decide (y0 < 0))) := L_85.cell 4
        have cL5_92 : _ = some (Value.slice r rn rc) := L_85.cell 5
        have cXx0_92 : _ = some (Value.bool (decide (nx0 < 0))) := Xx_86.cell 0
        have fXx0_92 := Xx_86.free 0
        have cXx1_92 : _ = some (Value.slice nx nxn nxc) := Xx_86.cell 1
        have fXx1_92 := Xx_86.free 1
        have cXy0_92 : _ = some (Value.bool (decide (y0 < 0))) := Xy_87.cell 0
        have fXy0_92 := Xy_87.free 0
        have cXy1_92 : _ = some (Value.slice r rn rc) := Xy_87.cell 1
        have fXy1_92 := Xy_87.free 1
        go_wp2_with fail
        go_region
        have awpR0 : Aw p (w.heap.size + 1 + 1) := (Op_88.mono (B' := W0.heap.size) (by omega)).awNew (by omega)
        have awqR0 : Aw q (w.heap.size + 1 + 1) := (Oq_89.mono (B' := W0.heap.size) (by omega)).awNew (by omega)
        have awrR0 : Aw r (w.heap.size + 1 + 1) := (Or_90.mono (B' := W0.heap.size) (by omega)).awNew (by omega)
        have awnxR0 : Aw nx (w.heap.size + 1 + 1) := (Onx_91.mono (B' := W0.heap.size) (by omega)).awNew (by omega)
        have awpR1 : Aw p (w.heap.size + 1 + 1 + 1) := (Op_88.mono (B' := W0.heap.size) (by omega)).awNew (by omega)
        have awqR1 : Aw q (w.heap.size + 1 + 1 + 1) := (Oq_89.mono (B' := W0.heap.size) (by omega)).awNew (by omega)
        have awrR1 : Aw r (w.heap.size + 1 + 1 + 1) := (Or_90.mono (B' := W0.heap.size) (by omega)).awNew (by omega)
        have awnxR1 : Aw nx (w.heap.size + 1 + 1 + 1) := (Onx_91.mono (B' := W0.heap.size) (by omega)).awNew (by omega)
        clear cXa0_92 cXa1_92 cXb0_92 cXb1_92 cR00_92 fR00_92 cR01_92 fR01_92 cR10_92 fR10_92 cR11_92 fR11_92 cL0_92 cL1_92 cL2_92 cL3_92 cL4_92 cL5_92 cXx0_92 fXx0_92 cXx1_92 fXx1_92 cXy0_92 fXy0_92 cXy1_92 fXy1_92
        have hkp : Kp (fun k => k = w.heap.size + 1 + 1) w108 ((w108.setCell ⟨w.heap.size + 1 + 1, 0, none⟩ (Value.bool (decide (nx0 < 0)))).setCell ⟨w.heap.size + 1 + 1, 1, none⟩ (Value.slice nx nxn nxc)) := ((Kp.refl (fun k => k = w.heap.size + 1 + 1) w108).setCell rfl (Value.bool (decide (nx0 < 0)))).setCell rfl (Value.slice nx nxn nxc)
        have R0_93 := (show Blk _ _ #[Value.bool (decide (nx0 < 0)), Value.slice nx nxn nxc] from ((R0_83).setCell (i := 0) (v := Value.bool (decide (nx0 < 0))) (by simp)).setCell (i := 1) (v := Value.slice nx nxn nxc) (by simp))
        have Xa_94 := Xa_81.kp hkp (show ¬ (w.heap.size = w.heap.size + 1 + 1) by omega)
        have Xb_95 := Xb_82.kp hkp (show ¬ (w.heap.size + 1 = w.heap.size + 1 + 1) by omega)
        have R1_96 := R1_84.kp hkp (show ¬ (w.heap.size + 1 + 1 + 1 = w.heap.size + 1 + 1) by omega)
        have L_97 := L_85.kp hkp (show ¬ (w101.heap.size = w.heap.size + 1 + 1) by omega)
        have Xx_98 := Xx_86.kp hkp (show ¬ (w101.heap.size + 1 = w.heap.size + 1 + 1) by omega)
        have Xy_99 := Xy_87.kp hkp (show ¬ (w101.heap.size + 1 + 1 = w.heap.size + 1 + 1) by omega)
        have Op_100 := Op_88.kp hkp (fun g' e => awpR0 g' e)
        have Oq_101 := Oq_89.kp hkp (fun g' e => awqR0 g' e)
        have Or_102 := Or_90.kp hkp (fun g' e => awrR0 g' e)
        have Onx_103 := Onx_91.kp hkp (fun g' e => awnxR0 g' e)
        have hbel104 := hbel92.kp hkp (hbel92).size (fun k hk => (show ¬ (k = w.heap.size + 1 + 1) by omega))
        have hse104 := hkp.size
        clear Xa_81 Xb_82 R0_83 R1_84 L_85 Xx_86 Xy_87 Op_88 Oq_89 Or_90 Onx_91 hbel92 hkp
        generalize ((w108.setCell ⟨w.heap.size + 1 + 1, 0, none⟩ (Value.bool (decide (nx0 < 0)))).setCell ⟨w.heap.size + 1 + 1, 1, none⟩ (Value.slice nx nxn nxc)) = v109 at *
        have cXa0_104 : _ = some (Value.bool s) := Xa_94.cell 0
        have cXa1_104 : _ = some (Value.slice a n c) := Xa_94.cell 1
        have cXb0_104 : _ = some (Value.bool t) := Xb_95.cell 0
        have cXb1_104 : _ = some (Value.slice b m d) := Xb_95.cell 1
        have cR00_104 : _ = some (Value.bool (decide (nx0 < 0))) := R0_93.cell 0
        have fR00_104 := R0_93.free 0
        have cR01_104 : _ = some (Value.slice nx nxn nxc) := R0_93.cell 1
        have fR01_104 := R0_93.free 1
        have cR10_104 : _ = some (Value.bool false) := R1_96.cell 0
        have fR10_104 := R1_96.free 0
        have cR11_104 : _ = some (Value.slice none 0 0) := R1_96.cell 1
        have fR11_104 := R1_96.free 1
        have cL0_104 : _ = some (Value.bool (decide (r0 < 0))) := L_97.cell 0
        have cL1_104 : _ = some (Value.slice p pn pc) := L_97.cell 1
        have cL2_104 : _ = some (Value.bool (decide (x0 < 0))) := L_97.cell 2
        have cL3_104 : _ = some (Value.slice q qn qc) := L_97.cell 3
        have cL4_104 : _ = some (Value.bool (decide (y0 < 0))) := L_97.cell 4
        have cL5_104 : _ = some (Value.slice r rn rc) := L_97.cell 5
        have cXx0_104 : _ = some (Value.bool (decide (nx0 < 0))) := Xx_98.cell 0
        have fXx0_104 := Xx_98.free 0
        have cXx1_104 : _ = some (Value.slice nx nxn nxc) := Xx_98.cell 1
        have fXx1_104 := Xx_98.free 1
        have cXy0_104 : _ = some (Value.bool (decide (y0 < 0))) := Xy_99.cell 0
        have fXy0_104 := Xy_99.free 0
        have cXy1_104 : _ = some (Value.slice r rn rc) := Xy_99.cell 1
        have fXy1_104 := Xy_99.free 1
        clear cXa0_104 cXa1_104 cXb0_104 cXb1_104 cR00_104 fR00_104 cR01_104 fR01_104 cR10_104 fR10_104 cR11_104 fR11_104 cL0_104 cL1_104 cL2_104 cL3_104 cL4_104 cL5_104 cXx0_104 fXx0_104 cXx1_104 fXx1_104 cXy0_104 fXy0_104 cXy1_104 fXy1_104
        have hkp : Kp (fun k => k = w.heap.size + 1 + 1 + 1) v109 ((v109.setCell ⟨w.heap.size + 1 + 1 + 1, 0, none⟩ (Value.bool (decide (y0 < 0)))).setCell ⟨w.heap.size + 1 + 1 + 1, 1, none⟩ (Value.slice r rn rc)) := ((Kp.refl (fun k => k = w.heap.size + 1 + 1 + 1) v109).setCell rfl (Value.bool (decide (y0 < 0)))).setCell rfl (Value.slice r rn rc)
        have R1_105 := (show Blk _ _ #[Value.bool (decide (y0 < 0)), Value.slice r rn rc] from ((R1_96).setCell (i := 0) (v := Value.bool (decide (y0 < 0))) (by simp)).setCell (i := 1) (v := Value.slice r rn rc) (by simp))
        have Xa_106 := Xa_94.kp hkp (show ¬ (w.heap.size = w.heap.size + 1 + 1 + 1) by omega)
        have Xb_107 := Xb_95.kp hkp (show ¬ (w.heap.size + 1 = w.heap.size + 1 + 1 + 1) by omega)
        have R0_108 := R0_93.kp hkp (show ¬ (w.heap.size + 1 + 1 = w.heap.size + 1 + 1 + 1) by omega)
        have L_109 := L_97.kp hkp (show ¬ (w101.heap.size = w.heap.size + 1 + 1 + 1) by omega)
        have Xx_110 := Xx_98.kp hkp (show ¬ (w101.heap.size + 1 = w.heap.size + 1 + 1 + 1) by omega)
        have Xy_111 := Xy_99.kp hkp (show ¬ (w101.heap.size + 1 + 1 = w.heap.size + 1 + 1 + 1) by omega)
        have Op_112 := Op_100.kp hkp (fun g' e => awpR1 g' e)
        have Oq_113 := Oq_101.kp hkp (fun g' e => awqR1 g' e)
        have Or_114 := Or_102.kp hkp (fun g' e => awrR1 g' e)
        have Onx_115 := Onx_103.kp hkp (fun g' e => awnxR1 g' e)
        have hbel116 := hbel104.kp hkp (hbel104).size (fun k hk => (show ¬ (k = w.heap.size + 1 + 1 + 1) by omega))
        have hse116 := hkp.size
        clear Xa_94 Xb_95 R0_93 R1_96 L_97 Xx_98 Xy_99 Op_100 Oq_101 Or_102 Onx_103 hbel104 hkp
        generalize ((v109.setCell ⟨w.heap.size + 1 + 1 + 1, 0, none⟩ (Value.bool (decide (y0 < 0)))).setCell ⟨w.heap.size + 1 + 1 + 1, 1, none⟩ (Value.slice r rn rc)) = v110 at *
        have cXa0_116 : _ = some (Value.bool s) := Xa_106.cell 0
        have cXa1_116 : _ = some (Value.slice a n c) := Xa_106.cell 1
        have cXb0_116 : _ = some (Value.bool t) := Xb_107.cell 0
        have cXb1_116 : _ = some (Value.slice b m d) := Xb_107.cell 1
        have cR00_116 : _ = some (Value.bool (decide (nx0 < 0))) := R0_108.cell 0
        have fR00_116 := R0_108.free 0
        have cR01_116 : _ = some (Value.slice nx nxn nxc) := R0_108.cell 1
        have fR01_116 := R0_108.free 1
        have cR10_116 : _ = some (Value.bool (decide (y0 < 0))) := R1_105.cell 0
        have fR10_116 := R1_105.free 0
        have cR11_116 : _ = some (Value.slice r rn rc) := R1_105.cell 1
        have fR11_116 := R1_105.free 1
        have cL0_116 : _ = some (Value.bool (decide (r0 < 0))) := L_109.cell 0
        have cL1_116 : _ = some (Value.slice p pn pc) := L_109.cell 1
        have cL2_116 : _ = some (Value.bool (decide (x0 < 0))) := L_109.cell 2
        have cL3_116 : _ = some (Value.slice q qn qc) := L_109.cell 3
        have cL4_116 : _ = some (Value.bool (decide (y0 < 0))) := L_109.cell 4
        have cL5_116 : _ = some (Value.slice r rn rc) := L_109.cell 5
        have cXx0_116 : _ = some (Value.bool (decide (nx0 < 0))) := Xx_110.cell 0
        have fXx0_116 := Xx_110.free 0
        have cXx1_116 : _ = some (Value.slice nx nxn nxc) := Xx_110.cell 1
        have fXx1_116 := Xx_110.free 1
        have cXy0_116 : _ = some (Value.bool (decide (y0 < 0))) := Xy_111.cell 0
        have fXy0_116 := Xy_111.free 0
        have cXy1_116 : _ = some (Value.slice r rn rc) := Xy_111.cell 1
        have fXy1_116 := Xy_111.free 1
        go_wp2
        refine bodyPost_ret (v := .tuple #[.slice p pn pc, .agg #[.bool (decide (nx0 < 0)), .slice nx nxn nxc], .agg #[.bool (decide (y0 < 0)), .slice r rn rc]]) (by simp [results, Try.results62, go_sem, cR00_116, cR01_116, cR10_116, cR11_116]) rfl ?_
        rw [← E1.out, ← E2.out, ← E3.out, HBA.out, HBB.out]
        exact ⟨p, pn, pc, nx, nxn, nxc, r, rn, rc, rfl, Op_112.mono (by omega), Onx_115.mono (by omega), Or_114.mono (by omega), dfpnx, dfpr, dfnxr, ⟨hbel116.os, hbel116.tape, hbel116.output, hbel116.size, hbel116.block⟩⟩
      · skip
        obtain ⟨ny0, hny0⟩ : ∃ z, z = -y0 := ⟨_, rfl⟩
        have HNy0 := hid hny0
        clear hny0
        have hba : bzS za x0 = x0 := if_neg (by omega)
        have hbb : bzS zb y0 = ny0 := (if_pos hzbS).trans HNy0.out.symm
        have HBA := hid hba
        have HBB := hid hbb
        clear hba hbb
        generalize hsa : sgn za = ga at HSA
        generalize hsb : sgn zb = gb at HSB
        have hsa' : 0 ≤ ga ∧ ga ≤ 1 := by have := sgn_cases za; omega
        have hsb' : gb = -1 := by have := sgn_cases zb; omega
        clear hsa hsb hzaS hzbS
        have dga : decide (ga < 0) = false := decide_eq_false (by omega)
        subst hsb'
        have hbx := blk_new' w101 #[Value.bool (decide (r0 < 0)), Value.slice p pn pc, Value.bool (decide (x0 < 0)), Value.slice q qn qc, Value.bool (decide (y0 < 0)), Value.slice r rn rc] 118 (g := w101.heap.size) (by simp)
        have hbB := (Below.refl w101.heap.size w101).alloc (Nat.le_refl _) (.cells #[Value.bool (decide (r0 < 0)), Value.slice p pn pc, Value.bool (decide (x0 < 0)), Value.slice q qn qc, Value.bool (decide (y0 < 0)), Value.slice r rn rc] 118)
        have hbg := hbx.lt
        have hstep : Below w101.heap.size w101 (w101.alloc (.cells #[Value.bool (decide (r0 < 0)), Value.slice p pn pc, Value.bool (decide (x0 < 0)), Value.slice q qn qc, Value.bool (decide (y0 < 0)), Value.slice r rn rc] 118)) := (by first | exact hbB | exact below_drew hbB)
        have Xa_13 := Xa_1.next hstep
        have Xb_14 := Xb_2.next hstep
        have R0_15 := R0_3.next hstep
        have R1_16 := R1_4.next hstep
        have V_17 := V_5.next hstep
        have Op_18 := Op_6.below hstep
        have Oq_19 := Oq_7.below hstep
        have Or_20 := Or_8.below hstep
        have hbel21 := hbel12.next hstep
        have hle21 := hbel21.size
        have hls21 := hstep.size
        clear Xa_1 Xb_2 R0_3 R1_4 V_5 Op_6 Oq_7 Or_8 hbel12 hstep
        have cXa0_21 : _ = some (Value.bool s) := Xa_13.cell 0
        have cXa1_21 : _ = some (Value.slice a n c) := Xa_13.cell 1
        have cXb0_21 : _ = some (Value.bool t) := Xb_14.cell 0
        have cXb1_21 : _ = some (Value.slice b m d) := Xb_14.cell 1
        have cR00_21 : _ = some (Value.bool false) := R0_15.cell 0
        have fR00_21 := R0_15.free 0
        have cR01_21 : _ = some (Value.slice none 0 0) := R0_15.cell 1
        have fR01_21 := R0_15.free 1
        have cR10_21 : _ = some (Value.bool false) := R1_16.cell 0
        have fR10_21 := R1_16.free 0
        have cR11_21 : _ = some (Value.slice none 0 0) := R1_16.cell 1
        have fR11_21 := R1_16.free 1
        have cV0_21 : World.cell? (w101.alloc (.cells #[Value.bool (decide (r0 < 0)), Value.slice p pn pc, Value.bool (decide (x0 < 0)), Value.slice q qn qc, Value.bool (decide (y0 < 0)), Value.slice r rn rc] 118)) ⟨g, k * 6, none⟩ = some (Value.bool (decide (r0 < 0))) := V_17.cell0 0 (by decide)
        have cV1_21 : World.cell? (w101.alloc (.cells #[Value.bool (decide (r0 < 0)), Value.slice p pn pc, Value.bool (decide (x0 < 0)), Value.slice q qn qc, Value.bool (decide (y0 < 0)), Value.slice r rn rc] 118)) ⟨g, k * 6 + 1, none⟩ = some (Value.slice p pn pc) := V_17.cell0 1 (by decide)
        have cV2_21 : World.cell? (w101.alloc (.cells #[Value.bool (decide (r0 < 0)), Value.slice p pn pc, Value.bool (decide (x0 < 0)), Value.slice q qn qc, Value.bool (decide (y0 < 0)), Value.slice r rn rc] 118)) ⟨g, k * 6 + 2, none⟩ = some (Value.bool (decide (x0 < 0))) := V_17.cell0 2 (by decide)
        have cV3_21 : World.cell? (w101.alloc (.cells #[Value.bool (decide (r0 < 0)), Value.slice p pn pc, Value.bool (decide (x0 < 0)), Value.slice q qn qc, Value.bool (decide (y0 < 0)), Value.slice r rn rc] 118)) ⟨g, k * 6 + 3, none⟩ = some (Value.slice q qn qc) := V_17.cell0 3 (by decide)
        have cV4_21 : World.cell? (w101.alloc (.cells #[Value.bool (decide (r0 < 0)), Value.slice p pn pc, Value.bool (decide (x0 < 0)), Value.slice q qn qc, Value.bool (decide (y0 < 0)), Value.slice r rn rc] 118)) ⟨g, k * 6 + 4, none⟩ = some (Value.bool (decide (y0 < 0))) := V_17.cell0 4 (by decide)
        have cV5_21 : World.cell? (w101.alloc (.cells #[Value.bool (decide (r0 < 0)), Value.slice p pn pc, Value.bool (decide (x0 < 0)), Value.slice q qn qc, Value.bool (decide (y0 < 0)), Value.slice r rn rc] 118)) ⟨g, k * 6 + 5, none⟩ = some (Value.slice r rn rc) := V_17.cell0 5 (by decide)
        have cV6_21 : World.cell? (w101.alloc (.cells #[Value.bool (decide (r0 < 0)), Value.slice p pn pc, Value.bool (decide (x0 < 0)), Value.slice q qn qc, Value.bool (decide (y0 < 0)), Value.slice r rn rc] 118)) ⟨g, (k + 1) * 6, none⟩ = some (Value.bool (decide (r1 < 0))) := V_17.cell1 0 (by decide)
        have cV7_21 : World.cell? (w101.alloc (.cells #[Value.bool (decide (r0 < 0)), Value.slice p pn pc, Value.bool (decide (x0 < 0)), Value.slice q qn qc, Value.bool (decide (y0 < 0)), Value.slice r rn rc] 118)) ⟨g, (k + 1) * 6 + 1, none⟩ = some (Value.slice p' p'n p'c) := V_17.cell1 1 (by decide)
        have cV8_21 : World.cell? (w101.alloc (.cells #[Value.bool (decide (r0 < 0)), Value.slice p pn pc, Value.bool (decide (x0 < 0)), Value.slice q qn qc, Value.bool (decide (y0 < 0)), Value.slice r rn rc] 118)) ⟨g, (k + 1) * 6 + 2, none⟩ = some (Value.bool (decide (x1 < 0))) := V_17.cell1 2 (by decide)
        have cV9_21 : World.cell? (w101.alloc (.cells #[Value.bool (decide (r0 < 0)), Value.slice p pn pc, Value.bool (decide (x0 < 0)), Value.slice q qn qc, Value.bool (decide (y0 < 0)), Value.slice r rn rc] 118)) ⟨g, (k + 1) * 6 + 3, none⟩ = some (Value.slice q' q'n q'c) := V_17.cell1 3 (by decide)
        have cV10_21 : World.cell? (w101.alloc (.cells #[Value.bool (decide (r0 < 0)), Value.slice p pn pc, Value.bool (decide (x0 < 0)), Value.slice q qn qc, Value.bool (decide (y0 < 0)), Value.slice r rn rc] 118)) ⟨g, (k + 1) * 6 + 4, none⟩ = some (Value.bool (decide (y1 < 0))) := V_17.cell1 4 (by decide)
        have cV11_21 : World.cell? (w101.alloc (.cells #[Value.bool (decide (r0 < 0)), Value.slice p pn pc, Value.bool (decide (x0 < 0)), Value.slice q qn qc, Value.bool (decide (y0 < 0)), Value.slice r rn rc] 118)) ⟨g, (k + 1) * 6 + 5, none⟩ = some (Value.slice r' r'n r'c) := V_17.cell1 5 (by decide)
        have L_22 := hbx
        have cL0_22 : _ = some (Value.bool (decide (r0 < 0))) := L_22.cell 0
        have cL1_22 : _ = some (Value.slice p pn pc) := L_22.cell 1
        have cL2_22 : _ = some (Value.bool (decide (x0 < 0))) := L_22.cell 2
        have cL3_22 : _ = some (Value.slice q qn qc) := L_22.cell 3
        have cL4_22 : _ = some (Value.bool (decide (y0 < 0))) := L_22.cell 4
        have cL5_22 : _ = some (Value.slice r rn rc) := L_22.cell 5
        clear hbx hbB
        have hbx := blk_new' (w101.alloc (.cells #[Value.bool (decide (r0 < 0)), Value.slice p pn pc, Value.bool (decide (x0 < 0)), Value.slice q qn qc, Value.bool (decide (y0 < 0)), Value.slice r rn rc] 118)) #[Value.bool (decide (x0 < 0)), Value.slice q qn qc] 25 (g := w101.heap.size + 1) (by simp)
        have hbB := (Below.refl (w101.alloc (.cells #[Value.bool (decide (r0 < 0)), Value.slice p pn pc, Value.bool (decide (x0 < 0)), Value.slice q qn qc, Value.bool (decide (y0 < 0)), Value.slice r rn rc] 118)).heap.size (w101.alloc (.cells #[Value.bool (decide (r0 < 0)), Value.slice p pn pc, Value.bool (decide (x0 < 0)), Value.slice q qn qc, Value.bool (decide (y0 < 0)), Value.slice r rn rc] 118))).alloc (Nat.le_refl _) (.cells #[Value.bool (decide (x0 < 0)), Value.slice q qn qc] 25)
        have hbg := hbx.lt
        have hstep : Below (w101.alloc (.cells #[Value.bool (decide (r0 < 0)), Value.slice p pn pc, Value.bool (decide (x0 < 0)), Value.slice q qn qc, Value.bool (decide (y0 < 0)), Value.slice r rn rc] 118)).heap.size (w101.alloc (.cells #[Value.bool (decide (r0 < 0)), Value.slice p pn pc, Value.bool (decide (x0 < 0)), Value.slice q qn qc, Value.bool (decide (y0 < 0)), Value.slice r rn rc] 118)) ((w101.alloc (.cells #[Value.bool (decide (r0 < 0)), Value.slice p pn pc, Value.bool (decide (x0 < 0)), Value.slice q qn qc, Value.bool (decide (y0 < 0)), Value.slice r rn rc] 118)).alloc (.cells #[Value.bool (decide (x0 < 0)), Value.slice q qn qc] 25)) := (by first | exact hbB | exact below_drew hbB)
        have Xa_23 := Xa_13.next hstep
        have Xb_24 := Xb_14.next hstep
        have R0_25 := R0_15.next hstep
        have R1_26 := R1_16.next hstep
        have V_27 := V_17.next hstep
        have L_28 := L_22.next hstep
        have Op_29 := Op_18.below hstep
        have Oq_30 := Oq_19.below hstep
        have Or_31 := Or_20.below hstep
        have hbel32 := hbel21.next hstep
        have hle32 := hbel32.size
        have hls32 := hstep.size
        clear Xa_13 Xb_14 R0_15 R1_16 V_17 L_22 Op_18 Oq_19 Or_20 hbel21 hstep
        have cXa0_32 : _ = some (Value.bool s) := Xa_23.cell 0
        have cXa1_32 : _ = some (Value.slice a n c) := Xa_23.cell 1
        have cXb0_32 : _ = some (Value.bool t) := Xb_24.cell 0
        have cXb1_32 : _ = some (Value.slice b m d) := Xb_24.cell 1
        have cR00_32 : _ = some (Value.bool false) := R0_25.cell 0
        have fR00_32 := R0_25.free 0
        have cR01_32 : _ = some (Value.slice none 0 0) := R0_25.cell 1
        have fR01_32 := R0_25.free 1
        have cR10_32 : _ = some (Value.bool false) := R1_26.cell 0
        have fR10_32 := R1_26.free 0
        have cR11_32 : _ = some (Value.slice none 0 0) := R1_26.cell 1
        have fR11_32 := R1_26.free 1
        have cV0_32 : World.cell? ((w101.alloc (.cells #[Value.bool (decide (r0 < 0)), Value.slice p pn pc, Value.bool (decide (x0 < 0)), Value.slice q qn qc, Value.bool (decide (y0 < 0)), Value.slice r rn rc] 118)).alloc (.cells #[Value.bool (decide (x0 < 0)), Value.slice q qn qc] 25)) ⟨g, k * 6, none⟩ = some (Value.bool (decide (r0 < 0))) := V_27.cell0 0 (by decide)
        have cV1_32 : World.cell? ((w101.alloc (.cells #[Value.bool (decide (r0 < 0)), Value.slice p pn pc, Value.bool (decide (x0 < 0)), Value.slice q qn qc, Value.bool (decide (y0 < 0)), Value.slice r rn rc] 118)).alloc (.cells #[Value.bool (decide (x0 < 0)), Value.slice q qn qc] 25)) ⟨g, k * 6 + 1, none⟩ = some (Value.slice p pn pc) := V_27.cell0 1 (by decide)
        have cV2_32 : World.cell? ((w101.alloc (.cells #[Value.bool (decide (r0 < 0)), Value.slice p pn pc, Value.bool (decide (x0 < 0)), Value.slice q qn qc, Value.bool (decide (y0 < 0)), Value.slice r rn rc] 118)).alloc (.cells #[Value.bool (decide (x0 < 0)), Value.slice q qn qc] 25)) ⟨g, k * 6 + 2, none⟩ = some (Value.bool (decide (x0 < 0))) := V_27.cell0 2 (by decide)
        have cV3_32 : World.cell? ((w101.alloc (.cells #[Value.bool (decide (r0 < 0)), Value.slice p pn pc, Value.bool (decide (x0 < 0)), Value.slice q qn qc, Value.bool (decide (y0 < 0)), Value.slice r rn rc] 118)).alloc (.cells #[Value.bool (decide (x0 < 0)), Value.slice q qn qc] 25)) ⟨g, k * 6 + 3, none⟩ = some (Value.slice q qn qc) := V_27.cell0 3 (by decide)
        have cV4_32 : World.cell? ((w101.alloc (.cells #[Value.bool (decide (r0 < 0)), Value.slice p pn pc, Value.bool (decide (x0 < 0)), Value.slice q qn qc, Value.bool (decide (y0 < 0)), Value.slice r rn rc] 118)).alloc (.cells #[Value.bool (decide (x0 < 0)), Value.slice q qn qc] 25)) ⟨g, k * 6 + 4, none⟩ = some (Value.bool (decide (y0 < 0))) := V_27.cell0 4 (by decide)
        have cV5_32 : World.cell? ((w101.alloc (.cells #[Value.bool (decide (r0 < 0)), Value.slice p pn pc, Value.bool (decide (x0 < 0)), Value.slice q qn qc, Value.bool (decide (y0 < 0)), Value.slice r rn rc] 118)).alloc (.cells #[Value.bool (decide (x0 < 0)), Value.slice q qn qc] 25)) ⟨g, k * 6 + 5, none⟩ = some (Value.slice r rn rc) := V_27.cell0 5 (by decide)
        have cV6_32 : World.cell? ((w101.alloc (.cells #[Value.bool (decide (r0 < 0)), Value.slice p pn pc, Value.bool (decide (x0 < 0)), Value.slice q qn qc, Value.bool (decide (y0 < 0)), Value.slice r rn rc] 118)).alloc (.cells #[Value.bool (decide (x0 < 0)), Value.slice q qn qc] 25)) ⟨g, (k + 1) * 6, none⟩ = some (Value.bool (decide (r1 < 0))) := V_27.cell1 0 (by decide)
        have cV7_32 : World.cell? ((w101.alloc (.cells #[Value.bool (decide (r0 < 0)), Value.slice p pn pc, Value.bool (decide (x0 < 0)), Value.slice q qn qc, Value.bool (decide (y0 < 0)), Value.slice r rn rc] 118)).alloc (.cells #[Value.bool (decide (x0 < 0)), Value.slice q qn qc] 25)) ⟨g, (k + 1) * 6 + 1, none⟩ = some (Value.slice p' p'n p'c) := V_27.cell1 1 (by decide)
        have cV8_32 : World.cell? ((w101.alloc (.cells #[Value.bool (decide (r0 < 0)), Value.slice p pn pc, Value.bool (decide (x0 < 0)), Value.slice q qn qc, Value.bool (decide (y0 < 0)), Value.slice r rn rc] 118)).alloc (.cells #[Value.bool (decide (x0 < 0)), Value.slice q qn qc] 25)) ⟨g, (k + 1) * 6 + 2, none⟩ = some (Value.bool (decide (x1 < 0))) := V_27.cell1 2 (by decide)
        have cV9_32 : World.cell? ((w101.alloc (.cells #[Value.bool (decide (r0 < 0)), Value.slice p pn pc, Value.bool (decide (x0 < 0)), Value.slice q qn qc, Value.bool (decide (y0 < 0)), Value.slice r rn rc] 118)).alloc (.cells #[Value.bool (decide (x0 < 0)), Value.slice q qn qc] 25)) ⟨g, (k + 1) * 6 + 3, none⟩ = some (Value.slice q' q'n q'c) := V_27.cell1 3 (by decide)
        have cV10_32 : World.cell? ((w101.alloc (.cells #[Value.bool (decide (r0 < 0)), Value.slice p pn pc, Value.bool (decide (x0 < 0)), Value.slice q qn qc, Value.bool (decide (y0 < 0)), Value.slice r rn rc] 118)).alloc (.cells #[Value.bool (decide (x0 < 0)), Value.slice q qn qc] 25)) ⟨g, (k + 1) * 6 + 4, none⟩ = some (Value.bool (decide (y1 < 0))) := V_27.cell1 4 (by decide)
        have cV11_32 : World.cell? ((w101.alloc (.cells #[Value.bool (decide (r0 < 0)), Value.slice p pn pc, Value.bool (decide (x0 < 0)), Value.slice q qn qc, Value.bool (decide (y0 < 0)), Value.slice r rn rc] 118)).alloc (.cells #[Value.bool (decide (x0 < 0)), Value.slice q qn qc] 25)) ⟨g, (k + 1) * 6 + 5, none⟩ = some (Value.slice r' r'n r'c) := V_27.cell1 5 (by decide)
        have cL0_32 : _ = some (Value.bool (decide (r0 < 0))) := L_28.cell 0
        have cL1_32 : _ = some (Value.slice p pn pc) := L_28.cell 1
        have cL2_32 : _ = some (Value.bool (decide (x0 < 0))) := L_28.cell 2
        have cL3_32 : _ = some (Value.slice q qn qc) := L_28.cell 3
        have cL4_32 : _ = some (Value.bool (decide (y0 < 0))) := L_28.cell 4
        have cL5_32 : _ = some (Value.slice r rn rc) := L_28.cell 5
        have Xx_33 := hbx
        have cXx0_33 : _ = some (Value.bool (decide (x0 < 0))) := Xx_33.cell 0
        have fXx0_33 := Xx_33.free 0
        have cXx1_33 : _ = some (Value.slice q qn qc) := Xx_33.cell 1
        have fXx1_33 := Xx_33.free 1
        clear hbx hbB
        have hbx := blk_new' ((w101.alloc (.cells #[Value.bool (decide (r0 < 0)), Value.slice p pn pc, Value.bool (decide (x0 < 0)), Value.slice q qn qc, Value.bool (decide (y0 < 0)), Value.slice r rn rc] 118)).alloc (.cells #[Value.bool (decide (x0 < 0)), Value.slice q qn qc] 25)) #[Value.bool (decide (y0 < 0)), Value.slice r rn rc] 25 (g := w101.heap.size + 1 + 1) (by simp)
        have hbB := (Below.refl ((w101.alloc (.cells #[Value.bool (decide (r0 < 0)), Value.slice p pn pc, Value.bool (decide (x0 < 0)), Value.slice q qn qc, Value.bool (decide (y0 < 0)), Value.slice r rn rc] 118)).alloc (.cells #[Value.bool (decide (x0 < 0)), Value.slice q qn qc] 25)).heap.size ((w101.alloc (.cells #[Value.bool (decide (r0 < 0)), Value.slice p pn pc, Value.bool (decide (x0 < 0)), Value.slice q qn qc, Value.bool (decide (y0 < 0)), Value.slice r rn rc] 118)).alloc (.cells #[Value.bool (decide (x0 < 0)), Value.slice q qn qc] 25))).alloc (Nat.le_refl _) (.cells #[Value.bool (decide (y0 < 0)), Value.slice r rn rc] 25)
        have hbg := hbx.lt
        have hstep : Below ((w101.alloc (.cells #[Value.bool (decide (r0 < 0)), Value.slice p pn pc, Value.bool (decide (x0 < 0)), Value.slice q qn qc, Value.bool (decide (y0 < 0)), Value.slice r rn rc] 118)).alloc (.cells #[Value.bool (decide (x0 < 0)), Value.slice q qn qc] 25)).heap.size ((w101.alloc (.cells #[Value.bool (decide (r0 < 0)), Value.slice p pn pc, Value.bool (decide (x0 < 0)), Value.slice q qn qc, Value.bool (decide (y0 < 0)), Value.slice r rn rc] 118)).alloc (.cells #[Value.bool (decide (x0 < 0)), Value.slice q qn qc] 25)) (((w101.alloc (.cells #[Value.bool (decide (r0 < 0)), Value.slice p pn pc, Value.bool (decide (x0 < 0)), Value.slice q qn qc, Value.bool (decide (y0 < 0)), Value.slice r rn rc] 118)).alloc (.cells #[Value.bool (decide (x0 < 0)), Value.slice q qn qc] 25)).alloc (.cells #[Value.bool (decide (y0 < 0)), Value.slice r rn rc] 25)) := (by first | exact hbB | exact below_drew hbB)
        have Xa_34 := Xa_23.next hstep
        have Xb_35 := Xb_24.next hstep
        have R0_36 := R0_25.next hstep
        have R1_37 := R1_26.next hstep
        have V_38 := V_27.next hstep
        have L_39 := L_28.next hstep
        have Xx_40 := Xx_33.next hstep
        have Op_41 := Op_29.below hstep
        have Oq_42 := Oq_30.below hstep
        have Or_43 := Or_31.below hstep
        have hbel44 := hbel32.next hstep
        have hle44 := hbel44.size
        have hls44 := hstep.size
        clear Xa_23 Xb_24 R0_25 R1_26 V_27 L_28 Xx_33 Op_29 Oq_30 Or_31 hbel32 hstep
        have cXa0_44 : _ = some (Value.bool s) := Xa_34.cell 0
        have cXa1_44 : _ = some (Value.slice a n c) := Xa_34.cell 1
        have cXb0_44 : _ = some (Value.bool t) := Xb_35.cell 0
        have cXb1_44 : _ = some (Value.slice b m d) := Xb_35.cell 1
        have cR00_44 : _ = some (Value.bool false) := R0_36.cell 0
        have fR00_44 := R0_36.free 0
        have cR01_44 : _ = some (Value.slice none 0 0) := R0_36.cell 1
        have fR01_44 := R0_36.free 1
        have cR10_44 : _ = some (Value.bool false) := R1_37.cell 0
        have fR10_44 := R1_37.free 0
        have cR11_44 : _ = some (Value.slice none 0 0) := R1_37.cell 1
        have fR11_44 := R1_37.free 1
        have cV0_44 : World.cell? (((w101.alloc (.cells #[Value.bool (decide (r0 < 0)), Value.slice p pn pc, Value.bool (decide (x0 < 0)), Value.slice q qn qc, Value.bool (decide (y0 < 0)), Value.slice r rn rc] 118)).alloc (.cells #[Value.bool (decide (x0 < 0)), Value.slice q qn qc] 25)).alloc (.cells #[Value.bool (decide (y0 < 0)), Value.slice r rn rc] 25)) ⟨g, k * 6, none⟩ = some (Value.bool (decide (r0 < 0))) := V_38.cell0 0 (by decide)
        have cV1_44 : World.cell? (((w101.alloc (.cells #[Value.bool (decide (r0 < 0)), Value.slice p pn pc, Value.bool (decide (x0 < 0)), Value.slice q qn qc, Value.bool (decide (y0 < 0)), Value.slice r rn rc] 118)).alloc (.cells #[Value.bool (decide (x0 < 0)), Value.slice q qn qc] 25)).alloc (.cells #[Value.bool (decide (y0 < 0)), Value.slice r rn rc] 25)) ⟨g, k * 6 + 1, none⟩ = some (Value.slice p pn pc) := V_38.cell0 1 (by decide)
        have cV2_44 : World.cell? (((w101.alloc (.cells #[Value.bool (decide (r0 < 0)), Value.slice p pn pc, Value.bool (decide (x0 < 0)), Value.slice q qn qc, Value.bool (decide (y0 < 0)), Value.slice r rn rc] 118)).alloc (.cells #[Value.bool (decide (x0 < 0)), Value.slice q qn qc] 25)).alloc (.cells #[Value.bool (decide (y0 < 0)), Value.slice r rn rc] 25)) ⟨g, k * 6 + 2, none⟩ = some (Value.bool (decide (x0 < 0))) := V_38.cell0 2 (by decide)
        have cV3_44 : World.cell? (((w101.alloc (.cells #[Value.bool (decide (r0 < 0)), Value.slice p pn pc, Value.bool (decide (x0 < 0)), Value.slice q qn qc, Value.bool (decide (y0 < 0)), Value.slice r rn rc] 118)).alloc (.cells #[Value.bool (decide (x0 < 0)), Value.slice q qn qc] 25)).alloc (.cells #[Value.bool (decide (y0 < 0)), Value.slice r rn rc] 25)) ⟨g, k * 6 + 3, none⟩ = some (Value.slice q qn qc) := V_38.cell0 3 (by decide)
        have cV4_44 : World.cell? (((w101.alloc (.cells #[Value.bool (decide (r0 < 0)), Value.slice p pn pc, Value.bool (decide (x0 < 0)), Value.slice q qn qc, Value.bool (decide (y0 < 0)), Value.slice r rn rc] 118)).alloc (.cells #[Value.bool (decide (x0 < 0)), Value.slice q qn qc] 25)).alloc (.cells #[Value.bool (decide (y0 < 0)), Value.slice r rn rc] 25)) ⟨g, k * 6 + 4, none⟩ = some (Value.bool (decide (y0 < 0))) := V_38.cell0 4 (by decide)
        have cV5_44 : World.cell? (((w101.alloc (.cells #[Value.bool (decide (r0 < 0)), Value.slice p pn pc, Value.bool (decide (x0 < 0)), Value.slice q qn qc, Value.bool (decide (y0 < 0)), Value.slice r rn rc] 118)).alloc (.cells #[Value.bool (decide (x0 < 0)), Value.slice q qn qc] 25)).alloc (.cells #[Value.bool (decide (y0 < 0)), Value.slice r rn rc] 25)) ⟨g, k * 6 + 5, none⟩ = some (Value.slice r rn rc) := V_38.cell0 5 (by decide)
        have cV6_44 : World.cell? (((w101.alloc (.cells #[Value.bool (decide (r0 < 0)), Value.slice p pn pc, Value.bool (decide (x0 < 0)), Value.slice q qn qc, Value.bool (decide (y0 < 0)), Value.slice r rn rc] 118)).alloc (.cells #[Value.bool (decide (x0 < 0)), Value.slice q qn qc] 25)).alloc (.cells #[Value.bool (decide (y0 < 0)), Value.slice r rn rc] 25)) ⟨g, (k + 1) * 6, none⟩ = some (Value.bool (decide (r1 < 0))) := V_38.cell1 0 (by decide)
        have cV7_44 : World.cell? (((w101.alloc (.cells #[Value.bool (decide (r0 < 0)), Value.slice p pn pc, Value.bool (decide (x0 < 0)), Value.slice q qn qc, Value.bool (decide (y0 < 0)), Value.slice r rn rc] 118)).alloc (.cells #[Value.bool (decide (x0 < 0)), Value.slice q qn qc] 25)).alloc (.cells #[Value.bool (decide (y0 < 0)), Value.slice r rn rc] 25)) ⟨g, (k + 1) * 6 + 1, none⟩ = some (Value.slice p' p'n p'c) := V_38.cell1 1 (by decide)
        have cV8_44 : World.cell? (((w101.alloc (.cells #[Value.bool (decide (r0 < 0)), Value.slice p pn pc, Value.bool (decide (x0 < 0)), Value.slice q qn qc, Value.bool (decide (y0 < 0)), Value.slice r rn rc] 118)).alloc (.cells #[Value.bool (decide (x0 < 0)), Value.slice q qn qc] 25)).alloc (.cells #[Value.bool (decide (y0 < 0)), Value.slice r rn rc] 25)) ⟨g, (k + 1) * 6 + 2, none⟩ = some (Value.bool (decide (x1 < 0))) := V_38.cell1 2 (by decide)
        have cV9_44 : World.cell? (((w101.alloc (.cells #[Value.bool (decide (r0 < 0)), Value.slice p pn pc, Value.bool (decide (x0 < 0)), Value.slice q qn qc, Value.bool (decide (y0 < 0)), Value.slice r rn rc] 118)).alloc (.cells #[Value.bool (decide (x0 < 0)), Value.slice q qn qc] 25)).alloc (.cells #[Value.bool (decide (y0 < 0)), Value.slice r rn rc] 25)) ⟨g, (k + 1) * 6 + 3, none⟩ = some (Value.slice q' q'n q'c) := V_38.cell1 3 (by decide)
        have cV10_44 : World.cell? (((w101.alloc (.cells #[Value.bool (decide (r0 < 0)), Value.slice p pn pc, Value.bool (decide (x0 < 0)), Value.slice q qn qc, Value.bool (decide (y0 < 0)), Value.slice r rn rc] 118)).alloc (.cells #[Value.bool (decide (x0 < 0)), Value.slice q qn qc] 25)).alloc (.cells #[Value.bool (decide (y0 < 0)), Value.slice r rn rc] 25)) ⟨g, (k + 1) * 6 + 4, none⟩ = some (Value.bool (decide (y1 < 0))) := V_38.cell1 4 (by decide)
        have cV11_44 : World.cell? (((w101.alloc (.cells #[Value.bool (decide (r0 < 0)), Value.slice p pn pc, Value.bool (decide (x0 < 0)), Value.slice q qn qc, Value.bool (decide (y0 < 0)), Value.slice r rn rc] 118)).alloc (.cells #[Value.bool (decide (x0 < 0)), Value.slice q qn qc] 25)).alloc (.cells #[Value.bool (decide (y0 < 0)), Value.slice r rn rc] 25)) ⟨g, (k + 1) * 6 + 5, none⟩ = some (Value.slice r' r'n r'c) := V_38.cell1 5 (by decide)
        have cL0_44 : _ = some (Value.bool (decide (r0 < 0))) := L_39.cell 0
        have cL1_44 : _ = some (Value.slice p pn pc) := L_39.cell 1
        have cL2_44 : _ = some (Value.bool (decide (x0 < 0))) := L_39.cell 2
        have cL3_44 : _ = some (Value.slice q qn qc) := L_39.cell 3
        have cL4_44 : _ = some (Value.bool (decide (y0 < 0))) := L_39.cell 4
        have cL5_44 : _ = some (Value.slice r rn rc) := L_39.cell 5
        have cXx0_44 : _ = some (Value.bool (decide (x0 < 0))) := Xx_40.cell 0
        have fXx0_44 := Xx_40.free 0
        have cXx1_44 : _ = some (Value.slice q qn qc) := Xx_40.cell 1
        have fXx1_44 := Xx_40.free 1
        have Xy_45 := hbx
        have cXy0_45 : _ = some (Value.bool (decide (y0 < 0))) := Xy_45.cell 0
        have fXy0_45 := Xy_45.free 0
        have cXy1_45 : _ = some (Value.slice r rn rc) := Xy_45.cell 1
        have fXy1_45 := Xy_45.free 1
        clear hbx hbB
        go_wp2_with fail
        clear cXa0_12 cXa1_12 cXb0_12 cXb1_12 cR00_12 fR00_12 cR01_12 fR01_12 cR10_12 fR10_12 cR11_12 fR11_12 cV0_12 cV1_12 cV2_12 cV3_12 cV4_12 cV5_12 cV6_12 cV7_12 cV8_12 cV9_12 cV10_12 cV11_12 cXa0_21 cXa1_21 cXb0_21 cXb1_21 cR00_21 fR00_21 cR01_21 fR01_21 cR10_21 fR10_21 cR11_21 fR11_21 cV0_21 cV1_21 cV2_21 cV3_21 cV4_21 cV5_21 cV6_21 cV7_21 cV8_21 cV9_21 cV10_21 cV11_21 cL0_22 cL1_22 cL2_22 cL3_22 cL4_22 cL5_22 cXa0_32 cXa1_32 cXb0_32 cXb1_32 cR00_32 fR00_32 cR01_32 fR01_32 cR10_32 fR10_32 cR11_32 fR11_32 cV0_32 cV1_32 cV2_32 cV3_32 cV4_32 cV5_32 cV6_32 cV7_32 cV8_32 cV9_32 cV10_32 cV11_32 cL0_32 cL1_32 cL2_32 cL3_32 cL4_32 cL5_32 cXx0_33 fXx0_33 cXx1_33 fXx1_33
        generalize (((w101.alloc (.cells #[Value.bool (decide (r0 < 0)), Value.slice p pn pc, Value.bool (decide (x0 < 0)), Value.slice q qn qc, Value.bool (decide (y0 < 0)), Value.slice r rn rc] 118)).alloc (.cells #[Value.bool (decide (x0 < 0)), Value.slice q qn qc] 25)).alloc (.cells #[Value.bool (decide (y0 < 0)), Value.slice r rn rc] 25)) = v102 at *
        clear V_38
        have awpXx : Aw p (w101.heap.size + 1) := ltp.aw (by omega)
        have awpXy : Aw p (w101.heap.size + 1 + 1) := ltp.aw (by omega)
        have awqXx : Aw q (w101.heap.size + 1) := ltq.aw (by omega)
        have awqXy : Aw q (w101.heap.size + 1 + 1) := ltq.aw (by omega)
        have awrXx : Aw r (w101.heap.size + 1) := ltr.aw (by omega)
        have awrXy : Aw r (w101.heap.size + 1 + 1) := ltr.aw (by omega)
        go_wp2_with fail
        refine (HSA.out _ (show Rd _ a n c la from (ha.below hbel44))).mono ?_
        rintro e w105 ⟨rfl, hB⟩
        clear cXa0_44 cXa1_44 cXb0_44 cXb1_44 cR00_44 fR00_44 cR01_44 fR01_44 cR10_44 fR10_44 cR11_44 fR11_44 cV0_44 cV1_44 cV2_44 cV3_44 cV4_44 cV5_44 cV6_44 cV7_44 cV8_44 cV9_44 cV10_44 cV11_44 cL0_44 cL1_44 cL2_44 cL3_44 cL4_44 cL5_44 cXx0_44 fXx0_44 cXx1_44 fXx1_44 cXy0_45 fXy0_45 cXy1_45 fXy1_45
        have hstep : Below v102.heap.size v102 w105 := (by first | exact hB | exact below_drew hB)
        have Xa_46 := Xa_34.next hstep
        have Xb_47 := Xb_35.next hstep
        have R0_48 := R0_36.next hstep
        have R1_49 := R1_37.next hstep
        have L_50 := L_39.next hstep
        have Xx_51 := Xx_40.next hstep
        have Xy_52 := Xy_45.next hstep
        have Op_53 := Op_41.below hstep
        have Oq_54 := Oq_42.below hstep
        have Or_55 := Or_43.below hstep
        have hbel56 := hbel44.next hstep
        have hle56 := hbel56.size
        have hls56 := hstep.size
        clear Xa_34 Xb_35 R0_36 R1_37 L_39 Xx_40 Xy_45 Op_41 Oq_42 Or_43 hbel44 hstep
        have cXa0_56 : _ = some (Value.bool s) := Xa_46.cell 0
        have cXa1_56 : _ = some (Value.slice a n c) := Xa_46.cell 1
        have cXb0_56 : _ = some (Value.bool t) := Xb_47.cell 0
        have cXb1_56 : _ = some (Value.slice b m d) := Xb_47.cell 1
        have cR00_56 : _ = some (Value.bool false) := R0_48.cell 0
        have fR00_56 := R0_48.free 0
        have cR01_56 : _ = some (Value.slice none 0 0) := R0_48.cell 1
        have fR01_56 := R0_48.free 1
        have cR10_56 : _ = some (Value.bool false) := R1_49.cell 0
        have fR10_56 := R1_49.free 0
        have cR11_56 : _ = some (Value.slice none 0 0) := R1_49.cell 1
        have fR11_56 := R1_49.free 1
        have cL0_56 : _ = some (Value.bool (decide (r0 < 0))) := L_50.cell 0
        have cL1_56 : _ = some (Value.slice p pn pc) := L_50.cell 1
        have cL2_56 : _ = some (Value.bool (decide (x0 < 0))) := L_50.cell 2
        have cL3_56 : _ = some (Value.slice q qn qc) := L_50.cell 3
        have cL4_56 : _ = some (Value.bool (decide (y0 < 0))) := L_50.cell 4
        have cL5_56 : _ = some (Value.slice r rn rc) := L_50.cell 5
        have cXx0_56 : _ = some (Value.bool (decide (x0 < 0))) := Xx_51.cell 0
        have fXx0_56 := Xx_51.free 0
        have cXx1_56 : _ = some (Value.slice q qn qc) := Xx_51.cell 1
        have fXx1_56 := Xx_51.free 1
        have cXy0_56 : _ = some (Value.bool (decide (y0 < 0))) := Xy_52.cell 0
        have fXy0_56 := Xy_52.free 0
        have cXy1_56 : _ = some (Value.slice r rn rc) := Xy_52.cell 1
        have fXy1_56 := Xy_52.free 1
        go_wp2_with fail
        refine (HSB.out _ (show Rd _ b m d lb from (hb.below hbel56))).mono ?_
        rintro e w106 ⟨rfl, hB⟩
        clear cXa0_56 cXa1_56 cXb0_56 cXb1_56 cR00_56 fR00_56 cR01_56 fR01_56 cR10_56 fR10_56 cR11_56 fR11_56 cL0_56 cL1_56 cL2_56 cL3_56 cL4_56 cL5_56 cXx0_56 fXx0_56 cXx1_56 fXx1_56 cXy0_56 fXy0_56 cXy1_56 fXy1_56
        have hstep : Below w105.heap.size w105 w106 := (by first | exact hB | exact below_drew hB)
        have Xa_57 := Xa_46.next hstep
        have Xb_58 := Xb_47.next hstep
        have R0_59 := R0_48.next hstep
        have R1_60 := R1_49.next hstep
        have L_61 := L_50.next hstep
        have Xx_62 := Xx_51.next hstep
        have Xy_63 := Xy_52.next hstep
        have Op_64 := Op_53.below hstep
        have Oq_65 := Oq_54.below hstep
        have Or_66 := Or_55.below hstep
        have hbel67 := hbel56.next hstep
        have hle67 := hbel67.size
        have hls67 := hstep.size
        clear Xa_46 Xb_47 R0_48 R1_49 L_50 Xx_51 Xy_52 Op_53 Oq_54 Or_55 hbel56 hstep
        have cXa0_67 : _ = some (Value.bool s) := Xa_57.cell 0
        have cXa1_67 : _ = some (Value.slice a n c) := Xa_57.cell 1
        have cXb0_67 : _ = some (Value.bool t) := Xb_58.cell 0
        have cXb1_67 : _ = some (Value.slice b m d) := Xb_58.cell 1
        have cR00_67 : _ = some (Value.bool false) := R0_59.cell 0
        have fR00_67 := R0_59.free 0
        have cR01_67 : _ = some (Value.slice none 0 0) := R0_59.cell 1
        have fR01_67 := R0_59.free 1
        have cR10_67 : _ = some (Value.bool false) := R1_60.cell 0
        have fR10_67 := R1_60.free 0
        have cR11_67 : _ = some (Value.slice none 0 0) := R1_60.cell 1
        have fR11_67 := R1_60.free 1
        have cL0_67 : _ = some (Value.bool (decide (r0 < 0))) := L_61.cell 0
        have cL1_67 : _ = some (Value.slice p pn pc) := L_61.cell 1
        have cL2_67 : _ = some (Value.bool (decide (x0 < 0))) := L_61.cell 2
        have cL3_67 : _ = some (Value.slice q qn qc) := L_61.cell 3
        have cL4_67 : _ = some (Value.bool (decide (y0 < 0))) := L_61.cell 4
        have cL5_67 : _ = some (Value.slice r rn rc) := L_61.cell 5
        have cXx0_67 : _ = some (Value.bool (decide (x0 < 0))) := Xx_62.cell 0
        have fXx0_67 := Xx_62.free 0
        have cXx1_67 : _ = some (Value.slice q qn qc) := Xx_62.cell 1
        have fXx1_67 := Xx_62.free 1
        have cXy0_67 : _ = some (Value.bool (decide (y0 < 0))) := Xy_63.cell 0
        have fXy0_67 := Xy_63.free 0
        have cXy1_67 : _ = some (Value.slice r rn rc) := Xy_63.cell 1
        have fXy1_67 := Xy_63.free 1
        go_wp2_with fail
        refine (rznegI Or_66.rd (by omega) HNy0.out).mono ?_
        rintro e w107 ⟨ny, nyn, nyc, rfl, hO, hB⟩
        clear cXa0_67 cXa1_67 cXb0_67 cXb1_67 cR00_67 fR00_67 cR01_67 fR01_67 cR10_67 fR10_67 cR11_67 fR11_67 cL0_67 cL1_67 cL2_67 cL3_67 cL4_67 cL5_67 cXx0_67 fXx0_67 cXx1_67 fXx1_67 cXy0_67 fXy0_67 cXy1_67 fXy1_67
        have hstep : Below w106.heap.size w106 w107 := (by first | exact hB | exact below_drew hB)
        have Xa_68 := Xa_57.next hstep
        have Xb_69 := Xb_58.next hstep
        have R0_70 := R0_59.next hstep
        have R1_71 := R1_60.next hstep
        have L_72 := L_61.next hstep
        have Xx_73 := Xx_62.next hstep
        have Xy_74 := Xy_63.next hstep
        have Op_75 := Op_64.below hstep
        have Oq_76 := Oq_65.below hstep
        have Or_77 := Or_66.below hstep
        have hbel78 := hbel67.next hstep
        have hle78 := hbel78.size
        have hls78 := hstep.size
        clear Xa_57 Xb_58 R0_59 R1_60 L_61 Xx_62 Xy_63 Op_64 Oq_65 Or_66 hbel67 hstep
        have cXa0_78 : _ = some (Value.bool s) := Xa_68.cell 0
        have cXa1_78 : _ = some (Value.slice a n c) := Xa_68.cell 1
        have cXb0_78 : _ = some (Value.bool t) := Xb_69.cell 0
        have cXb1_78 : _ = some (Value.slice b m d) := Xb_69.cell 1
        have cR00_78 : _ = some (Value.bool false) := R0_70.cell 0
        have fR00_78 := R0_70.free 0
        have cR01_78 : _ = some (Value.slice none 0 0) := R0_70.cell 1
        have fR01_78 := R0_70.free 1
        have cR10_78 : _ = some (Value.bool false) := R1_71.cell 0
        have fR10_78 := R1_71.free 0
        have cR11_78 : _ = some (Value.slice none 0 0) := R1_71.cell 1
        have fR11_78 := R1_71.free 1
        have cL0_78 : _ = some (Value.bool (decide (r0 < 0))) := L_72.cell 0
        have cL1_78 : _ = some (Value.slice p pn pc) := L_72.cell 1
        have cL2_78 : _ = some (Value.bool (decide (x0 < 0))) := L_72.cell 2
        have cL3_78 : _ = some (Value.slice q qn qc) := L_72.cell 3
        have cL4_78 : _ = some (Value.bool (decide (y0 < 0))) := L_72.cell 4
        have cL5_78 : _ = some (Value.slice r rn rc) := L_72.cell 5
        have cXx0_78 : _ = some (Value.bool (decide (x0 < 0))) := Xx_73.cell 0
        have fXx0_78 := Xx_73.free 0
        have cXx1_78 : _ = some (Value.slice q qn qc) := Xx_73.cell 1
        have fXx1_78 := Xx_73.free 1
        have cXy0_78 : _ = some (Value.bool (decide (y0 < 0))) := Xy_74.cell 0
        have fXy0_78 := Xy_74.free 0
        have cXy1_78 : _ = some (Value.slice r rn rc) := Xy_74.cell 1
        have fXy1_78 := Xy_74.free 1
        have Ony_79 := hO
        have ltny := hO.ltOf
        have awnyXx : Aw ny (w101.heap.size + 1) := hO.awNew (by omega)
        have awnyXy : Aw ny (w101.heap.size + 1 + 1) := hO.awNew (by omega)
        have dfpny : Diff p ny := ltp.diff hO (by omega)
        have dfqny : Diff q ny := ltq.diff hO (by omega)
        clear hO
        go_wp2_with fail
        clear cXa0_78 cXa1_78 cXb0_78 cXb1_78 cR00_78 fR00_78 cR01_78 fR01_78 cR10_78 fR10_78 cR11_78 fR11_78 cL0_78 cL1_78 cL2_78 cL3_78 cL4_78 cL5_78 cXx0_78 fXx0_78 cXx1_78 fXx1_78 cXy0_78 fXy0_78 cXy1_78 fXy1_78
        have hkp : Kp (fun k => k = w101.heap.size + 1 + 1) w107 ((w107.setCell ⟨w101.heap.size + 1 + 1, 0, none⟩ (Value.bool (decide (ny0 < 0)))).setCell ⟨w101.heap.size + 1 + 1, 1, none⟩ (Value.slice ny nyn nyc)) := ((Kp.refl (fun k => k = w101.heap.size + 1 + 1) w107).setCell rfl (Value.bool (decide (ny0 < 0)))).setCell rfl (Value.slice ny nyn nyc)
        have Xy_80 := (show Blk _ _ #[Value.bool (decide (ny0 < 0)), Value.slice ny nyn nyc] from ((Xy_74).setCell (i := 0) (v := Value.bool (decide (ny0 < 0))) (by simp)).setCell (i := 1) (v := Value.slice ny nyn nyc) (by simp))
        have Xa_81 := Xa_68.kp hkp (show ¬ (w.heap.size = w101.heap.size + 1 + 1) by omega)
        have Xb_82 := Xb_69.kp hkp (show ¬ (w.heap.size + 1 = w101.heap.size + 1 + 1) by omega)
        have R0_83 := R0_70.kp hkp (show ¬ (w.heap.size + 1 + 1 = w101.heap.size + 1 + 1) by omega)
        have R1_84 := R1_71.kp hkp (show ¬ (w.heap.size + 1 + 1 + 1 = w101.heap.size + 1 + 1) by omega)
        have L_85 := L_72.kp hkp (show ¬ (w101.heap.size = w101.heap.size + 1 + 1) by omega)
        have Xx_86 := Xx_73.kp hkp (show ¬ (w101.heap.size + 1 = w101.heap.size + 1 + 1) by omega)
        have Op_87 := Op_75.kp hkp (fun g' e => awpXy g' e)
        have Oq_88 := Oq_76.kp hkp (fun g' e => awqXy g' e)
        have Or_89 := Or_77.kp hkp (fun g' e => awrXy g' e)
        have Ony_90 := Ony_79.kp hkp (fun g' e => awnyXy g' e)
        have hbel91 := hbel78.kp hkp (hbel78).size (fun k hk => (show ¬ (k = w101.heap.size + 1 + 1) by omega))
        have hse91 := hkp.size
        clear Xa_68 Xb_69 R0_70 R1_71 L_72 Xx_73 Xy_74 Op_75 Oq_76 Or_77 Ony_79 hbel78 hkp
        generalize ((w107.setCell ⟨w101.heap.size + 1 + 1, 0, none⟩ (Value.bool (decide (ny0 < 0)))).setCell ⟨w101.heap.size + 1 + 1, 1, none⟩ (Value.slice ny nyn nyc)) = v108 at *
        have cXa0_91 : _ = some (Value.bool s) := Xa_81.cell 0
        have cXa1_91 : _ = some (Value.slice a n c) := Xa_81.cell 1
        have cXb0_91 : _ = some (Value.bool t) := Xb_82.cell 0
        have cXb1_91 : _ = some (Value.slice b m d) := Xb_82.cell 1
        have cR00_91 : _ = some (Value.bool false) := R0_83.cell 0
        have fR00_91 := R0_83.free 0
        have cR01_91 : _ = some (Value.slice none 0 0) := R0_83.cell 1
        have fR01_91 := R0_83.free 1
        have cR10_91 : _ = some (Value.bool false) := R1_84.cell 0
        have fR10_91 := R1_84.free 0
        have cR11_91 : _ = some (Value.slice none 0 0) := R1_84.cell 1
        have fR11_91 := R1_84.free 1
        have cL0_91 : _ = some (Value.bool (decide (r0 < 0))) := L_85.cell 0
        have cL1_91 : _ = some (Value.slice p pn pc) := L_85.cell 1
        have cL2_91 : _ = some (Value.bool (decide (x0 < 0))) := L_85.cell 2
        have cL3_91 : _ = some (Value.slice q qn qc) := L_85.cell 3
        have cL4_91 : _ = some (Value.bool (decide (y0 < 0))) := L_85.cell 4
        have cL5_91 : _ = some (Value.slice r rn rc) := L_85.cell 5
        have cXx0_91 : _ = some (Value.bool (decide (x0 < 0))) := Xx_86.cell 0
        have fXx0_91 := Xx_86.free 0
        have cXx1_91 : _ = some (Value.slice q qn qc) := Xx_86.cell 1
        have fXx1_91 := Xx_86.free 1
        have cXy0_91 : _ = some (Value.bool (decide (ny0 < 0))) := Xy_80.cell 0
        have fXy0_91 := Xy_80.free 0
        have cXy1_91 : _ = some (Value.slice ny nyn nyc) := Xy_80.cell 1
        have fXy1_91 := Xy_80.free 1
        go_wp2_with fail
        go_region
        have awpR0 : Aw p (w.heap.size + 1 + 1) := (Op_87.mono (B' := W0.heap.size) (by omega)).awNew (by omega)
        have awqR0 : Aw q (w.heap.size + 1 + 1) := (Oq_88.mono (B' := W0.heap.size) (by omega)).awNew (by omega)
        have awrR0 : Aw r (w.heap.size + 1 + 1) := (Or_89.mono (B' := W0.heap.size) (by omega)).awNew (by omega)
        have awnyR0 : Aw ny (w.heap.size + 1 + 1) := (Ony_90.mono (B' := W0.heap.size) (by omega)).awNew (by omega)
        have awpR1 : Aw p (w.heap.size + 1 + 1 + 1) := (Op_87.mono (B' := W0.heap.size) (by omega)).awNew (by omega)
        have awqR1 : Aw q (w.heap.size + 1 + 1 + 1) := (Oq_88.mono (B' := W0.heap.size) (by omega)).awNew (by omega)
        have awrR1 : Aw r (w.heap.size + 1 + 1 + 1) := (Or_89.mono (B' := W0.heap.size) (by omega)).awNew (by omega)
        have awnyR1 : Aw ny (w.heap.size + 1 + 1 + 1) := (Ony_90.mono (B' := W0.heap.size) (by omega)).awNew (by omega)
        clear cXa0_91 cXa1_91 cXb0_91 cXb1_91 cR00_91 fR00_91 cR01_91 fR01_91 cR10_91 fR10_91 cR11_91 fR11_91 cL0_91 cL1_91 cL2_91 cL3_91 cL4_91 cL5_91 cXx0_91 fXx0_91 cXx1_91 fXx1_91 cXy0_91 fXy0_91 cXy1_91 fXy1_91
        have hkp : Kp (fun k => k = w.heap.size + 1 + 1) v108 ((v108.setCell ⟨w.heap.size + 1 + 1, 0, none⟩ (Value.bool (decide (x0 < 0)))).setCell ⟨w.heap.size + 1 + 1, 1, none⟩ (Value.slice q qn qc)) := ((Kp.refl (fun k => k = w.heap.size + 1 + 1) v108).setCell rfl (Value.bool (decide (x0 < 0)))).setCell rfl (Value.slice q qn qc)
        have R0_92 := (show Blk _ _ #[Value.bool (decide (x0 < 0)), Value.slice q qn qc] from ((R0_83).setCell (i := 0) (v := Value.bool (decide (x0 < 0))) (by simp)).setCell (i := 1) (v := Value.slice q qn qc) (by simp))
        have Xa_93 := Xa_81.kp hkp (show ¬ (w.heap.size = w.heap.size + 1 + 1) by omega)
        have Xb_94 := Xb_82.kp hkp (show ¬ (w.heap.size + 1 = w.heap.size + 1 + 1) by omega)
        have R1_95 := R1_84.kp hkp (show ¬ (w.heap.size + 1 + 1 + 1 = w.heap.size + 1 + 1) by omega)
        have L_96 := L_85.kp hkp (show ¬ (w101.heap.size = w.heap.size + 1 + 1) by omega)
        have Xx_97 := Xx_86.kp hkp (show ¬ (w101.heap.size + 1 = w.heap.size + 1 + 1) by omega)
        have Xy_98 := Xy_80.kp hkp (show ¬ (w101.heap.size + 1 + 1 = w.heap.size + 1 + 1) by omega)
        have Op_99 := Op_87.kp hkp (fun g' e => awpR0 g' e)
        have Oq_100 := Oq_88.kp hkp (fun g' e => awqR0 g' e)
        have Or_101 := Or_89.kp hkp (fun g' e => awrR0 g' e)
        have Ony_102 := Ony_90.kp hkp (fun g' e => awnyR0 g' e)
        have hbel103 := hbel91.kp hkp (hbel91).size (fun k hk => (show ¬ (k = w.heap.size + 1 + 1) by omega))
        have hse103 := hkp.size
        clear Xa_81 Xb_82 R0_83 R1_84 L_85 Xx_86 Xy_80 Op_87 Oq_88 Or_89 Ony_90 hbel91 hkp
        generalize ((v108.setCell ⟨w.heap.size + 1 + 1, 0, none⟩ (Value.bool (decide (x0 < 0)))).setCell ⟨w.heap.size + 1 + 1, 1, none⟩ (Value.slice q qn qc)) = v109 at *
        have cXa0_103 : _ = some (Value.bool s) := Xa_93.cell 0
        have cXa1_103 : _ = some (Value.slice a n c) := Xa_93.cell 1
        have cXb0_103 : _ = some (Value.bool t) := Xb_94.cell 0
        have cXb1_103 : _ = some (Value.slice b m d) := Xb_94.cell 1
        have cR00_103 : _ = some (Value.bool (decide (x0 < 0))) := R0_92.cell 0
        have fR00_103 := R0_92.free 0
        have cR01_103 : _ = some (Value.slice q qn qc) := R0_92.cell 1
        have fR01_103 := R0_92.free 1
        have cR10_103 : _ = some (Value.bool false) := R1_95.cell 0
        have fR10_103 := R1_95.free 0
        have cR11_103 : _ = some (Value.slice none 0 0) := R1_95.cell 1
        have fR11_103 := R1_95.free 1
        have cL0_103 : _ = some (Value.bool (decide (r0 < 0))) := L_96.cell 0
        have cL1_103 : _ = some (Value.slice p pn pc) := L_96.cell 1
        have cL2_103 : _ = some (Value.bool (decide (x0 < 0))) := L_96.cell 2
        have cL3_103 : _ = some (Value.slice q qn qc) := L_96.cell 3
        have cL4_103 : _ = some (Value.bool (decide (y0 < 0))) := L_96.cell 4
        have cL5_103 : _ = some (Value.slice r rn rc) := L_96.cell 5
        have cXx0_103 : _ = some (Value.bool (decide (x0 < 0))) := Xx_97.cell 0
        have fXx0_103 := Xx_97.free 0
        have cXx1_103 : _ = some (Value.slice q qn qc) := Xx_97.cell 1
        have fXx1_103 := Xx_97.free 1
        have cXy0_103 : _ = some (Value.bool (decide (ny0 < 0))) := Xy_98.cell 0
        have fXy0_103 := Xy_98.free 0
        have cXy1_103 : _ = some (Value.slice ny nyn nyc) := Xy_98.cell 1
        have fXy1_103 := Xy_98.free 1
        clear cXa0_103 cXa1_103 cXb0_103 cXb1_103 cR00_103 fR00_103 cR01_103 fR01_103 cR10_103 fR10_103 cR11_103 fR11_103 cL0_103 cL1_103 cL2_103 cL3_103 cL4_103 cL5_103 cXx0_103 fXx0_103 cXx1_103 fXx1_103 cXy0_103 fXy0_103 cXy1_103 fXy1_103
        have hkp : Kp (fun k => k = w.heap.size + 1 + 1 + 1) v109 ((v109.setCell ⟨w.heap.size + 1 + 1 + 1, 0, none⟩ (Value.bool (decide (ny0 < 0)))).setCell ⟨w.heap.size + 1 + 1 + 1, 1, none⟩ (Value.slice ny nyn nyc)) := ((Kp.refl (fun k => k = w.heap.size + 1 + 1 + 1) v109).setCell rfl (Value.bool (decide (ny0 < 0)))).setCell rfl (Value.slice ny nyn nyc)
        have R1_104 := (show Blk _ _ #[Value.bool (decide (ny0 < 0)), Value.slice ny nyn nyc] from ((R1_95).setCell (i := 0) (v := Value.bool (decide (ny0 < 0))) (by simp)).setCell (i := 1) (v := Value.slice ny nyn nyc) (by simp))
        have Xa_105 := Xa_93.kp hkp (show ¬ (w.heap.size = w.heap.size + 1 + 1 + 1) by omega)
        have Xb_106 := Xb_94.kp hkp (show ¬ (w.heap.size + 1 = w.heap.size + 1 + 1 + 1) by omega)
        have R0_107 := R0_92.kp hkp (show ¬ (w.heap.size + 1 + 1 = w.heap.size + 1 + 1 + 1) by omega)
        have L_108 := L_96.kp hkp (show ¬ (w101.heap.size = w.heap.size + 1 + 1 + 1) by omega)
        have Xx_109 := Xx_97.kp hkp (show ¬ (w101.heap.size + 1 = w.heap.size + 1 + 1 + 1) by omega)
        have Xy_110 := Xy_98.kp hkp (show ¬ (w101.heap.size + 1 + 1 = w.heap.size + 1 + 1 + 1) by omega)
        have Op_111 := Op_99.kp hkp (fun g' e => awpR1 g' e)
        have Oq_112 := Oq_100.kp hkp (fun g' e => awqR1 g' e)
        have Or_113 := Or_101.kp hkp (fun g' e => awrR1 g' e)
        have Ony_114 := Ony_102.kp hkp (fun g' e => awnyR1 g' e)
        have hbel115 := hbel103.kp hkp (hbel103).size (fun k hk => (show ¬ (k = w.heap.size + 1 + 1 + 1) by omega))
        have hse115 := hkp.size
        clear Xa_93 Xb_94 R0_92 R1_95 L_96 Xx_97 Xy_98 Op_99 Oq_100 Or_101 Ony_102 hbel103 hkp
        generalize ((v109.setCell ⟨w.heap.size + 1 + 1 + 1, 0, none⟩ (Value.bool (decide (ny0 < 0)))).setCell ⟨w.heap.size + 1 + 1 + 1, 1, none⟩ (Value.slice ny nyn nyc)) = v110 at *
        have cXa0_115 : _ = some (Value.bool s) := Xa_105.cell 0
        have cXa1_115 : _ = some (Value.slice a n c) := Xa_105.cell 1
        have cXb0_115 : _ = some (Value.bool t) := Xb_106.cell 0
        have cXb1_115 : _ = some (Value.slice b m d) := Xb_106.cell 1
        have cR00_115 : _ = some (Value.bool (decide (x0 < 0))) := R0_107.cell 0
        have fR00_115 := R0_107.free 0
        have cR01_115 : _ = some (Value.slice q qn qc) := R0_107.cell 1
        have fR01_115 := R0_107.free 1
        have cR10_115 : _ = some (Value.bool (decide (ny0 < 0))) := R1_104.cell 0
        have fR10_115 := R1_104.free 0
        have cR11_115 : _ = some (Value.slice ny nyn nyc) := R1_104.cell 1
        have fR11_115 := R1_104.free 1
        have cL0_115 : _ = some (Value.bool (decide (r0 < 0))) := L_108.cell 0
        have cL1_115 : _ = some (Value.slice p pn pc) := L_108.cell 1
        have cL2_115 : _ = some (Value.bool (decide (x0 < 0))) := L_108.cell 2
        have cL3_115 : _ = some (Value.slice q qn qc) := L_108.cell 3
        have cL4_115 : _ = some (Value.bool (decide (y0 < 0))) := L_108.cell 4
        have cL5_115 : _ = some (Value.slice r rn rc) := L_108.cell 5
        have cXx0_115 : _ = some (Value.bool (decide (x0 < 0))) := Xx_109.cell 0
        have fXx0_115 := Xx_109.free 0
        have cXx1_115 : _ = some (Value.slice q qn qc) := Xx_109.cell 1
        have fXx1_115 := Xx_109.free 1
        have cXy0_115 : _ = some (Value.bool (decide (ny0 < 0))) := Xy_110.cell 0
        have fXy0_115 := Xy_110.free 0
        have cXy1_115 : _ = some (Value.slice ny nyn nyc) := Xy_110.cell 1
        have fXy1_115 := Xy_110.free 1
        go_wp2
        refine bodyPost_ret (v := .tuple #[.slice p pn pc, .agg #[.bool (decide (x0 < 0)), .slice q qn qc], .agg #[.bool (decide (ny0 < 0)), .slice ny nyn nyc]]) (by simp [results, Try.results62, go_sem, cR00_115, cR01_115, cR10_115, cR11_115]) rfl ?_
        rw [← E1.out, ← E2.out, ← E3.out, HBA.out, HBB.out]
        exact ⟨p, pn, pc, q, qn, qc, ny, nyn, nyc, rfl, Op_111.mono (by omega), Oq_112.mono (by omega), Ony_114.mono (by omega), dfpq, dfpny, dfqny, ⟨hbel115.os, hbel115.tape, hbel115.output, hbel115.size, hbel115.block⟩⟩
      · skip
        have hba : bzS za x0 = x0 := if_neg (by omega)
        have hbb : bzS zb y0 = y0 := if_neg (by omega)
        have HBA := hid hba
        have HBB := hid hbb
        clear hba hbb
        generalize hsa : sgn za = ga at HSA
        generalize hsb : sgn zb = gb at HSB
        have hsa' : 0 ≤ ga ∧ ga ≤ 1 := by have := sgn_cases za; omega
        have hsb' : 0 ≤ gb ∧ gb ≤ 1 := by have := sgn_cases zb; omega
        clear hsa hsb hzaS hzbS
        have dga : decide (ga < 0) = false := decide_eq_false (by omega)
        have dgb : decide (gb < 0) = false := decide_eq_false (by omega)
        have hbx := blk_new' w101 #[Value.bool (decide (r0 < 0)), Value.slice p pn pc, Value.bool (decide (x0 < 0)), Value.slice q qn qc, Value.bool (decide (y0 < 0)), Value.slice r rn rc] 118 (g := w101.heap.size) (by simp)
        have hbB := (Below.refl w101.heap.size w101).alloc (Nat.le_refl _) (.cells #[Value.bool (decide (r0 < 0)), Value.slice p pn pc, Value.bool (decide (x0 < 0)), Value.slice q qn qc, Value.bool (decide (y0 < 0)), Value.slice r rn rc] 118)
        have hbg := hbx.lt
        have hstep : Below w101.heap.size w101 (w101.alloc (.cells #[Value.bool (decide (r0 < 0)), Value.slice p pn pc, Value.bool (decide (x0 < 0)), Value.slice q qn qc, Value.bool (decide (y0 < 0)), Value.slice r rn rc] 118)) := (by first | exact hbB | exact below_drew hbB)
        have Xa_13 := Xa_1.next hstep
        have Xb_14 := Xb_2.next hstep
        have R0_15 := R0_3.next hstep
        have R1_16 := R1_4.next hstep
        have V_17 := V_5.next hstep
        have Op_18 := Op_6.below hstep
        have Oq_19 := Oq_7.below hstep
        have Or_20 := Or_8.below hstep
        have hbel21 := hbel12.next hstep
        have hle21 := hbel21.size
        have hls21 := hstep.size
        clear Xa_1 Xb_2 R0_3 R1_4 V_5 Op_6 Oq_7 Or_8 hbel12 hstep
        have cXa0_21 : _ = some (Value.bool s) := Xa_13.cell 0
        have cXa1_21 : _ = some (Value.slice a n c) := Xa_13.cell 1
        have cXb0_21 : _ = some (Value.bool t) := Xb_14.cell 0
        have cXb1_21 : _ = some (Value.slice b m d) := Xb_14.cell 1
        have cR00_21 : _ = some (Value.bool false) := R0_15.cell 0
        have fR00_21 := R0_15.free 0
        have cR01_21 : _ = some (Value.slice none 0 0) := R0_15.cell 1
        have fR01_21 := R0_15.free 1
        have cR10_21 : _ = some (Value.bool false) := R1_16.cell 0
        have fR10_21 := R1_16.free 0
        have cR11_21 : _ = some (Value.slice none 0 0) := R1_16.cell 1
        have fR11_21 := R1_16.free 1
        have cV0_21 : World.cell? (w101.alloc (.cells #[Value.bool (decide (r0 < 0)), Value.slice p pn pc, Value.bool (decide (x0 < 0)), Value.slice q qn qc, Value.bool (decide (y0 < 0)), Value.slice r rn rc] 118)) ⟨g, k * 6, none⟩ = some (Value.bool (decide (r0 < 0))) := V_17.cell0 0 (by decide)
        have cV1_21 : World.cell? (w101.alloc (.cells #[Value.bool (decide (r0 < 0)), Value.slice p pn pc, Value.bool (decide (x0 < 0)), Value.slice q qn qc, Value.bool (decide (y0 < 0)), Value.slice r rn rc] 118)) ⟨g, k * 6 + 1, none⟩ = some (Value.slice p pn pc) := V_17.cell0 1 (by decide)
        have cV2_21 : World.cell? (w101.alloc (.cells #[Value.bool (decide (r0 < 0)), Value.slice p pn pc, Value.bool (decide (x0 < 0)), Value.slice q qn qc, Value.bool (decide (y0 < 0)), Value.slice r rn rc] 118)) ⟨g, k * 6 + 2, none⟩ = some (Value.bool (decide (x0 < 0))) := V_17.cell0 2 (by decide)
        have cV3_21 : World.cell? (w101.alloc (.cells #[Value.bool (decide (r0 < 0)), Value.slice p pn pc, Value.bool (decide (x0 < 0)), Value.slice q qn qc, Value.bool (decide (y0 < 0)), Value.slice r rn rc] 118)) ⟨g, k * 6 + 3, none⟩ = some (Value.slice q qn qc) := V_17.cell0 3 (by decide)
        have cV4_21 : World.cell? (w101.alloc (.cells #[Value.bool (decide (r0 < 0)), Value.slice p pn pc, Value.bool (decide (x0 < 0)), Value.slice q qn qc, Value.bool (decide (y0 < 0)), Value.slice r rn rc] 118)) ⟨g, k * 6 + 4, none⟩ = some (Value.bool (decide (y0 < 0))) := V_17.cell0 4 (by decide)
        have cV5_21 : World.cell? (w101.alloc (.cells #[Value.bool (decide (r0 < 0)), Value.slice p pn pc, Value.bool (decide (x0 < 0)), Value.slice q qn qc, Value.bool (decide (y0 < 0)), Value.slice r rn rc] 118)) ⟨g, k * 6 + 5, none⟩ = some (Value.slice r rn rc) := V_17.cell0 5 (by decide)
        have cV6_21 : World.cell? (w101.alloc (.cells #[Value.bool (decide (r0 < 0)), Value.slice p pn pc, Value.bool (decide (x0 < 0)), Value.slice q qn qc, Value.bool (decide (y0 < 0)), Value.slice r rn rc] 118)) ⟨g, (k + 1) * 6, none⟩ = some (Value.bool (decide (r1 < 0))) := V_17.cell1 0 (by decide)
        have cV7_21 : World.cell? (w101.alloc (.cells #[Value.bool (decide (r0 < 0)), Value.slice p pn pc, Value.bool (decide (x0 < 0)), Value.slice q qn qc, Value.bool (decide (y0 < 0)), Value.slice r rn rc] 118)) ⟨g, (k + 1) * 6 + 1, none⟩ = some (Value.slice p' p'n p'c) := V_17.cell1 1 (by decide)
        have cV8_21 : World.cell? (w101.alloc (.cells #[Value.bool (decide (r0 < 0)), Value.slice p pn pc, Value.bool (decide (x0 < 0)), Value.slice q qn qc, Value.bool (decide (y0 < 0)), Value.slice r rn rc] 118)) ⟨g, (k + 1) * 6 + 2, none⟩ = some (Value.bool (decide (x1 < 0))) := V_17.cell1 2 (by decide)
        have cV9_21 : World.cell? (w101.alloc (.cells #[Value.bool (decide (r0 < 0)), Value.slice p pn pc, Value.bool (decide (x0 < 0)), Value.slice q qn qc, Value.bool (decide (y0 < 0)), Value.slice r rn rc] 118)) ⟨g, (k + 1) * 6 + 3, none⟩ = some (Value.slice q' q'n q'c) := V_17.cell1 3 (by decide)
        have cV10_21 : World.cell? (w101.alloc (.cells #[Value.bool (decide (r0 < 0)), Value.slice p pn pc, Value.bool (decide (x0 < 0)), Value.slice q qn qc, Value.bool (decide (y0 < 0)), Value.slice r rn rc] 118)) ⟨g, (k + 1) * 6 + 4, none⟩ = some (Value.bool (decide (y1 < 0))) := V_17.cell1 4 (by decide)
        have cV11_21 : World.cell? (w101.alloc (.cells #[Value.bool (decide (r0 < 0)), Value.slice p pn pc, Value.bool (decide (x0 < 0)), Value.slice q qn qc, Value.bool (decide (y0 < 0)), Value.slice r rn rc] 118)) ⟨g, (k + 1) * 6 + 5, none⟩ = some (Value.slice r' r'n r'c) := V_17.cell1 5 (by decide)
        have L_22 := hbx
        have cL0_22 : _ = some (Value.bool (decide (r0 < 0))) := L_22.cell 0
        have cL1_22 : _ = some (Value.slice p pn pc) := L_22.cell 1
        have cL2_22 : _ = some (Value.bool (decide (x0 < 0))) := L_22.cell 2
        have cL3_22 : _ = some (Value.slice q qn qc) := L_22.cell 3
        have cL4_22 : _ = some (Value.bool (decide (y0 < 0))) := L_22.cell 4
        have cL5_22 : _ = some (Value.slice r rn rc) := L_22.cell 5
        clear hbx hbB
        have hbx := blk_new' (w101.alloc (.cells #[Value.bool (decide (r0 < 0)), Value.slice p pn pc, Value.bool (decide (x0 < 0)), Value.slice q qn qc, Value.bool (decide (y0 < 0)), Value.slice r rn rc] 118)) #[Value.bool (decide (x0 < 0)), Value.slice q qn qc] 25 (g := w101.heap.size + 1) (by simp)
        have hbB := (Below.refl (w101.alloc (.cells #[Value.bool (decide (r0 < 0)), Value.slice p pn pc, Value.bool (decide (x0 < 0)), Value.slice q qn qc, Value.bool (decide (y0 < 0)), Value.slice r rn rc] 118)).heap.size (w101.alloc (.cells #[Value.bool (decide (r0 < 0)), Value.slice p pn pc, Value.bool (decide (x0 < 0)), Value.slice q qn qc, Value.bool (decide (y0 < 0)), Value.slice r rn rc] 118))).alloc (Nat.le_refl _) (.cells #[Value.bool (decide (x0 < 0)), Value.slice q qn qc] 25)
        have hbg := hbx.lt
        have hstep : Below (w101.alloc (.cells #[Value.bool (decide (r0 < 0)), Value.slice p pn pc, Value.bool (decide (x0 < 0)), Value.slice q qn qc, Value.bool (decide (y0 < 0)), Value.slice r rn rc] 118)).heap.size (w101.alloc (.cells #[Value.bool (decide (r0 < 0)), Value.slice p pn pc, Value.bool (decide (x0 < 0)), Value.slice q qn qc, Value.bool (decide (y0 < 0)), Value.slice r rn rc] 118)) ((w101.alloc (.cells #[Value.bool (decide (r0 < 0)), Value.slice p pn pc, Value.bool (decide (x0 < 0)), Value.slice q qn qc, Value.bool (decide (y0 < 0)), Value.slice r rn rc] 118)).alloc (.cells #[Value.bool (decide (x0 < 0)), Value.slice q qn qc] 25)) := (by first | exact hbB | exact below_drew hbB)
        have Xa_23 := Xa_13.next hstep
        have Xb_24 := Xb_14.next hstep
        have R0_25 := R0_15.next hstep
        have R1_26 := R1_16.next hstep
        have V_27 := V_17.next hstep
        have L_28 := L_22.next hstep
        have Op_29 := Op_18.below hstep
        have Oq_30 := Oq_19.below hstep
        have Or_31 := Or_20.below hstep
        have hbel32 := hbel21.next hstep
        have hle32 := hbel32.size
        have hls32 := hstep.size
        clear Xa_13 Xb_14 R0_15 R1_16 V_17 L_22 Op_18 Oq_19 Or_20 hbel21 hstep
        have cXa0_32 : _ = some (Value.bool s) := Xa_23.cell 0
        have cXa1_32 : _ = some (Value.slice a n c) := Xa_23.cell 1
        have cXb0_32 : _ = some (Value.bool t) := Xb_24.cell 0
        have cXb1_32 : _ = some (Value.slice b m d) := Xb_24.cell 1
        have cR00_32 : _ = some (Value.bool false) := R0_25.cell 0
        have fR00_32 := R0_25.free 0
        have cR01_32 : _ = some (Value.slice none 0 0) := R0_25.cell 1
        have fR01_32 := R0_25.free 1
        have cR10_32 : _ = some (Value.bool false) := R1_26.cell 0
        have fR10_32 := R1_26.free 0
        have cR11_32 : _ = some (Value.slice none 0 0) := R1_26.cell 1
        have fR11_32 := R1_26.free 1
        have cV0_32 : World.cell? ((w101.alloc (.cells #[Value.bool (decide (r0 < 0)), Value.slice p pn pc, Value.bool (decide (x0 < 0)), Value.slice q qn qc, Value.bool (decide (y0 < 0)), Value.slice r rn rc] 118)).alloc (.cells #[Value.bool (decide (x0 < 0)), Value.slice q qn qc] 25)) ⟨g, k * 6, none⟩ = some (Value.bool (decide (r0 < 0))) := V_27.cell0 0 (by decide)
        have cV1_32 : World.cell? ((w101.alloc (.cells #[Value.bool (decide (r0 < 0)), Value.slice p pn pc, Value.bool (decide (x0 < 0)), Value.slice q qn qc, Value.bool (decide (y0 < 0)), Value.slice r rn rc] 118)).alloc (.cells #[Value.bool (decide (x0 < 0)), Value.slice q qn qc] 25)) ⟨g, k * 6 + 1, none⟩ = some (Value.slice p pn pc) := V_27.cell0 1 (by decide)
        have cV2_32 : World.cell? ((w101.alloc (.cells #[Value.bool (decide (r0 < 0)), Value.slice p pn pc, Value.bool (decide (x0 < 0)), Value.slice q qn qc, Value.bool (decide (y0 < 0)), Value.slice r rn rc] 118)).alloc (.cells #[Value.bool (decide (x0 < 0)), Value.slice q qn qc] 25)) ⟨g, k * 6 + 2, none⟩ = some (Value.bool (decide (x0 < 0))) := V_27.cell0 2 (by decide)
        have cV3_32 : World.cell? ((w101.alloc (.cells #[Value.bool (decide (r0 < 0)), Value.slice p pn pc, Value.bool (decide (x0 < 0)), Value.slice q qn qc, Value.bool (decide (y0 < 0)), Value.slice r rn rc] 118)).alloc (.cells #[Value.bool (decide (x0 < 0)), Value.slice q qn qc] 25)) ⟨g, k * 6 + 3, none⟩ = some (Value.slice q qn qc) := V_27.cell0 3 (by decide)
        have cV4_32 : World.cell? ((w101.alloc (.cells #[Value.bool (decide (r0 < 0)), Value.slice p pn pc, Value.bool (decide (x0 < 0)), Value.slice q qn qc, Value.bool (decide (y0 < 0)), Value.slice r rn rc] 118)).alloc (.cells #[Value.bool (decide (x0 < 0)), Value.slice q qn qc] 25)) ⟨g, k * 6 + 4, none⟩ = some (Value.bool (decide (y0 < 0))) := V_27.cell0 4 (by decide)
        have cV5_32 : World.cell? ((w101.alloc (.cells #[Value.bool (decide (r0 < 0)), Value.slice p pn pc, Value.bool (decide (x0 < 0)), Value.slice q qn qc, Value.bool (decide (y0 < 0)), Value.slice r rn rc] 118)).alloc (.cells #[Value.bool (decide (x0 < 0)), Value.slice q qn qc] 25)) ⟨g, k * 6 + 5, none⟩ = some (Value.slice r rn rc) := V_27.cell0 5 (by decide)
        have cV6_32 : World.cell? ((w101.alloc (.cells #[Value.bool (decide (r0 < 0)), Value.slice p pn pc, Value.bool (decide (x0 < 0)), Value.slice q qn qc, Value.bool (decide (y0 < 0)), Value.slice r rn rc] 118)).alloc (.cells #[Value.bool (decide (x0 < 0)), Value.slice q qn qc] 25)) ⟨g, (k + 1) * 6, none⟩ = some (Value.bool (decide (r1 < 0))) := V_27.cell1 0 (by decide)
        have cV7_32 : World.cell? ((w101.alloc (.cells #[Value.bool (decide (r0 < 0)), Value.slice p pn pc, Value.bool (decide (x0 < 0)), Value.slice q qn qc, Value.bool (decide (y0 < 0)), Value.slice r rn rc] 118)).alloc (.cells #[Value.bool (decide (x0 < 0)), Value.slice q qn qc] 25)) ⟨g, (k + 1) * 6 + 1, none⟩ = some (Value.slice p' p'n p'c) := V_27.cell1 1 (by decide)
        have cV8_32 : World.cell? ((w101.alloc (.cells #[Value.bool (decide (r0 < 0)), Value.slice p pn pc, Value.bool (decide (x0 < 0)), Value.slice q qn qc, Value.bool (decide (y0 < 0)), Value.slice r rn rc] 118)).alloc (.cells #[Value.bool (decide (x0 < 0)), Value.slice q qn qc] 25)) ⟨g, (k + 1) * 6 + 2, none⟩ = some (Value.bool (decide (x1 < 0))) := V_27.cell1 2 (by decide)
        have cV9_32 : World.cell? ((w101.alloc (.cells #[Value.bool (decide (r0 < 0)), Value.slice p pn pc, Value.bool (decide (x0 < 0)), Value.slice q qn qc, Value.bool (decide (y0 < 0)), Value.slice r rn rc] 118)).alloc (.cells #[Value.bool (decide (x0 < 0)), Value.slice q qn qc] 25)) ⟨g, (k + 1) * 6 + 3, none⟩ = some (Value.slice q' q'n q'c) := V_27.cell1 3 (by decide)
        have cV10_32 : World.cell? ((w101.alloc (.cells #[Value.bool (decide (r0 < 0)), Value.slice p pn pc, Value.bool (decide (x0 < 0)), Value.slice q qn qc, Value.bool (decide (y0 < 0)), Value.slice r rn rc] 118)).alloc (.cells #[Value.bool (decide (x0 < 0)), Value.slice q qn qc] 25)) ⟨g, (k + 1) * 6 + 4, none⟩ = some (Value.bool (decide (y1 < 0))) := V_27.cell1 4 (by decide)
        have cV11_32 : World.cell? ((w101.alloc (.cells #[Value.bool (decide (r0 < 0)), Value.slice p pn pc, Value.bool (decide (x0 < 0)), Value.slice q qn qc, Value.bool (decide (y0 < 0)), Value.slice r rn rc] 118)).alloc (.cells #[Value.bool (decide (x0 < 0)), Value.slice q qn qc] 25)) ⟨g, (k + 1) * 6 + 5, none⟩ = some (Value.slice r' r'n r'c) := V_27.cell1 5 (by decide)
        have cL0_32 : _ = some (Value.bool (decide (r0 < 0))) := L_28.cell 0
        have cL1_32 : _ = some (Value.slice p pn pc) := L_28.cell 1
        have cL2_32 : _ = some (Value.bool (decide (x0 < 0))) := L_28.cell 2
        have cL3_32 : _ = some (Value.slice q qn qc) := L_28.cell 3
        have cL4_32 : _ = some (Value.bool (decide (y0 < 0))) := L_28.cell 4
        have cL5_32 : _ = some (Value.slice r rn rc) := L_28.cell 5
        have Xx_33 := hbx
        have cXx0_33 : _ = some (Value.bool (decide (x0 < 0))) := Xx_33.cell 0
        have fXx0_33 := Xx_33.free 0
        have cXx1_33 : _ = some (Value.slice q qn qc) := Xx_33.cell 1
        have fXx1_33 := Xx_33.free 1
        clear hbx hbB
        have hbx := blk_new' ((w101.alloc (.cells #[Value.bool (decide (r0 < 0)), Value.slice p pn pc, Value.bool (decide (x0 < 0)), Value.slice q qn qc, Value.bool (decide (y0 < 0)), Value.slice r rn rc] 118)).alloc (.cells #[Value.bool (decide (x0 < 0)), Value.slice q qn qc] 25)) #[Value.bool (decide (y0 < 0)), Value.slice r rn rc] 25 (g := w101.heap.size + 1 + 1) (by simp)
        have hbB := (Below.refl ((w101.alloc (.cells #[Value.bool (decide (r0 < 0)), Value.slice p pn pc, Value.bool (decide (x0 < 0)), Value.slice q qn qc, Value.bool (decide (y0 < 0)), Value.slice r rn rc] 118)).alloc (.cells #[Value.bool (decide (x0 < 0)), Value.slice q qn qc] 25)).heap.size ((w101.alloc (.cells #[Value.bool (decide (r0 < 0)), Value.slice p pn pc, Value.bool (decide (x0 < 0)), Value.slice q qn qc, Value.bool (decide (y0 < 0)), Value.slice r rn rc] 118)).alloc (.cells #[Value.bool (decide (x0 < 0)), Value.slice q qn qc] 25))).alloc (Nat.le_refl _) (.cells #[Value.bool (decide (y0 < 0)), Value.slice r rn rc] 25)
        have hbg := hbx.lt
        have hstep : Below ((w101.alloc (.cells #[Value.bool (decide (r0 < 0)), Value.slice p pn pc, Value.bool (decide (x0 < 0)), Value.slice q qn qc, Value.bool (decide (y0 < 0)), Value.slice r rn rc] 118)).alloc (.cells #[Value.bool (decide (x0 < 0)), Value.slice q qn qc] 25)).heap.size ((w101.alloc (.cells #[Value.bool (decide (r0 < 0)), Value.slice p pn pc, Value.bool (decide (x0 < 0)), Value.slice q qn qc, Value.bool (decide (y0 < 0)), Value.slice r rn rc] 118)).alloc (.cells #[Value.bool (decide (x0 < 0)), Value.slice q qn qc] 25)) (((w101.alloc (.cells #[Value.bool (decide (r0 < 0)), Value.slice p pn pc, Value.bool (decide (x0 < 0)), Value.slice q qn qc, Value.bool (decide (y0 < 0)), Value.slice r rn rc] 118)).alloc (.cells #[Value.bool (decide (x0 < 0)), Value.slice q qn qc] 25)).alloc (.cells #[Value.bool (decide (y0 < 0)), Value.slice r rn rc] 25)) := (by first | exact hbB | exact below_drew hbB)
        have Xa_34 := Xa_23.next hstep
        have Xb_35 := Xb_24.next hstep
        have R0_36 := R0_25.next hstep
        have R1_37 := R1_26.next hstep
        have V_38 := V_27.next hstep
        have L_39 := L_28.next hstep
        have Xx_40 := Xx_33.next hstep
        have Op_41 := Op_29.below hstep
        have Oq_42 := Oq_30.below hstep
        have Or_43 := Or_31.below hstep
        have hbel44 := hbel32.next hstep
        have hle44 := hbel44.size
        have hls44 := hstep.size
        clear Xa_23 Xb_24 R0_25 R1_26 V_27 L_28 Xx_33 Op_29 Oq_30 Or_31 hbel32 hstep
        have cXa0_44 : _ = some (Value.bool s) := Xa_34.cell 0
        have cXa1_44 : _ = some (Value.slice a n c) := Xa_34.cell 1
        have cXb0_44 : _ = some (Value.bool t) := Xb_35.cell 0
        have cXb1_44 : _ = some (Value.slice b m d) := Xb_35.cell 1
        have cR00_44 : _ = some (Value.bool false) := R0_36.cell 0
        have fR00_44 := R0_36.free 0
        have cR01_44 : _ = some (Value.slice none 0 0) := R0_36.cell 1
        have fR01_44 := R0_36.free 1
        have cR10_44 : _ = some (Value.bool false) := R1_37.cell 0
        have fR10_44 := R1_37.free 0
        have cR11_44 : _ = some (Value.slice none 0 0) := R1_37.cell 1
        have fR11_44 := R1_37.free 1
        have cV0_44 : World.cell? (((w101.alloc (.cells #[Value.bool (decide (r0 < 0)), Value.slice p pn pc, Value.bool (decide (x0 < 0)), Value.slice q qn qc, Value.bool (decide (y0 < 0)), Value.slice r rn rc] 118)).alloc (.cells #[Value.bool (decide (x0 < 0)), Value.slice q qn qc] 25)).alloc (.cells #[Value.bool (decide (y0 < 0)), Value.slice r rn rc] 25)) ⟨g, k * 6, none⟩ = some (Value.bool (decide (r0 < 0))) := V_38.cell0 0 (by decide)
        have cV1_44 : World.cell? (((w101.alloc (.cells #[Value.bool (decide (r0 < 0)), Value.slice p pn pc, Value.bool (decide (x0 < 0)), Value.slice q qn qc, Value.bool (decide (y0 < 0)), Value.slice r rn rc] 118)).alloc (.cells #[Value.bool (decide (x0 < 0)), Value.slice q qn qc] 25)).alloc (.cells #[Value.bool (decide (y0 < 0)), Value.slice r rn rc] 25)) ⟨g, k * 6 + 1, none⟩ = some (Value.slice p pn pc) := V_38.cell0 1 (by decide)
        have cV2_44 : World.cell? (((w101.alloc (.cells #[Value.bool (decide (r0 < 0)), Value.slice p pn pc, Value.bool (decide (x0 < 0)), Value.slice q qn qc, Value.bool (decide (y0 < 0)), Value.slice r rn rc] 118)).alloc (.cells #[Value.bool (decide (x0 < 0)), Value.slice q qn qc] 25)).alloc (.cells #[Value.bool (decide (y0 < 0)), Value.slice r rn rc] 25)) ⟨g, k * 6 + 2, none⟩ = some (Value.bool (decide (x0 < 0))) := V_38.cell0 2 (by decide)
        have cV3_44 : World.cell? (((w101.alloc (.cells #[Value.bool (decide (r0 < 0)), Value.slice p pn pc, Value.bool (decide (x0 < 0)), Value.slice q qn qc, Value.bool (decide (y0 < 0)), Value.slice r rn rc] 118)).alloc (.cells #[Value.bool (decide (x0 < 0)), Value.slice q qn qc] 25)).alloc (.cells #[Value.bool (decide (y0 < 0)), Value.slice r rn rc] 25)) ⟨g, k * 6 + 3, none⟩ = some (Value.slice q qn qc) := V_38.cell0 3 (by decide)
        have cV4_44 : World.cell? (((w101.alloc (.cells #[Value.bool (decide (r0 < 0)), Value.slice p pn pc, Value.bool (decide (x0 < 0)), Value.slice q qn qc, Value.bool (decide (y0 < 0)), Value.slice r rn rc] 118)).alloc (.cells #[Value.bool (decide (x0 < 0)), Value.slice q qn qc] 25)).alloc (.cells #[Value.bool (decide (y0 < 0)), Value.slice r rn rc] 25)) ⟨g, k * 6 + 4, none⟩ = some (Value.bool (decide (y0 < 0))) := V_38.cell0 4 (by decide)
        have cV5_44 : World.cell? (((w101.alloc (.cells #[Value.bool (decide (r0 < 0)), Value.slice p pn pc, Value.bool (decide (x0 < 0)), Value.slice q qn qc, Value.bool (decide (y0 < 0)), Value.slice r rn rc] 118)).alloc (.cells #[Value.bool (decide (x0 < 0)), Value.slice q qn qc] 25)).alloc (.cells #[Value.bool (decide (y0 < 0)), Value.slice r rn rc] 25)) ⟨g, k * 6 + 5, none⟩ = some (Value.slice r rn rc) := V_38.cell0 5 (by decide)
        have cV6_44 : World.cell? (((w101.alloc (.cells #[Value.bool (decide (r0 < 0)), Value.slice p pn pc, Value.bool (decide (x0 < 0)), Value.slice q qn qc, Value.bool (decide (y0 < 0)), Value.slice r rn rc] 118)).alloc (.cells #[Value.bool (decide (x0 < 0)), Value.slice q qn qc] 25)).alloc (.cells #[Value.bool (decide (y0 < 0)), Value.slice r rn rc] 25)) ⟨g, (k + 1) * 6, none⟩ = some (Value.bool (decide (r1 < 0))) := V_38.cell1 0 (by decide)
        have cV7_44 : World.cell? (((w101.alloc (.cells #[Value.bool (decide (r0 < 0)), Value.slice p pn pc, Value.bool (decide (x0 < 0)), Value.slice q qn qc, Value.bool (decide (y0 < 0)), Value.slice r rn rc] 118)).alloc (.cells #[Value.bool (decide (x0 < 0)), Value.slice q qn qc] 25)).alloc (.cells #[Value.bool (decide (y0 < 0)), Value.slice r rn rc] 25)) ⟨g, (k + 1) * 6 + 1, none⟩ = some (Value.slice p' p'n p'c) := V_38.cell1 1 (by decide)
        have cV8_44 : World.cell? (((w101.alloc (.cells #[Value.bool (decide (r0 < 0)), Value.slice p pn pc, Value.bool (decide (x0 < 0)), Value.slice q qn qc, Value.bool (decide (y0 < 0)), Value.slice r rn rc] 118)).alloc (.cells #[Value.bool (decide (x0 < 0)), Value.slice q qn qc] 25)).alloc (.cells #[Value.bool (decide (y0 < 0)), Value.slice r rn rc] 25)) ⟨g, (k + 1) * 6 + 2, none⟩ = some (Value.bool (decide (x1 < 0))) := V_38.cell1 2 (by decide)
        have cV9_44 : World.cell? (((w101.alloc (.cells #[Value.bool (decide (r0 < 0)), Value.slice p pn pc, Value.bool (decide (x0 < 0)), Value.slice q qn qc, Value.bool (decide (y0 < 0)), Value.slice r rn rc] 118)).alloc (.cells #[Value.bool (decide (x0 < 0)), Value.slice q qn qc] 25)).alloc (.cells #[Value.bool (decide (y0 < 0)), Value.slice r rn rc] 25)) ⟨g, (k + 1) * 6 + 3, none⟩ = some (Value.slice q' q'n q'c) := V_38.cell1 3 (by decide)
        have cV10_44 : World.cell? (((w101.alloc (.cells #[Value.bool (decide (r0 < 0)), Value.slice p pn pc, Value.bool (decide (x0 < 0)), Value.slice q qn qc, Value.bool (decide (y0 < 0)), Value.slice r rn rc] 118)).alloc (.cells #[Value.bool (decide (x0 < 0)), Value.slice q qn qc] 25)).alloc (.cells #[Value.bool (decide (y0 < 0)), Value.slice r rn rc] 25)) ⟨g, (k + 1) * 6 + 4, none⟩ = some (Value.bool (decide (y1 < 0))) := V_38.cell1 4 (by decide)
        have cV11_44 : World.cell? (((w101.alloc (.cells #[Value.bool (decide (r0 < 0)), Value.slice p pn pc, Value.bool (decide (x0 < 0)), Value.slice q qn qc, Value.bool (decide (y0 < 0)), Value.slice r rn rc] 118)).alloc (.cells #[Value.bool (decide (x0 < 0)), Value.slice q qn qc] 25)).alloc (.cells #[Value.bool (decide (y0 < 0)), Value.slice r rn rc] 25)) ⟨g, (k + 1) * 6 + 5, none⟩ = some (Value.slice r' r'n r'c) := V_38.cell1 5 (by decide)
        have cL0_44 : _ = some (Value.bool (decide (r0 < 0))) := L_39.cell 0
        have cL1_44 : _ = some (Value.slice p pn pc) := L_39.cell 1
        have cL2_44 : _ = some (Value.bool (decide (x0 < 0))) := L_39.cell 2
        have cL3_44 : _ = some (Value.slice q qn qc) := L_39.cell 3
        have cL4_44 : _ = some (Value.bool (decide (y0 < 0))) := L_39.cell 4
        have cL5_44 : _ = some (Value.slice r rn rc) := L_39.cell 5
        have cXx0_44 : _ = some (Value.bool (decide (x0 < 0))) := Xx_40.cell 0
        have fXx0_44 := Xx_40.free 0
        have cXx1_44 : _ = some (Value.slice q qn qc) := Xx_40.cell 1
        have fXx1_44 := Xx_40.free 1
        have Xy_45 := hbx
        have cXy0_45 : _ = some (Value.bool (decide (y0 < 0))) := Xy_45.cell 0
        have fXy0_45 := Xy_45.free 0
        have cXy1_45 : _ = some (Value.slice r rn rc) := Xy_45.cell 1
        have fXy1_45 := Xy_45.free 1
        clear hbx hbB
        go_wp2_with fail
        clear cXa0_12 cXa1_12 cXb0_12 cXb1_12 cR00_12 fR00_12 cR01_12 fR01_12 cR10_12 fR10_12 cR11_12 fR11_12 cV0_12 cV1_12 cV2_12 cV3_12 cV4_12 cV5_12 cV6_12 cV7_12 cV8_12 cV9_12 cV10_12 cV11_12 cXa0_21 cXa1_21 cXb0_21 cXb1_21 cR00_21 fR00_21 cR01_21 fR01_21 cR10_21 fR10_21 cR11_21 fR11_21 cV0_21 cV1_21 cV2_21 cV3_21 cV4_21 cV5_21 cV6_21 cV7_21 cV8_21 cV9_21 cV10_21 cV11_21 cL0_22 cL1_22 cL2_22 cL3_22 cL4_22 cL5_22 cXa0_32 cXa1_32 cXb0_32 cXb1_32 cR00_32 fR00_32 cR01_32 fR01_32 cR10_32 fR10_32 cR11_32 fR11_32 cV0_32 cV1_32 cV2_32 cV3_32 cV4_32 cV5_32 cV6_32 cV7_32 cV8_32 cV9_32 cV10_32 cV11_32 cL0_32 cL1_32 cL2_32 cL3_32 cL4_32 cL5_32 cXx0_33 fXx0_33 cXx1_33 fXx1_33
        generalize (((w101.alloc (.cells #[Value.bool (decide (r0 < 0)), Value.slice p pn pc, Value.bool (decide (x0 < 0)), Value.slice q qn qc, Value.bool (decide (y0 < 0)), Value.slice r rn rc] 118)).alloc (.cells #[Value.bool (decide (x0 < 0)), Value.slice q qn qc] 25)).alloc (.cells #[Value.bool (decide (y0 < 0)), Value.slice r rn rc] 25)) = v102 at *
        clear V_38
        have awpXx : Aw p (w101.heap.size + 1) := ltp.aw (by omega)
        have awpXy : Aw p (w101.heap.size + 1 + 1) := ltp.aw (by omega)
        have awqXx : Aw q (w101.heap.size + 1) := ltq.aw (by omega)
        have awqXy : Aw q (w101.heap.size + 1 + 1) := ltq.aw (by omega)
        have awrXx : Aw r (w101.heap.size + 1) := ltr.aw (by omega)
        have awrXy : Aw r (w101.heap.size + 1 + 1) := ltr.aw (by omega)
        go_wp2_with fail
        refine (HSA.out _ (show Rd _ a n c la from (ha.below hbel44))).mono ?_
        rintro e w105 ⟨rfl, hB⟩
        clear cXa0_44 cXa1_44 cXb0_44 cXb1_44 cR00_44 fR00_44 cR01_44 fR01_44 cR10_44 fR10_44 cR11_44 fR11_44 cV0_44 cV1_44 cV2_44 cV3_44 cV4_44 cV5_44 cV6_44 cV7_44 cV8_44 cV9_44 cV10_44 cV11_44 cL0_44 cL1_44 cL2_44 cL3_44 cL4_44 cL5_44 cXx0_44 fXx0_44 cXx1_44 fXx1_44 cXy0_45 fXy0_45 cXy1_45 fXy1_45
        have hstep : Below v102.heap.size v102 w105 := (by first | exact hB | exact below_drew hB)
        have Xa_46 := Xa_34.next hstep
        have Xb_47 := Xb_35.next hstep
        have R0_48 := R0_36.next hstep
        have R1_49 := R1_37.next hstep
        have L_50 := L_39.next hstep
        have Xx_51 := Xx_40.next hstep
        have Xy_52 := Xy_45.next hstep
        have Op_53 := Op_41.below hstep
        have Oq_54 := Oq_42.below hstep
        have Or_55 := Or_43.below hstep
        have hbel56 := hbel44.next hstep
        have hle56 := hbel56.size
        have hls56 := hstep.size
        clear Xa_34 Xb_35 R0_36 R1_37 L_39 Xx_40 Xy_45 Op_41 Oq_42 Or_43 hbel44 hstep
        have cXa0_56 : _ = some (Value.bool s) := Xa_46.cell 0
        have cXa1_56 : _ = some (Value.slice a n c) := Xa_46.cell 1
        have cXb0_56 : _ = some (Value.bool t) := Xb_47.cell 0
        have cXb1_56 : _ = some (Value.slice b m d) := Xb_47.cell 1
        have cR00_56 : _ = some (Value.bool false) := R0_48.cell 0
        have fR00_56 := R0_48.free 0
        have cR01_56 : _ = some (Value.slice none 0 0) := R0_48.cell 1
        have fR01_56 := R0_48.free 1
        have cR10_56 : _ = some (Value.bool false) := R1_49.cell 0
        have fR10_56 := R1_49.free 0
        have cR11_56 : _ = some (Value.slice none 0 0) := R1_49.cell 1
        have fR11_56 := R1_49.free 1
        have cL0_56 : _ = some (Value.bool (decide (r0 < 0))) := L_50.cell 0
        have cL1_56 : _ = some (Value.slice p pn pc) := L_50.cell 1
        have cL2_56 : _ = some (Value.bool (decide (x0 < 0))) := L_50.cell 2
        have cL3_56 : _ = some (Value.slice q qn qc) := L_50.cell 3
        have cL4_56 : _ = some (Value.bool (decide (y0 < 0))) := L_50.cell 4
        have cL5_56 : _ = some (Value.slice r rn rc) := L_50.cell 5
        have cXx0_56 : _ = some (Value.bool (decide (x0 < 0))) := Xx_51.cell 0
        have fXx0_56 := Xx_51.free 0
        have cXx1_56 : _ = some (Value.slice q qn qc) := Xx_51.cell 1
        have fXx1_56 := Xx_51.free 1
        have cXy0_56 : _ = some (Value.bool (decide (y0 < 0))) := Xy_52.cell 0
        have fXy0_56 := Xy_52.free 0
        have cXy1_56 : _ = some (Value.slice r rn rc) := Xy_52.cell 1
        have fXy1_56 := Xy_52.free 1
        go_wp2_with fail
        refine (HSB.out _ (show Rd _ b m d lb from (hb.below hbel56))).mono ?_
        rintro e w106 ⟨rfl, hB⟩
        clear cXa0_56 cXa1_56 cXb0_56 cXb1_56 cR00_56 fR00_56 cR01_56 fR01_56 cR10_56 fR10_56 cR11_56 fR11_56 cL0_56 cL1_56 cL2_56 cL3_56 cL4_56 cL5_56 cXx0_56 fXx0_56 cXx1_56 fXx1_56 cXy0_56 fXy0_56 cXy1_56 fXy1_56
        have hstep : Below w105.heap.size w105 w106 := (by first | exact hB | exact below_drew hB)
        have Xa_57 := Xa_46.next hstep
        have Xb_58 := Xb_47.next hstep
        have R0_59 := R0_48.next hstep
        have R1_60 := R1_49.next hstep
        have L_61 := L_50.next hstep
        have Xx_62 := Xx_51.next hstep
        have Xy_63 := Xy_52.next hstep
        have Op_64 := Op_53.below hstep
        have Oq_65 := Oq_54.below hstep
        have Or_66 := Or_55.below hstep
        have hbel67 := hbel56.next hstep
        have hle67 := hbel67.size
        have hls67 := hstep.size
        clear Xa_46 Xb_47 R0_48 R1_49 L_50 Xx_51 Xy_52 Op_53 Oq_54 Or_55 hbel56 hstep
        have cXa0_67 : _ = some (Value.bool s) := Xa_57.cell 0
        have cXa1_67 : _ = some (Value.slice a n c) := Xa_57.cell 1
        have cXb0_67 : _ = some (Value.bool t) := Xb_58.cell 0
        have cXb1_67 : _ = some (Value.slice b m d) := Xb_58.cell 1
        have cR00_67 : _ = some (Value.bool false) := R0_59.cell 0
        have fR00_67 := R0_59.free 0
        have cR01_67 : _ = some (Value.slice none 0 0) := R0_59.cell 1
        have fR01_67 := R0_59.free 1
        have cR10_67 : _ = some (Value.bool false) := R1_60.cell 0
        have fR10_67 := R1_60.free 0
        have cR11_67 : _ = some (Value.slice none 0 0) := R1_60.cell 1
        have fR11_67 := R1_60.free 1
        have cL0_67 : _ = some (Value.bool (decide (r0 < 0))) := L_61.cell 0
        have cL1_67 : _ = some (Value.slice p pn pc) := L_61.cell 1
        have cL2_67 : _ = some (Value.bool (decide (x0 < 0))) := L_61.cell 2
        have cL3_67 : _ = some (Value.slice q qn qc) := L_61.cell 3
        have cL4_67 : _ = some (Value.bool (decide (y0 < 0))) := L_61.cell 4
        have cL5_67 : _ = some (Value.slice r rn rc) := L_61.cell 5
        have cXx0_67 : _ = some (Value.bool (decide (x0 < 0))) := Xx_62.cell 0
        have fXx0_67 := Xx_62.free 0
        have cXx1_67 : _ = some (Value.slice q qn qc) := Xx_62.cell 1
        have fXx1_67 := Xx_62.free 1
        have cXy0_67 : _ = some (Value.bool (decide (y0 < 0))) := Xy_63.cell 0
        have fXy0_67 := Xy_63.free 0
        have cXy1_67 : _ = some (Value.slice r rn rc) := Xy_63.cell 1
        have fXy1_67 := Xy_63.free 1
        go_wp2_with fail
        go_region
        have awpR0 : Aw p (w.heap.size + 1 + 1) := (Op_64.mono (B' := W0.heap.size) (by omega)).awNew (by omega)
        have awqR0 : Aw q (w.heap.size + 1 + 1) := (Oq_65.mono (B' := W0.heap.size) (by omega)).awNew (by omega)
        have awrR0 : Aw r (w.heap.size + 1 + 1) := (Or_66.mono (B' := W0.heap.size) (by omega)).awNew (by omega)
        have awpR1 : Aw p (w.heap.size + 1 + 1 + 1) := (Op_64.mono (B' := W0.heap.size) (by omega)).awNew (by omega)
        have awqR1 : Aw q (w.heap.size + 1 + 1 + 1) := (Oq_65.mono (B' := W0.heap.size) (by omega)).awNew (by omega)
        have awrR1 : Aw r (w.heap.size + 1 + 1 + 1) := (Or_66.mono (B' := W0.heap.size) (by omega)).awNew (by omega)
        clear cXa0_67 cXa1_67 cXb0_67 cXb1_67 cR00_67 fR00_67 cR01_67 fR01_67 cR10_67 fR10_67 cR11_67 fR11_67 cL0_67 cL1_67 cL2_67 cL3_67 cL4_67 cL5_67 cXx0_67 fXx0_67 cXx1_67 fXx1_67 cXy0_67 fXy0_67 cXy1_67 fXy1_67
        have hkp : Kp (fun k => k = w.heap.size + 1 + 1) w106 ((w106.setCell ⟨w.heap.size + 1 + 1, 0, none⟩ (Value.bool (decide (x0 < 0)))).setCell ⟨w.heap.size + 1 + 1, 1, none⟩ (Value.slice q qn qc)) := ((Kp.refl (fun k => k = w.heap.size + 1 + 1) w106).setCell rfl (Value.bool (decide (x0 < 0)))).setCell rfl (Value.slice q qn qc)
        have R0_68 := (show Blk _ _ #[Value.bool (decide (x0 < 0)), Value.slice q qn qc] from ((R0_59).setCell (i := 0) (v := Value.bool (decide (x0 < 0))) (by simp)).setCell (i := 1) (v := Value.slice q qn qc) (by simp))
        have Xa_69 := Xa_57.kp hkp (show ¬ (w.heap.size = w.heap.size + 1 + 1) by omega)
        have Xb_70 := Xb_58.kp hkp (show ¬ (w.heap.size + 1 = w.heap.size + 1 + 1) by omega)
        have R1_71 := R1_60.kp hkp (show ¬ (w.heap.size + 1 + 1 + 1 = w.heap.size + 1 + 1) by omega)
        have L_72 := L_61.kp hkp (show ¬ (w101.heap.size = w.heap.size + 1 + 1) by omega)
        have Xx_73 := Xx_62.kp hkp (show ¬ (w101.heap.size + 1 = w.heap.size + 1 + 1) by omega)
        have Xy_74 := Xy_63.kp hkp (show ¬ (w101.heap.size + 1 + 1 = w.heap.size + 1 + 1) by omega)
        have Op_75 := Op_64.kp hkp (fun g' e => awpR0 g' e)
        have Oq_76 := Oq_65.kp hkp (fun g' e => awqR0 g' e)
        have Or_77 := Or_66.kp hkp (fun g' e => awrR0 g' e)
        have hbel78 := hbel67.kp hkp (hbel67).size (fun k hk => (show ¬ (k = w.heap.size + 1 + 1) by omega))
        have hse78 := hkp.size
        clear Xa_57 Xb_58 R0_59 R1_60 L_61 Xx_62 Xy_63 Op_64 Oq_65 Or_66 hbel67 hkp
        generalize ((w106.setCell ⟨w.heap.size + 1 + 1, 0, none⟩ (Value.bool (decide (x0 < 0)))).setCell ⟨w.heap.size + 1 + 1, 1, none⟩ (Value.slice q qn qc)) = v107 at *
        have cXa0_78 : _ = some (Value.bool s) := Xa_69.cell 0
        have cXa1_78 : _ = some (Value.slice a n c) := Xa_69.cell 1
        have cXb0_78 : _ = some (Value.bool t) := Xb_70.cell 0
        have cXb1_78 : _ = some (Value.slice b m d) := Xb_70.cell 1
        have cR00_78 : _ = some (Value.bool (decide (x0 < 0))) := R0_68.cell 0
        have fR00_78 := R0_68.free 0
        have cR01_78 : _ = some (Value.slice q qn qc) := R0_68.cell 1
        have fR01_78 := R0_68.free 1
        have cR10_78 : _ = some (Value.bool false) := R1_71.cell 0
        have fR10_78 := R1_71.free 0
        have cR11_78 : _ = some (Value.slice none 0 0) := R1_71.cell 1
        have fR11_78 := R1_71.free 1
        have cL0_78 : _ = some (Value.bool (decide (r0 < 0))) := L_72.cell 0
        have cL1_78 : _ = some (Value.slice p pn pc) := L_72.cell 1
        have cL2_78 : _ = some (Value.bool (decide (x0 < 0))) := L_72.cell 2
        have cL3_78 : _ = some (Value.slice q qn qc) := L_72.cell 3
        have cL4_78 : _ = some (Value.bool (decide (y0 < 0))) := L_72.cell 4
        have cL5_78 : _ = some (Value.slice r rn rc) := L_72.cell 5
        have cXx0_78 : _ = some (Value.bool (decide (x0 < 0))) := Xx_73.cell 0
        have fXx0_78 := Xx_73.free 0
        have cXx1_78 : _ = some (Value.slice q qn qc) := Xx_73.cell 1
        have fXx1_78 := Xx_73.free 1
        have cXy0_78 : _ = some (Value.bool (decide (y0 < 0))) := Xy_74.cell 0
        have fXy0_78 := Xy_74.free 0
        have cXy1_78 : _ = some (Value.slice r rn rc) := Xy_74.cell 1
        have fXy1_78 := Xy_74.free 1
        clear cXa0_78 cXa1_78 cXb0_78 cXb1_78 cR00_78 fR00_78 cR01_78 fR01_78 cR10_78 fR10_78 cR11_78 fR11_78 cL0_78 cL1_78 cL2_78 cL3_78 cL4_78 cL5_78 cXx0_78 fXx0_78 cXx1_78 fXx1_78 cXy0_78 fXy0_78 cXy1_78 fXy1_78
        have hkp : Kp (fun k => k = w.heap.size + 1 + 1 + 1) v107 ((v107.setCell ⟨w.heap.size + 1 + 1 + 1, 0, none⟩ (Value.bool (decide (y0 < 0)))).setCell ⟨w.heap.size + 1 + 1 + 1, 1, none⟩ (Value.slice r rn rc)) := ((Kp.refl (fun k => k = w.heap.size + 1 + 1 + 1) v107).setCell rfl (Value.bool (decide (y0 < 0)))).setCell rfl (Value.slice r rn rc)
        have R1_79 := (show Blk _ _ #[Value.bool (decide (y0 < 0)), Value.slice r rn rc] from ((R1_71).setCell (i := 0) (v := Value.bool (decide (y0 < 0))) (by simp)).setCell (i := 1) (v := Value.slice r rn rc) (by simp))
        have Xa_80 := Xa_69.kp hkp (show ¬ (w.heap.size = w.heap.size + 1 + 1 + 1) by omega)
        have Xb_81 := Xb_70.kp hkp (show ¬ (w.heap.size + 1 = w.heap.size + 1 + 1 + 1) by omega)
        have R0_82 := R0_68.kp hkp (show ¬ (w.heap.size + 1 + 1 = w.heap.size + 1 + 1 + 1) by omega)
        have L_83 := L_72.kp hkp (show ¬ (w101.heap.size = w.heap.size + 1 + 1 + 1) by omega)
        have Xx_84 := Xx_73.kp hkp (show ¬ (w101.heap.size + 1 = w.heap.size + 1 + 1 + 1) by omega)
        have Xy_85 := Xy_74.kp hkp (show ¬ (w101.heap.size + 1 + 1 = w.heap.size + 1 + 1 + 1) by omega)
        have Op_86 := Op_75.kp hkp (fun g' e => awpR1 g' e)
        have Oq_87 := Oq_76.kp hkp (fun g' e => awqR1 g' e)
        have Or_88 := Or_77.kp hkp (fun g' e => awrR1 g' e)
        have hbel89 := hbel78.kp hkp (hbel78).size (fun k hk => (show ¬ (k = w.heap.size + 1 + 1 + 1) by omega))
        have hse89 := hkp.size
        clear Xa_69 Xb_70 R0_68 R1_71 L_72 Xx_73 Xy_74 Op_75 Oq_76 Or_77 hbel78 hkp
        generalize ((v107.setCell ⟨w.heap.size + 1 + 1 + 1, 0, none⟩ (Value.bool (decide (y0 < 0)))).setCell ⟨w.heap.size + 1 + 1 + 1, 1, none⟩ (Value.slice r rn rc)) = v108 at *
        have cXa0_89 : _ = some (Value.bool s) := Xa_80.cell 0
        have cXa1_89 : _ = some (Value.slice a n c) := Xa_80.cell 1
        have cXb0_89 : _ = some (Value.bool t) := Xb_81.cell 0
        have cXb1_89 : _ = some (Value.slice b m d) := Xb_81.cell 1
        have cR00_89 : _ = some (Value.bool (decide (x0 < 0))) := R0_82.cell 0
        have fR00_89 := R0_82.free 0
        have cR01_89 : _ = some (Value.slice q qn qc) := R0_82.cell 1
        have fR01_89 := R0_82.free 1
        have cR10_89 : _ = some (Value.bool (decide (y0 < 0))) := R1_79.cell 0
        have fR10_89 := R1_79.free 0
        have cR11_89 : _ = some (Value.slice r rn rc) := R1_79.cell 1
        have fR11_89 := R1_79.free 1
        have cL0_89 : _ = some (Value.bool (decide (r0 < 0))) := L_83.cell 0
        have cL1_89 : _ = some (Value.slice p pn pc) := L_83.cell 1
        have cL2_89 : _ = some (Value.bool (decide (x0 < 0))) := L_83.cell 2
        have cL3_89 : _ = some (Value.slice q qn qc) := L_83.cell 3
        have cL4_89 : _ = some (Value.bool (decide (y0 < 0))) := L_83.cell 4
        have cL5_89 : _ = some (Value.slice r rn rc) := L_83.cell 5
        have cXx0_89 : _ = some (Value.bool (decide (x0 < 0))) := Xx_84.cell 0
        have fXx0_89 := Xx_84.free 0
        have cXx1_89 : _ = some (Value.slice q qn qc) := Xx_84.cell 1
        have fXx1_89 := Xx_84.free 1
        have cXy0_89 : _ = some (Value.bool (decide (y0 < 0))) := Xy_85.cell 0
        have fXy0_89 := Xy_85.free 0
        have cXy1_89 : _ = some (Value.slice r rn rc) := Xy_85.cell 1
        have fXy1_89 := Xy_85.free 1
        go_wp2
        refine bodyPost_ret (v := .tuple #[.slice p pn pc, .agg #[.bool (decide (x0 < 0)), .slice q qn qc], .agg #[.bool (decide (y0 < 0)), .slice r rn rc]]) (by simp [results, Try.results62, go_sem, cR00_89, cR01_89, cR10_89, cR11_89]) rfl ?_
        rw [← E1.out, ← E2.out, ← E3.out, HBA.out, HBB.out]
        exact ⟨p, pn, pc, q, qn, qc, r, rn, rc, rfl, Op_86.mono (by omega), Oq_87.mono (by omega), Or_88.mono (by omega), dfpq, dfpr, dfqr, ⟨hbel89.os, hbel89.tape, hbel89.output, hbel89.size, hbel89.block⟩⟩
    · skip
      go_wp2_with fail
      refine (rzsignI1 Op'_0.rd (by omega) hr1p.out).mono ?_
      rintro e w101 ⟨rfl, hB⟩
      clear cXa0_0 cXa1_0 cXb0_0 cXb1_0 cR00_0 fR00_0 cR01_0 fR01_0 cR10_0 fR10_0 cR11_0 fR11_0 cV0_0 cV1_0 cV2_0 cV3_0 cV4_0 cV5_0 cV6_0 cV7_0 cV8_0 cV9_0 cV10_0 cV11_0
      have hstep : Below wr.heap.size wr w101 := (by first | exact hB | exact below_drew hB)
      have Xa_1 := Xa_0.next hstep
      have Xb_2 := Xb_0.next hstep
      have R0_3 := R0_0.next hstep
      have R1_4 := R1_0.next hstep
      have V_5 := V_0.next hstep
      have Op_6 := Op_0.below hstep
      have Oq_7 := Oq_0.below hstep
      have Or_8 := Or_0.below hstep
      have Op'_9 := Op'_0.below hstep
      have Oq'_10 := Oq'_0.below hstep
      have Or'_11 := Or'_0.below hstep
      have hbel12 := hbel0.next hstep
      have hle12 := hbel12.size
      have hls12 := hstep.size
      clear Xa_0 Xb_0 R0_0 R1_0 V_0 Op_0 Oq_0 Or_0 Op'_0 Oq'_0 Or'_0 hbel0 hstep
      have cXa0_12 : _ = some (Value.bool s) := Xa_1.cell 0
      have cXa1_12 : _ = some (Value.slice a n c) := Xa_1.cell 1
      have cXb0_12 : _ = some (Value.bool t) := Xb_2.cell 0
      have cXb1_12 : _ = some (Value.slice b m d) := Xb_2.cell 1
      have cR00_12 : _ = some (Value.bool false) := R0_3.cell 0
      have fR00_12 := R0_3.free 0
      have cR01_12 : _ = some (Value.slice none 0 0) := R0_3.cell 1
      have fR01_12 := R0_3.free 1
      have cR10_12 : _ = some (Value.bool false) := R1_4.cell 0
      have fR10_12 := R1_4.free 0
      have cR11_12 : _ = some (Value.slice none 0 0) := R1_4.cell 1
      have fR11_12 := R1_4.free 1
      have cV0_12 : World.cell? w101 ⟨g, k * 6, none⟩ = some (Value.bool (decide (r0 < 0))) := V_5.cell0 0 (by decide)
      have cV1_12 : World.cell? w101 ⟨g, k * 6 + 1, none⟩ = some (Value.slice p pn pc) := V_5.cell0 1 (by decide)
      have cV2_12 : World.cell? w101 ⟨g, k * 6 + 2, none⟩ = some (Value.bool (decide (x0 < 0))) := V_5.cell0 2 (by decide)
      have cV3_12 : World.cell? w101 ⟨g, k * 6 + 3, none⟩ = some (Value.slice q qn qc) := V_5.cell0 3 (by decide)
      have cV4_12 : World.cell? w101 ⟨g, k * 6 + 4, none⟩ = some (Value.bool (decide (y0 < 0))) := V_5.cell0 4 (by decide)
      have cV5_12 : World.cell? w101 ⟨g, k * 6 + 5, none⟩ = some (Value.slice r rn rc) := V_5.cell0 5 (by decide)
      have cV6_12 : World.cell? w101 ⟨g, (k + 1) * 6, none⟩ = some (Value.bool (decide (r1 < 0))) := V_5.cell1 0 (by decide)
      have cV7_12 : World.cell? w101 ⟨g, (k + 1) * 6 + 1, none⟩ = some (Value.slice p' p'n p'c) := V_5.cell1 1 (by decide)
      have cV8_12 : World.cell? w101 ⟨g, (k + 1) * 6 + 2, none⟩ = some (Value.bool (decide (x1 < 0))) := V_5.cell1 2 (by decide)
      have cV9_12 : World.cell? w101 ⟨g, (k + 1) * 6 + 3, none⟩ = some (Value.slice q' q'n q'c) := V_5.cell1 3 (by decide)
      have cV10_12 : World.cell? w101 ⟨g, (k + 1) * 6 + 4, none⟩ = some (Value.bool (decide (y1 < 0))) := V_5.cell1 4 (by decide)
      have cV11_12 : World.cell? w101 ⟨g, (k + 1) * 6 + 5, none⟩ = some (Value.slice r' r'n r'c) := V_5.cell1 5 (by decide)
      obtain ⟨t0, ht0⟩ : ∃ t0 : Int, t0 = ((r0.natAbs / r1.natAbs : Nat) : Int) := ⟨_, rfl⟩
      obtain ⟨t1, ht1⟩ : ∃ t1 : Int, t1 = ((r0.natAbs % r1.natAbs : Nat) : Int) := ⟨_, rfl⟩
      have HT0 := hid ht0
      have HT1 := hid ht1
      clear ht0 ht1
      have HI' := hid (HI.out.step (show r1 ≠ 0 by have := hr1p.out; omega) HT0.out)
      have HP := hid (HI.out.prods (show r1 ≠ 0 by have := hr1p.out; omega) HT0.out)
      have HC' := hid (HC.out.step (show r1.natAbs ≠ 0 by have := hr1p.out; omega))
      have hbx := blk_new' w101 #[Value.bool (decide (r0 < 0)), Value.slice p pn pc, Value.bool (decide (x0 < 0)), Value.slice q qn qc, Value.bool (decide (y0 < 0)), Value.slice r rn rc] 118 (g := w101.heap.size) (by simp)
      have hbB := (Below.refl w101.heap.size w101).alloc (Nat.le_refl _) (.cells #[Value.bool (decide (r0 < 0)), Value.slice p pn pc, Value.bool (decide (x0 < 0)), Value.slice q qn qc, Value.bool (decide (y0 < 0)), Value.slice r rn rc] 118)
      have hbg := hbx.lt
      have hstep : Below w101.heap.size w101 (w101.alloc (.cells #[Value.bool (decide (r0 < 0)), Value.slice p pn pc, Value.bool (decide (x0 < 0)), Value.slice q qn qc, Value.bool (decide (y0 < 0)), Value.slice r rn rc] 118)) := (by first | exact hbB | exact below_drew hbB)
      have Xa_13 := Xa_1.next hstep
      have Xb_14 := Xb_2.next hstep
      have R0_15 := R0_3.next hstep
      have R1_16 := R1_4.next hstep
      have V_17 := V_5.next hstep
      have Op_18 := Op_6.below hstep
      have Oq_19 := Oq_7.below hstep
      have Or_20 := Or_8.below hstep
      have Op'_21 := Op'_9.below hstep
      have Oq'_22 := Oq'_10.below hstep
      have Or'_23 := Or'_11.below hstep
      have hbel24 := hbel12.next hstep
      have hle24 := hbel24.size
      have hls24 := hstep.size
      clear Xa_1 Xb_2 R0_3 R1_4 V_5 Op_6 Oq_7 Or_8 Op'_9 Oq'_10 Or'_11 hbel12 hstep
      have cXa0_24 : _ = some (Value.bool s) := Xa_13.cell 0
      have cXa1_24 : _ = some (Value.slice a n c) := Xa_13.cell 1
      have cXb0_24 : _ = some (Value.bool t) := Xb_14.cell 0
      have cXb1_24 : _ = some (Value.slice b m d) := Xb_14.cell 1
      have cR00_24 : _ = some (Value.bool false) := R0_15.cell 0
      have fR00_24 := R0_15.free 0
      have cR01_24 : _ = some (Value.slice none 0 0) := R0_15.cell 1
      have fR01_24 := R0_15.free 1
      have cR10_24 : _ = some (Value.bool false) := R1_16.cell 0
      have fR10_24 := R1_16.free 0
      have cR11_24 : _ = some (Value.slice none 0 0) := R1_16.cell 1
      have fR11_24 := R1_16.free 1
      have cV0_24 : World.cell? (w101.alloc (.cells #[Value.bool (decide (r0 < 0)), Value.slice p pn pc, Value.bool (decide (x0 < 0)), Value.slice q qn qc, Value.bool (decide (y0 < 0)), Value.slice r rn rc] 118)) ⟨g, k * 6, none⟩ = some (Value.bool (decide (r0 < 0))) := V_17.cell0 0 (by decide)
      have cV1_24 : World.cell? (w101.alloc (.cells #[Value.bool (decide (r0 < 0)), Value.slice p pn pc, Value.bool (decide (x0 < 0)), Value.slice q qn qc, Value.bool (decide (y0 < 0)), Value.slice r rn rc] 118)) ⟨g, k * 6 + 1, none⟩ = some (Value.slice p pn pc) := V_17.cell0 1 (by decide)
      have cV2_24 : World.cell? (w101.alloc (.cells #[Value.bool (decide (r0 < 0)), Value.slice p pn pc, Value.bool (decide (x0 < 0)), Value.slice q qn qc, Value.bool (decide (y0 < 0)), Value.slice r rn rc] 118)) ⟨g, k * 6 + 2, none⟩ = some (Value.bool (decide (x0 < 0))) := V_17.cell0 2 (by decide)
      have cV3_24 : World.cell? (w101.alloc (.cells #[Value.bool (decide (r0 < 0)), Value.slice p pn pc, Value.bool (decide (x0 < 0)), Value.slice q qn qc, Value.bool (decide (y0 < 0)), Value.slice r rn rc] 118)) ⟨g, k * 6 + 3, none⟩ = some (Value.slice q qn qc) := V_17.cell0 3 (by decide)
      have cV4_24 : World.cell? (w101.alloc (.cells #[Value.bool (decide (r0 < 0)), Value.slice p pn pc, Value.bool (decide (x0 < 0)), Value.slice q qn qc, Value.bool (decide (y0 < 0)), Value.slice r rn rc] 118)) ⟨g, k * 6 + 4, none⟩ = some (Value.bool (decide (y0 < 0))) := V_17.cell0 4 (by decide)
      have cV5_24 : World.cell? (w101.alloc (.cells #[Value.bool (decide (r0 < 0)), Value.slice p pn pc, Value.bool (decide (x0 < 0)), Value.slice q qn qc, Value.bool (decide (y0 < 0)), Value.slice r rn rc] 118)) ⟨g, k * 6 + 5, none⟩ = some (Value.slice r rn rc) := V_17.cell0 5 (by decide)
      have cV6_24 : World.cell? (w101.alloc (.cells #[Value.bool (decide (r0 < 0)), Value.slice p pn pc, Value.bool (decide (x0 < 0)), Value.slice q qn qc, Value.bool (decide (y0 < 0)), Value.slice r rn rc] 118)) ⟨g, (k + 1) * 6, none⟩ = some (Value.bool (decide (r1 < 0))) := V_17.cell1 0 (by decide)
      have cV7_24 : World.cell? (w101.alloc (.cells #[Value.bool (decide (r0 < 0)), Value.slice p pn pc, Value.bool (decide (x0 < 0)), Value.slice q qn qc, Value.bool (decide (y0 < 0)), Value.slice r rn rc] 118)) ⟨g, (k + 1) * 6 + 1, none⟩ = some (Value.slice p' p'n p'c) := V_17.cell1 1 (by decide)
      have cV8_24 : World.cell? (w101.alloc (.cells #[Value.bool (decide (r0 < 0)), Value.slice p pn pc, Value.bool (decide (x0 < 0)), Value.slice q qn qc, Value.bool (decide (y0 < 0)), Value.slice r rn rc] 118)) ⟨g, (k + 1) * 6 + 2, none⟩ = some (Value.bool (decide (x1 < 0))) := V_17.cell1 2 (by decide)
      have cV9_24 : World.cell? (w101.alloc (.cells #[Value.bool (decide (r0 < 0)), Value.slice p pn pc, Value.bool (decide (x0 < 0)), Value.slice q qn qc, Value.bool (decide (y0 < 0)), Value.slice r rn rc] 118)) ⟨g, (k + 1) * 6 + 3, none⟩ = some (Value.slice q' q'n q'c) := V_17.cell1 3 (by decide)
      have cV10_24 : World.cell? (w101.alloc (.cells #[Value.bool (decide (r0 < 0)), Value.slice p pn pc, Value.bool (decide (x0 < 0)), Value.slice q qn qc, Value.bool (decide (y0 < 0)), Value.slice r rn rc] 118)) ⟨g, (k + 1) * 6 + 4, none⟩ = some (Value.bool (decide (y1 < 0))) := V_17.cell1 4 (by decide)
      have cV11_24 : World.cell? (w101.alloc (.cells #[Value.bool (decide (r0 < 0)), Value.slice p pn pc, Value.bool (decide (x0 < 0)), Value.slice q qn qc, Value.bool (decide (y0 < 0)), Value.slice r rn rc] 118)) ⟨g, (k + 1) * 6 + 5, none⟩ = some (Value.slice r' r'n r'c) := V_17.cell1 5 (by decide)
      have U0_25 := hbx
      have cU00_25 : _ = some (Value.bool (decide (r0 < 0))) := U0_25.cell 0
      have cU01_25 : _ = some (Value.slice p pn pc) := U0_25.cell 1
      have cU02_25 : _ = some (Value.bool (decide (x0 < 0))) := U0_25.cell 2
      have cU03_25 : _ = some (Value.slice q qn qc) := U0_25.cell 3
      have cU04_25 : _ = some (Value.bool (decide (y0 < 0))) := U0_25.cell 4
      have cU05_25 : _ = some (Value.slice r rn rc) := U0_25.cell 5
      clear hbx hbB
      have hbx := blk_new' (w101.alloc (.cells #[Value.bool (decide (r0 < 0)), Value.slice p pn pc, Value.bool (decide (x0 < 0)), Value.slice q qn qc, Value.bool (decide (y0 < 0)), Value.slice r rn rc] 118)) #[Value.bool (decide (r1 < 0)), Value.slice p' p'n p'c, Value.bool (decide (x1 < 0)), Value.slice q' q'n q'c, Value.bool (decide (y1 < 0)), Value.slice r' r'n r'c] 118 (g := w101.heap.size + 1) (by simp)
      have hbB := (Below.refl (w101.alloc (.cells #[Value.bool (decide (r0 < 0)), Value.slice p pn pc, Value.bool (decide (x0 < 0)), Value.slice q qn qc, Value.bool (decide (y0 < 0)), Value.slice r rn rc] 118)).heap.size (w101.alloc (.cells #[Value.bool (decide (r0 < 0)), Value.slice p pn pc, Value.bool (decide (x0 < 0)), Value.slice q qn qc, Value.bool (decide (y0 < 0)), Value.slice r rn rc] 118))).alloc (Nat.le_refl _) (.cells #[Value.bool (decide (r1 < 0)), Value.slice p' p'n p'c, Value.bool (decide (x1 < 0)), Value.slice q' q'n q'c, Value.bool (decide (y1 < 0)), Value.slice r' r'n r'c] 118)
      have hbg := hbx.lt
      have hstep : Below (w101.alloc (.cells #[Value.bool (decide (r0 < 0)), Value.slice p pn pc, Value.bool (decide (x0 < 0)), Value.slice q qn qc, Value.bool (decide (y0 < 0)), Value.slice r rn rc] 118)).heap.size (w101.alloc (.cells #[Value.bool (decide (r0 < 0)), Value.slice p pn pc, Value.bool (decide (x0 < 0)), Value.slice q qn qc, Value.bool (decide (y0 < 0)), Value.slice r rn rc] 118)) ((w101.alloc (.cells #[Value.bool (decide (r0 < 0)), Value.slice p pn pc, Value.bool (decide (x0 < 0)), Value.slice q qn qc, Value.bool (decide (y0 < 0)), Value.slice r rn rc] 118)).alloc (.cells #[Value.bool (decide (r1 < 0)), Value.slice p' p'n p'c, Value.bool (decide (x1 < 0)), Value.slice q' q'n q'c, Value.bool (decide (y1 < 0)), Value.slice r' r'n r'c] 118)) := (by first | exact hbB | exact below_drew hbB)
      have Xa_26 := Xa_13.next hstep
      have Xb_27 := Xb_14.next hstep
      have R0_28 := R0_15.next hstep
      have R1_29 := R1_16.next hstep
      have V_30 := V_17.next hstep
      have U0_31 := U0_25.next hstep
      have Op_32 := Op_18.below hstep
      have Oq_33 := Oq_19.below hstep
      have Or_34 := Or_20.below hstep
      have Op'_35 := Op'_21.below hstep
      have Oq'_36 := Oq'_22.below hstep
      have Or'_37 := Or'_23.below hstep
      have hbel38 := hbel24.next hstep
      have hle38 := hbel38.size
      have hls38 := hstep.size
      clear Xa_13 Xb_14 R0_15 R1_16 V_17 U0_25 Op_18 Oq_19 Or_20 Op'_21 Oq'_22 Or'_23 hbel24 hstep
      have cXa0_38 : _ = some (Value.bool s) := Xa_26.cell 0
      have cXa1_38 : _ = some (Value.slice a n c) := Xa_26.cell 1
      have cXb0_38 : _ = some (Value.bool t) := Xb_27.cell 0
      have cXb1_38 : _ = some (Value.slice b m d) := Xb_27.cell 1
      have cR00_38 : _ = some (Value.bool false) := R0_28.cell 0
      have fR00_38 := R0_28.free 0
      have cR01_38 : _ = some (Value.slice none 0 0) := R0_28.cell 1
      have fR01_38 := R0_28.free 1
      have cR10_38 : _ = some (Value.bool false) := R1_29.cell 0
      have fR10_38 := R1_29.free 0
      have cR11_38 : _ = some (Value.slice none 0 0) := R1_29.cell 1
      have fR11_38 := R1_29.free 1
      have cV0_38 : World.cell? ((w101.alloc (.cells #[Value.bool (decide (r0 < 0)), Value.slice p pn pc, Value.bool (decide (x0 < 0)), Value.slice q qn qc, Value.bool (decide (y0 < 0)), Value.slice r rn rc] 118)).alloc (.cells #[Value.bool (decide (r1 < 0)), Value.slice p' p'n p'c, Value.bool (decide (x1 < 0)), Value.slice q' q'n q'c, Value.bool (decide (y1 < 0)), Value.slice r' r'n r'c] 118)) ⟨g, k * 6, none⟩ = some (Value.bool (decide (r0 < 0))) := V_30.cell0 0 (by decide)
      have cV1_38 : World.cell? ((w101.alloc (.cells #[Value.bool (decide (r0 < 0)), Value.slice p pn pc, Value.bool (decide (x0 < 0)), Value.slice q qn qc, Value.bool (decide (y0 < 0)), Value.slice r rn rc] 118)).alloc (.cells #[Value.bool (decide (r1 < 0)), Value.slice p' p'n p'c, Value.bool (decide (x1 < 0)), Value.slice q' q'n q'c, Value.bool (decide (y1 < 0)), Value.slice r' r'n r'c] 118)) ⟨g, k * 6 + 1, none⟩ = some (Value.slice p pn pc) := V_30.cell0 1 (by decide)
      have cV2_38 : World.cell? ((w101.alloc (.cells #[Value.bool (decide (r0 < 0)), Value.slice p pn pc, Value.bool (decide (x0 < 0)), Value.slice q qn qc, Value.bool (decide (y0 < 0)), Value.slice r rn rc] 118)).alloc (.cells #[Value.bool (decide (r1 < 0)), Value.slice p' p'n p'c, Value.bool (decide (x1 < 0)), Value.slice q' q'n q'c, Value.bool (decide (y1 < 0)), Value.slice r' r'n r'c] 118)) ⟨g, k * 6 + 2, none⟩ = some (Value.bool (decide (x0 < 0))) := V_30.cell0 2 (by decide)
      have cV3_38 : World.cell? ((w101.alloc (.cells #[Value.bool (decide (r0 < 0)), Value.slice p pn pc, Value.bool (decide (x0 < 0)), Value.slice q qn qc, Value.bool (decide (y0 < 0)), Value.slice r rn rc] 118)).alloc (.cells #[Value.bool (decide (r1 < 0)), Value.slice p' p'n p'c, Value.bool (decide (x1 < 0)), Value.slice q' q'n q'c, Value.bool (decide (y1 < 0)), Value.slice r' r'n r'c] 118)) ⟨g, k * 6 + 3, none⟩ = some (Value.slice q qn qc) := V_30.cell0 3 (by decide)
      have cV4_38 : World.cell? ((w101.alloc (.cells #[Value.bool (decide (r0 < 0)), Value.slice p pn pc, Value.bool (decide (x0 < 0)), Value.slice q qn qc, Value.bool (decide (y0 < 0)), Value.slice r rn rc] 118)).alloc (.cells #[Value.bool (decide (r1 < 0)), Value.slice p' p'n p'c, Value.bool (decide (x1 < 0)), Value.slice q' q'n q'c, Value.bool (decide (y1 < 0)), Value.slice r' r'n r'c] 118)) ⟨g, k * 6 + 4, none⟩ = some (Value.bool (decide (y0 < 0))) := V_30.cell0 4 (by decide)
      have cV5_38 : World.cell? ((w101.alloc (.cells #[Value.bool (decide (r0 < 0)), Value.slice p pn pc, Value.bool (decide (x0 < 0)), Value.slice q qn qc, Value.bool (decide (y0 < 0)), Value.slice r rn rc] 118)).alloc (.cells #[Value.bool (decide (r1 < 0)), Value.slice p' p'n p'c, Value.bool (decide (x1 < 0)), Value.slice q' q'n q'c, Value.bool (decide (y1 < 0)), Value.slice r' r'n r'c] 118)) ⟨g, k * 6 + 5, none⟩ = some (Value.slice r rn rc) := V_30.cell0 5 (by decide)
      have cV6_38 : World.cell? ((w101.alloc (.cells #[Value.bool (decide (r0 < 0)), Value.slice p pn pc, Value.bool (decide (x0 < 0)), Value.slice q qn qc, Value.bool (decide (y0 < 0)), Value.slice r rn rc] 118)).alloc (.cells #[Value.bool (decide (r1 < 0)), Value.slice p' p'n p'c, Value.bool (decide (x1 < 0)), Value.slice q' q'n q'c, Value.bool (decide (y1 < 0)), Value.slice r' r'n r'c] 118)) ⟨g, (k + 1) * 6, none⟩ = some (Value.bool (decide (r1 < 0))) := V_30.cell1 0 (by decide)
      have cV7_38 : World.cell? ((w101.alloc (.cells #[Value.bool (decide (r0 < 0)), Value.slice p pn pc, Value.bool (decide (x0 < 0)), Value.slice q qn qc, Value.bool (decide (y0 < 0)), Value.slice r rn rc] 118)).alloc (.cells #[Value.bool (decide (r1 < 0)), Value.slice p' p'n p'c, Value.bool (decide (x1 < 0)), Value.slice q' q'n q'c, Value.bool (decide (y1 < 0)), Value.slice r' r'n r'c] 118)) ⟨g, (k + 1) * 6 + 1, none⟩ = some (Value.slice p' p'n p'c) := V_30.cell1 1 (by decide)
      have cV8_38 : World.cell? ((w101.alloc (.cells #[Value.bool (decide (r0 < 0)), Value.slice p pn pc, Value.bool (decide (x0 < 0)), Value.slice q qn qc, Value.bool (decide (y0 < 0)), Value.slice r rn rc] 118)).alloc (.cells #[Value.bool (decide (r1 < 0)), Value.slice p' p'n p'c, Value.bool (decide (x1 < 0)), Value.slice q' q'n q'c, Value.bool (decide (y1 < 0)), Value.slice r' r'n r'c] 118)) ⟨g, (k + 1) * 6 + 2, none⟩ = some (Value.bool (decide (x1 < 0))) := V_30.cell1 2 (by decide)
      have cV9_38 : World.cell? ((w101.alloc (.cells #[Value.bool (decide (r0 < 0)), Value.slice p pn pc, Value.bool (decide (x0 < 0)), Value.slice q qn qc, Value.bool (decide (y0 < 0)), Value.slice r rn rc] 118)).alloc (.cells #[Value.bool (decide (r1 < 0)), Value.slice p' p'n p'c, Value.bool (decide (x1 < 0)), Value.slice q' q'n q'c, Value.bool (decide (y1 < 0)), Value.slice r' r'n r'c] 118)) ⟨g, (k + 1) * 6 + 3, none⟩ = some (Value.slice q' q'n q'c) := V_30.cell1 3 (by decide)
      have cV10_38 : World.cell? ((w101.alloc (.cells #[Value.bool (decide (r0 < 0)), Value.slice p pn pc, Value.bool (decide (x0 < 0)), Value.slice q qn qc, Value.bool (decide (y0 < 0)), Value.slice r rn rc] 118)).alloc (.cells #[Value.bool (decide (r1 < 0)), Value.slice p' p'n p'c, Value.bool (decide (x1 < 0)), Value.slice q' q'n q'c, Value.bool (decide (y1 < 0)), Value.slice r' r'n r'c] 118)) ⟨g, (k + 1) * 6 + 4, none⟩ = some (Value.bool (decide (y1 < 0))) := V_30.cell1 4 (by decide)
      have cV11_38 : World.cell? ((w101.alloc (.cells #[Value.bool (decide (r0 < 0)), Value.slice p pn pc, Value.bool (decide (x0 < 0)), Value.slice q qn qc, Value.bool (decide (y0 < 0)), Value.slice r rn rc] 118)).alloc (.cells #[Value.bool (decide (r1 < 0)), Value.slice p' p'n p'c, Value.bool (decide (x1 < 0)), Value.slice q' q'n q'c, Value.bool (decide (y1 < 0)), Value.slice r' r'n r'c] 118)) ⟨g, (k + 1) * 6 + 5, none⟩ = some (Value.slice r' r'n r'c) := V_30.cell1 5 (by decide)
      have cU00_38 : _ = some (Value.bool (decide (r0 < 0))) := U0_31.cell 0
      have cU01_38 : _ = some (Value.slice p pn pc) := U0_31.cell 1
      have cU02_38 : _ = some (Value.bool (decide (x0 < 0))) := U0_31.cell 2
      have cU03_38 : _ = some (Value.slice q qn qc) := U0_31.cell 3
      have cU04_38 : _ = some (Value.bool (decide (y0 < 0))) := U0_31.cell 4
      have cU05_38 : _ = some (Value.slice r rn rc) := U0_31.cell 5
      have U1_39 := hbx
      have cU10_39 : _ = some (Value.bool (decide (r1 < 0))) := U1_39.cell 0
      have cU11_39 : _ = some (Value.slice p' p'n p'c) := U1_39.cell 1
      have cU12_39 : _ = some (Value.bool (decide (x1 < 0))) := U1_39.cell 2
      have cU13_39 : _ = some (Value.slice q' q'n q'c) := U1_39.cell 3
      have cU14_39 : _ = some (Value.bool (decide (y1 < 0))) := U1_39.cell 4
      have cU15_39 : _ = some (Value.slice r' r'n r'c) := U1_39.cell 5
      clear hbx hbB
      go_wp2_with fail
      clear cXa0_12 cXa1_12 cXb0_12 cXb1_12 cR00_12 fR00_12 cR01_12 fR01_12 cR10_12 fR10_12 cR11_12 fR11_12 cV0_12 cV1_12 cV2_12 cV3_12 cV4_12 cV5_12 cV6_12 cV7_12 cV8_12 cV9_12 cV10_12 cV11_12 cXa0_24 cXa1_24 cXb0_24 cXb1_24 cR00_24 fR00_24 cR01_24 fR01_24 cR10_24 fR10_24 cR11_24 fR11_24 cV0_24 cV1_24 cV2_24 cV3_24 cV4_24 cV5_24 cV6_24 cV7_24 cV8_24 cV9_24 cV10_24 cV11_24 cU00_25 cU01_25 cU02_25 cU03_25 cU04_25 cU05_25
      generalize ((w101.alloc (.cells #[Value.bool (decide (r0 < 0)), Value.slice p pn pc, Value.bool (decide (x0 < 0)), Value.slice q qn qc, Value.bool (decide (y0 < 0)), Value.slice r rn rc] 118)).alloc (.cells #[Value.bool (decide (r1 < 0)), Value.slice p' p'n p'c, Value.bool (decide (x1 < 0)), Value.slice q' q'n q'c, Value.bool (decide (y1 < 0)), Value.slice r' r'n r'c] 118)) = v102 at *
      go_wp2_with fail
      refine (rzquoI Op_32.rd (by omega) Op'_35.rd (by omega) HI.out.p0 hr1p.out HT0.out HT1.out).mono ?_
      rintro e w104 ⟨z, zn, zc, u, un, uc, rfl, hO, hO2, hDf, hB⟩
      clear cXa0_38 cXa1_38 cXb0_38 cXb1_38 cR00_38 fR00_38 cR01_38 fR01_38 cR10_38 fR10_38 cR11_38 fR11_38 cV0_38 cV1_38 cV2_38 cV3_38 cV4_38 cV5_38 cV6_38 cV7_38 cV8_38 cV9_38 cV10_38 cV11_38 cU00_38 cU01_38 cU02_38 cU03_38 cU04_38 cU05_38 cU10_39 cU11_39 cU12_39 cU13_39 cU14_39 cU15_39
      have hstep : Below v102.heap.size v102 w104 := (by first | exact hB | exact below_drew hB)
      have Xa_40 := Xa_26.next hstep
      have Xb_41 := Xb_27.next hstep
      have R0_42 := R0_28.next hstep
      have R1_43 := R1_29.next hstep
      have V_44 := V_30.next hstep
      have U0_45 := U0_31.next hstep
      have U1_46 := U1_39.next hstep
      have Op_47 := Op_32.below hstep
      have Oq_48 := Oq_33.below hstep
      have Or_49 := Or_34.below hstep
      have Op'_50 := Op'_35.below hstep
      have Oq'_51 := Oq'_36.below hstep
      have Or'_52 := Or'_37.below hstep
      have hbel53 := hbel38.next hstep
      have hle53 := hbel53.size
      have hls53 := hstep.size
      clear Xa_26 Xb_27 R0_28 R1_29 V_30 U0_31 U1_39 Op_32 Oq_33 Or_34 Op'_35 Oq'_36 Or'_37 hbel38 hstep
      have cXa0_53 : _ = some (Value.bool s) := Xa_40.cell 0
      have cXa1_53 : _ = some (Value.slice a n c) := Xa_40.cell 1
      have cXb0_53 : _ = some (Value.bool t) := Xb_41.cell 0
      have cXb1_53 : _ = some (Value.slice b m d) := Xb_41.cell 1
      have cR00_53 : _ = some (Value.bool false) := R0_42.cell 0
      have fR00_53 := R0_42.free 0
      have cR01_53 : _ = some (Value.slice none 0 0) := R0_42.cell 1
      have fR01_53 := R0_42.free 1
      have cR10_53 : _ = some (Value.bool false) := R1_43.cell 0
      have fR10_53 := R1_43.free 0
      have cR11_53 : _ = some (Value.slice none 0 0) := R1_43.cell 1
      have fR11_53 := R1_43.free 1
      have cV0_53 : World.cell? w104 ⟨g, k * 6, none⟩ = some (Value.bool (decide (r0 < 0))) := V_44.cell0 0 (by decide)
      have cV1_53 : World.cell? w104 ⟨g, k * 6 + 1, none⟩ = some (Value.slice p pn pc) := V_44.cell0 1 (by decide)
      have cV2_53 : World.cell? w104 ⟨g, k * 6 + 2, none⟩ = some (Value.bool (decide (x0 < 0))) := V_44.cell0 2 (by decide)
      have cV3_53 : World.cell? w104 ⟨g, k * 6 + 3, none⟩ = some (Value.slice q qn qc) := V_44.cell0 3 (by decide)
      have cV4_53 : World.cell? w104 ⟨g, k * 6 + 4, none⟩ = some (Value.bool (decide (y0 < 0))) := V_44.cell0 4 (by decide)
      have cV5_53 : World.cell? w104 ⟨g, k * 6 + 5, none⟩ = some (Value.slice r rn rc) := V_44.cell0 5 (by decide)
      have cV6_53 : World.cell? w104 ⟨g, (k + 1) * 6, none⟩ = some (Value.bool (decide (r1 < 0))) := V_44.cell1 0 (by decide)
      have cV7_53 : World.cell? w104 ⟨g, (k + 1) * 6 + 1, none⟩ = some (Value.slice p' p'n p'c) := V_44.cell1 1 (by decide)
      have cV8_53 : World.cell? w104 ⟨g, (k + 1) * 6 + 2, none⟩ = some (Value.bool (decide (x1 < 0))) := V_44.cell1 2 (by decide)
      have cV9_53 : World.cell? w104 ⟨g, (k + 1) * 6 + 3, none⟩ = some (Value.slice q' q'n q'c) := V_44.cell1 3 (by decide)
      have cV10_53 : World.cell? w104 ⟨g, (k + 1) * 6 + 4, none⟩ = some (Value.bool (decide (y1 < 0))) := V_44.cell1 4 (by decide)
      have cV11_53 : World.cell? w104 ⟨g, (k + 1) * 6 + 5, none⟩ = some (Value.slice r' r'n r'c) := V_44.cell1 5 (by decide)
      have cU00_53 : _ = some (Value.bool (decide (r0 < 0))) := U0_45.cell 0
      have cU01_53 : _ = some (Value.slice p pn pc) := U0_45.cell 1
      have cU02_53 : _ = some (Value.bool (decide (x0 < 0))) := U0_45.cell 2
      have cU03_53 : _ = some (Value.slice q qn qc) := U0_45.cell 3
      have cU04_53 : _ = some (Value.bool (decide (y0 < 0))) := U0_45.cell 4
      have cU05_53 : _ = some (Value.slice r rn rc) := U0_45.cell 5
      have cU10_53 : _ = some (Value.bool (decide (r1 < 0))) := U1_46.cell 0
      have cU11_53 : _ = some (Value.slice p' p'n p'c) := U1_46.cell 1
      have cU12_53 : _ = some (Value.bool (decide (x1 < 0))) := U1_46.cell 2
      have cU13_53 : _ = some (Value.slice q' q'n q'c) := U1_46.cell 3
      have cU14_53 : _ = some (Value.bool (decide (y1 < 0))) := U1_46.cell 4
      have cU15_53 : _ = some (Value.slice r' r'n r'c) := U1_46.cell 5
      have Oz_54 := hO
      have ltz := hO.ltOf
      have hzn : zn ≤ 4194304 := by rw [← hK]; exact len_le (l := la) hO.len ((HM.out _ (.inl HP.out.1)).out)
      clear hO hO2 hB hDf
      have hbx := blk_new' w104 #[Value.bool (decide (t0 < 0)), Value.slice z zn zc] 25 (g := w104.heap.size) (by simp)
      have hbB := (Below.refl w104.heap.size w104).alloc (Nat.le_refl _) (.cells #[Value.bool (decide (t0 < 0)), Value.slice z zn zc] 25)
      have hbg := hbx.lt
      clear cXa0_53 cXa1_53 cXb0_53 cXb1_53 cR00_53 fR00_53 cR01_53 fR01_53 cR10_53 fR10_53 cR11_53 fR11_53 cV0_53 cV1_53 cV2_53 cV3_53 cV4_53 cV5_53 cV6_53 cV7_53 cV8_53 cV9_53 cV10_53 cV11_53 cU00_53 cU01_53 cU02_53 cU03_53 cU04_53 cU05_53 cU10_53 cU11_53 cU12_53 cU13_53 cU14_53 cU15_53
      have hstep : Below w104.heap.size w104 (w104.alloc (.cells #[Value.bool (decide (t0 < 0)), Value.slice z zn zc] 25)) := (by first | exact hbB | exact below_drew hbB)
      have Xa_55 := Xa_40.next hstep
      have Xb_56 := Xb_41.next hstep
      have R0_57 := R0_42.next hstep
      have R1_58 := R1_43.next hstep
      have V_59 := V_44.next hstep
      have U0_60 := U0_45.next hstep
      have U1_61 := U1_46.next hstep
      have Op_62 := Op_47.below hstep
      have Oq_63 := Oq_48.below hstep
      have Or_64 := Or_49.below hstep
      have Op'_65 := Op'_50.below hstep
      have Oq'_66 := Oq'_51.below hstep
      have Or'_67 := Or'_52.below hstep
      have Oz_68 := Oz_54.below hstep
      have hbel69 := hbel53.next hstep
      have hle69 := hbel69.size
      have hls69 := hstep.size
      clear Xa_40 Xb_41 R0_42 R1_43 V_44 U0_45 U1_46 Op_47 Oq_48 Or_49 Op'_50 Oq'_51 Or'_52 Oz_54 hbel53 hstep
      have cXa0_69 : _ = some (Value.bool s) := Xa_55.cell 0
      have cXa1_69 : _ = some (Value.slice a n c) := Xa_55.cell 1
      have cXb0_69 : _ = some (Value.bool t) := Xb_56.cell 0
      have cXb1_69 : _ = some (Value.slice b m d) := Xb_56.cell 1
      have cR00_69 : _ = some (Value.bool false) := R0_57.cell 0
      have fR00_69 := R0_57.free 0
      have cR01_69 : _ = some (Value.slice none 0 0) := R0_57.cell 1
      have fR01_69 := R0_57.free 1
      have cR10_69 : _ = some (Value.bool false) := R1_58.cell 0
      have fR10_69 := R1_58.free 0
      have cR11_69 : _ = some (Value.slice none 0 0) := R1_58.cell 1
      have fR11_69 := R1_58.free 1
      have cV0_69 : World.cell? (w104.alloc (.cells #[Value.bool (decide (t0 < 0)), Value.slice z zn zc] 25)) ⟨g, k * 6, none⟩ = some (Value.bool (decide (r0 < 0))) := V_59.cell0 0 (by decide)
      have cV1_69 : World.cell? (w104.alloc (.cells #[Value.bool (decide (t0 < 0)), Value.slice z zn zc] 25)) ⟨g, k * 6 + 1, none⟩ = some (Value.slice p pn pc) := V_59.cell0 1 (by decide)
      have cV2_69 : World.cell? (w104.alloc (.cells #[Value.bool (decide (t0 < 0)), Value.slice z zn zc] 25)) ⟨g, k * 6 + 2, none⟩ = some (Value.bool (decide (x0 < 0))) := V_59.cell0 2 (by decide)
      have cV3_69 : World.cell? (w104.alloc (.cells #[Value.bool (decide (t0 < 0)), Value.slice z zn zc] 25)) ⟨g, k * 6 + 3, none⟩ = some (Value.slice q qn qc) := V_59.cell0 3 (by decide)
      have cV4_69 : World.cell? (w104.alloc (.cells #[Value.bool (decide (t0 < 0)), Value.slice z zn zc] 25)) ⟨g, k * 6 + 4, none⟩ = some (Value.bool (decide (y0 < 0))) := V_59.cell0 4 (by decide)
      have cV5_69 : World.cell? (w104.alloc (.cells #[Value.bool (decide (t0 < 0)), Value.slice z zn zc] 25)) ⟨g, k * 6 + 5, none⟩ = some (Value.slice r rn rc) := V_59.cell0 5 (by decide)
      have cV6_69 : World.cell? (w104.alloc (.cells #[Value.bool (decide (t0 < 0)), Value.slice z zn zc] 25)) ⟨g, (k + 1) * 6, none⟩ = some (Value.bool (decide (r1 < 0))) := V_59.cell1 0 (by decide)
      have cV7_69 : World.cell? (w104.alloc (.cells #[Value.bool (decide (t0 < 0)), Value.slice z zn zc] 25)) ⟨g, (k + 1) * 6 + 1, none⟩ = some (Value.slice p' p'n p'c) := V_59.cell1 1 (by decide)
      have cV8_69 : World.cell? (w104.alloc (.cells #[Value.bool (decide (t0 < 0)), Value.slice z zn zc] 25)) ⟨g, (k + 1) * 6 + 2, none⟩ = some (Value.bool (decide (x1 < 0))) := V_59.cell1 2 (by decide)
      have cV9_69 : World.cell? (w104.alloc (.cells #[Value.bool (decide (t0 < 0)), Value.slice z zn zc] 25)) ⟨g, (k + 1) * 6 + 3, none⟩ = some (Value.slice q' q'n q'c) := V_59.cell1 3 (by decide)
      have cV10_69 : World.cell? (w104.alloc (.cells #[Value.bool (decide (t0 < 0)), Value.slice z zn zc] 25)) ⟨g, (k + 1) * 6 + 4, none⟩ = some (Value.bool (decide (y1 < 0))) := V_59.cell1 4 (by decide)
      have cV11_69 : World.cell? (w104.alloc (.cells #[Value.bool (decide (t0 < 0)), Value.slice z zn zc] 25)) ⟨g, (k + 1) * 6 + 5, none⟩ = some (Value.slice r' r'n r'c) := V_59.cell1 5 (by decide)
      have cU00_69 : _ = some (Value.bool (decide (r0 < 0))) := U0_60.cell 0
      have cU01_69 : _ = some (Value.slice p pn pc) := U0_60.cell 1
      have cU02_69 : _ = some (Value.bool (decide (x0 < 0))) := U0_60.cell 2
      have cU03_69 : _ = some (Value.slice q qn qc) := U0_60.cell 3
      have cU04_69 : _ = some (Value.bool (decide (y0 < 0))) := U0_60.cell 4
      have cU05_69 : _ = some (Value.slice r rn rc) := U0_60.cell 5
      have cU10_69 : _ = some (Value.bool (decide (r1 < 0))) := U1_61.cell 0
      have cU11_69 : _ = some (Value.slice p' p'n p'c) := U1_61.cell 1
      have cU12_69 : _ = some (Value.bool (decide (x1 < 0))) := U1_61.cell 2
      have cU13_69 : _ = some (Value.slice q' q'n q'c) := U1_61.cell 3
      have cU14_69 : _ = some (Value.bool (decide (y1 < 0))) := U1_61.cell 4
      have cU15_69 : _ = some (Value.slice r' r'n r'c) := U1_61.cell 5
      have Xz_70 := hbx
      have cXz0_70 : _ = some (Value.bool (decide (t0 < 0))) := Xz_70.cell 0
      have cXz1_70 : _ = some (Value.slice z zn zc) := Xz_70.cell 1
      clear hbx hbB
      have hbx := blk_new' (w104.alloc (.cells #[Value.bool (decide (t0 < 0)), Value.slice z zn zc] 25)) #[Value.bool (decide (t1 < 0)), Value.slice u un uc] 25 (g := w104.heap.size + 1) (by simp)
      have hbB := (Below.refl (w104.alloc (.cells #[Value.bool (decide (t0 < 0)), Value.slice z zn zc] 25)).heap.size (w104.alloc (.cells #[Value.bool (decide (t0 < 0)), Value.slice z zn zc] 25))).alloc (Nat.le_refl _) (.cells #[Value.bool (decide (t1 < 0)), Value.slice u un uc] 25)
      have hbg := hbx.lt
      clear cXa0_69 cXa1_69 cXb0_69 cXb1_69 cR00_69 fR00_69 cR01_69 fR01_69 cR10_69 fR10_69 cR11_69 fR11_69 cV0_69 cV1_69 cV2_69 cV3_69 cV4_69 cV5_69 cV6_69 cV7_69 cV8_69 cV9_69 cV10_69 cV11_69 cU00_69 cU01_69 cU02_69 cU03_69 cU04_69 cU05_69 cU10_69 cU11_69 cU12_69 cU13_69 cU14_69 cU15_69 cXz0_70 cXz1_70
      have hstep : Below (w104.alloc (.cells #[Value.bool (decide (t0 < 0)), Value.slice z zn zc] 25)).heap.size (w104.alloc (.cells #[Value.bool (decide (t0 < 0)), Value.slice z zn zc] 25)) ((w104.alloc (.cells #[Value.bool (decide (t0 < 0)), Value.slice z zn zc] 25)).alloc (.cells #[Value.bool (decide (t1 < 0)), Value.slice u un uc] 25)) := (by first | exact hbB | exact below_drew hbB)
      have Xa_71 := Xa_55.next hstep
      have Xb_72 := Xb_56.next hstep
      have R0_73 := R0_57.next hstep
      have R1_74 := R1_58.next hstep
      have V_75 := V_59.next hstep
      have U0_76 := U0_60.next hstep
      have U1_77 := U1_61.next hstep
      have Xz_78 := Xz_70.next hstep
      have Op_79 := Op_62.below hstep
      have Oq_80 := Oq_63.below hstep
      have Or_81 := Or_64.below hstep
      have Op'_82 := Op'_65.below hstep
      have Oq'_83 := Oq'_66.below hstep
      have Or'_84 := Or'_67.below hstep
      have Oz_85 := Oz_68.below hstep
      have hbel86 := hbel69.next hstep
      have hle86 := hbel86.size
      have hls86 := hstep.size
      clear Xa_55 Xb_56 R0_57 R1_58 V_59 U0_60 U1_61 Xz_70 Op_62 Oq_63 Or_64 Op'_65 Oq'_66 Or'_67 Oz_68 hbel69 hstep
      have cXa0_86 : _ = some (Value.bool s) := Xa_71.cell 0
      have cXa1_86 : _ = some (Value.slice a n c) := Xa_71.cell 1
      have cXb0_86 : _ = some (Value.bool t) := Xb_72.cell 0
      have cXb1_86 : _ = some (Value.slice b m d) := Xb_72.cell 1
      have cR00_86 : _ = some (Value.bool false) := R0_73.cell 0
      have fR00_86 := R0_73.free 0
      have cR01_86 : _ = some (Value.slice none 0 0) := R0_73.cell 1
      have fR01_86 := R0_73.free 1
      have cR10_86 : _ = some (Value.bool false) := R1_74.cell 0
      have fR10_86 := R1_74.free 0
      have cR11_86 : _ = some (Value.slice none 0 0) := R1_74.cell 1
      have fR11_86 := R1_74.free 1
      have cV0_86 : World.cell? ((w104.alloc (.cells #[Value.bool (decide (t0 < 0)), Value.slice z zn zc] 25)).alloc (.cells #[Value.bool (decide (t1 < 0)), Value.slice u un uc] 25)) ⟨g, k * 6, none⟩ = some (Value.bool (decide (r0 < 0))) := V_75.cell0 0 (by decide)
      have cV1_86 : World.cell? ((w104.alloc (.cells #[Value.bool (decide (t0 < 0)), Value.slice z zn zc] 25)).alloc (.cells #[Value.bool (decide (t1 < 0)), Value.slice u un uc] 25)) ⟨g, k * 6 + 1, none⟩ = some (Value.slice p pn pc) := V_75.cell0 1 (by decide)
      have cV2_86 : World.cell? ((w104.alloc (.cells #[Value.bool (decide (t0 < 0)), Value.slice z zn zc] 25)).alloc (.cells #[Value.bool (decide (t1 < 0)), Value.slice u un uc] 25)) ⟨g, k * 6 + 2, none⟩ = some (Value.bool (decide (x0 < 0))) := V_75.cell0 2 (by decide)
      have cV3_86 : World.cell? ((w104.alloc (.cells #[Value.bool (decide (t0 < 0)), Value.slice z zn zc] 25)).alloc (.cells #[Value.bool (decide (t1 < 0)), Value.slice u un uc] 25)) ⟨g, k * 6 + 3, none⟩ = some (Value.slice q qn qc) := V_75.cell0 3 (by decide)
      have cV4_86 : World.cell? ((w104.alloc (.cells #[Value.bool (decide (t0 < 0)), Value.slice z zn zc] 25)).alloc (.cells #[Value.bool (decide (t1 < 0)), Value.slice u un uc] 25)) ⟨g, k * 6 + 4, none⟩ = some (Value.bool (decide (y0 < 0))) := V_75.cell0 4 (by decide)
      have cV5_86 : World.cell? ((w104.alloc (.cells #[Value.bool (decide (t0 < 0)), Value.slice z zn zc] 25)).alloc (.cells #[Value.bool (decide (t1 < 0)), Value.slice u un uc] 25)) ⟨g, k * 6 + 5, none⟩ = some (Value.slice r rn rc) := V_75.cell0 5 (by decide)
      have cV6_86 : World.cell? ((w104.alloc (.cells #[Value.bool (decide (t0 < 0)), Value.slice z zn zc] 25)).alloc (.cells #[Value.bool (decide (t1 < 0)), Value.slice u un uc] 25)) ⟨g, (k + 1) * 6, none⟩ = some (Value.bool (decide (r1 < 0))) := V_75.cell1 0 (by decide)
      have cV7_86 : World.cell? ((w104.alloc (.cells #[Value.bool (decide (t0 < 0)), Value.slice z zn zc] 25)).alloc (.cells #[Value.bool (decide (t1 < 0)), Value.slice u un uc] 25)) ⟨g, (k + 1) * 6 + 1, none⟩ = some (Value.slice p' p'n p'c) := V_75.cell1 1 (by decide)
      have cV8_86 : World.cell? ((w104.alloc (.cells #[Value.bool (decide (t0 < 0)), Value.slice z zn zc] 25)).alloc (.cells #[Value.bool (decide (t1 < 0)), Value.slice u un uc] 25)) ⟨g, (k + 1) * 6 + 2, none⟩ = some (Value.bool (decide (x1 < 0))) := V_75.cell1 2 (by decide)
      have cV9_86 : World.cell? ((w104.alloc (.cells #[Value.bool (decide (t0 < 0)), Value.slice z zn zc] 25)).alloc (.cells #[Value.bool (decide (t1 < 0)), Value.slice u un uc] 25)) ⟨g, (k + 1) * 6 + 3, none⟩ = some (Value.slice q' q'n q'c) := V_75.cell1 3 (by decide)
      have cV10_86 : World.cell? ((w104.alloc (.cells #[Value.bool (decide (t0 < 0)), Value.slice z zn zc] 25)).alloc (.cells #[Value.bool (decide (t1 < 0)), Value.slice u un uc] 25)) ⟨g, (k + 1) * 6 + 4, none⟩ = some (Value.bool (decide (y1 < 0))) := V_75.cell1 4 (by decide)
      have cV11_86 : World.cell? ((w104.alloc (.cells #[Value.bool (decide (t0 < 0)), Value.slice z zn zc] 25)).alloc (.cells #[Value.bool (decide (t1 < 0)), Value.slice u un uc] 25)) ⟨g, (k + 1) * 6 + 5, none⟩ = some (Value.slice r' r'n r'c) := V_75.cell1 5 (by decide)
      have cU00_86 : _ = some (Value.bool (decide (r0 < 0))) := U0_76.cell 0
      have cU01_86 : _ = some (Value.slice p pn pc) := U0_76.cell 1
      have cU02_86 : _ = some (Value.bool (decide (x0 < 0))) := U0_76.cell 2
      have cU03_86 : _ = some (Value.slice q qn qc) := U0_76.cell 3
      have cU04_86 : _ = some (Value.bool (decide (y0 < 0))) := U0_76.cell 4
      have cU05_86 : _ = some (Value.slice r rn rc) := U0_76.cell 5
      have cU10_86 : _ = some (Value.bool (decide (r1 < 0))) := U1_77.cell 0
      have cU11_86 : _ = some (Value.slice p' p'n p'c) := U1_77.cell 1
      have cU12_86 : _ = some (Value.bool (decide (x1 < 0))) := U1_77.cell 2
      have cU13_86 : _ = some (Value.slice q' q'n q'c) := U1_77.cell 3
      have cU14_86 : _ = some (Value.bool (decide (y1 < 0))) := U1_77.cell 4
      have cU15_86 : _ = some (Value.slice r' r'n r'c) := U1_77.cell 5
      have cXz0_86 : _ = some (Value.bool (decide (t0 < 0))) := Xz_78.cell 0
      have cXz1_86 : _ = some (Value.slice z zn zc) := Xz_78.cell 1
      have Xu_87 := hbx
      have cXu0_87 : _ = some (Value.bool (decide (t1 < 0))) := Xu_87.cell 0
      have cXu1_87 : _ = some (Value.slice u un uc) := Xu_87.cell 1
      clear hbx hbB
      go_wp2_with fail
      generalize ((w104.alloc (.cells #[Value.bool (decide (t0 < 0)), Value.slice z zn zc] 25)).alloc (.cells #[Value.bool (decide (t1 < 0)), Value.slice u un uc] 25)) = v105 at *
      go_wp2_with fail
      clear cXa0_86 cXa1_86 cXb0_86 cXb1_86 cR00_86 fR00_86 cR01_86 fR01_86 cR10_86 fR10_86 cR11_86 fR11_86 cV0_86 cV1_86 cV2_86 cV3_86 cV4_86 cV5_86 cV6_86 cV7_86 cV8_86 cV9_86 cV10_86 cV11_86 cU00_86 cU01_86 cU02_86 cU03_86 cU04_86 cU05_86 cU10_86 cU11_86 cU12_86 cU13_86 cU14_86 cU15_86 cXz0_86 cXz1_86 cXu0_87 cXu1_87
      have hdw := (Below.refl v105.heap.size v105).drew
      have hstep : Below v105.heap.size v105 v105.drew := (by first | exact hdw | exact below_drew hdw)
      have Xa_88 := Xa_71.next hstep
      have Xb_89 := Xb_72.next hstep
      have R0_90 := R0_73.next hstep
      have R1_91 := R1_74.next hstep
      have V_92 := V_75.next hstep
      have U0_93 := U0_76.next hstep
      have U1_94 := U1_77.next hstep
      have Xz_95 := Xz_78.next hstep
      have Xu_96 := Xu_87.next hstep
      have Op_97 := Op_79.below hstep
      have Oq_98 := Oq_80.below hstep
      have Or_99 := Or_81.below hstep
      have Op'_100 := Op'_82.below hstep
      have Oq'_101 := Oq'_83.below hstep
      have Or'_102 := Or'_84.below hstep
      have Oz_103 := Oz_85.below hstep
      have hbel104 := hbel86.next hstep
      have hle104 := hbel104.size
      have hls104 := hstep.size
      clear Xa_71 Xb_72 R0_73 R1_74 V_75 U0_76 U1_77 Xz_78 Xu_87 Op_79 Oq_80 Or_81 Op'_82 Oq'_83 Or'_84 Oz_85 hbel86 hstep
      refine wp_region_noPanic ?_
      refine D_region (S := (fun w' => Blk w' (w101.heap.size) #[Value.bool (decide (r0 < 0)), Value.slice p pn pc, Value.bool (decide (x0 < 0)), Value.slice q qn qc, Value.bool (decide (y0 < 0)), Value.slice r rn rc] ∧ Blk w' (w101.heap.size + 1) #[Value.bool (decide (r1 < 0)), Value.slice p' p'n p'c, Value.bool (decide (x1 < 0)), Value.slice q' q'n q'c, Value.bool (decide (y1 < 0)), Value.slice r' r'n r'c] ∧ Blk w' (w104.heap.size) #[Value.bool (decide (t0 < 0)), Value.slice z zn zc])) (T := [24, 25]) (by kernel_rfl) ⟨U0_93, U1_94, Xz_95⟩ (fun hHeld => ?_)
      clear hHeld
      generalize v105.drew = vd at *
      refine D_pure (i := 0) (d := some 57) (v := (.slice (some ⟨g, 0, none⟩) (k + 2) cap)) rfl rfl (by kernel_rfl) (by kernel_rfl) (by kernel_rfl) (fun _ _ _ h => h) (by rfl) (fun _ => by go_simp) ?_
      (try simp only [Act.put, List.setIfInBounds_toArray, List.set_cons_zero, List.set_cons_succ])
      refine D_pure (i := 1) (d := some 58) (v := (.pointer (some ⟨w101.heap.size, 0, none⟩))) rfl rfl (by kernel_rfl) (by kernel_rfl) (by kernel_rfl) (fun _ _ _ h => h) (by rfl) (fun _ => by go_simp) ?_
      (try simp only [Act.put, List.setIfInBounds_toArray, List.set_cons_zero, List.set_cons_succ])
      refine D_load (i := 2) (d := some 59) (v := (.agg #[Value.bool (decide (r0 < 0)), Value.slice p pn pc])) [2, 3, 5, 9, 10, 12, 16, 17, 19] rfl rfl (by kernel_rfl) (by kernel_rfl) (by kernel_rfl) (by kernel_rfl) (by kernel_rfl) (by kernel_rfl) (fun _ _ _ h => h) (by rfl) (fun w hSw => by (obtain ⟨b0, b1, b2⟩ := hSw); have l0 : _ = some (Value.bool (decide (r0 < 0))) := b0.cell (0); have l1 : _ = some (Value.slice p pn pc) := b0.cell (1); (clear b0 b1 b2); go_simp) ⟨U0_93, U1_94, Xz_95⟩ ?_
      (try simp only [Act.put, List.setIfInBounds_toArray, List.set_cons_zero, List.set_cons_succ])
      refine D_load (i := 3) (d := some 60) (v := (.agg #[Value.bool (decide (t0 < 0)), Value.slice z zn zc])) [2, 3, 5, 9, 10, 12, 16, 17, 19] rfl rfl (by kernel_rfl) (by kernel_rfl) (by kernel_rfl) (by kernel_rfl) (by kernel_rfl) (by kernel_rfl) (fun _ _ _ h => h) (by rfl) (fun w hSw => by (obtain ⟨b0, b1, b2⟩ := hSw); have l0 : _ = some (Value.bool (decide (t0 < 0))) := b2.cell (0); have l1 : _ = some (Value.slice z zn zc) := b2.cell (1); (clear b0 b1 b2); go_simp) ⟨U0_93, U1_94, Xz_95⟩ ?_
      (try simp only [Act.put, List.setIfInBounds_toArray, List.set_cons_zero, List.set_cons_succ])
      refine D_pure (i := 4) (d := some 61) (v := (.pointer (some ⟨w101.heap.size + 1, 0, none⟩))) rfl rfl (by kernel_rfl) (by kernel_rfl) (by kernel_rfl) (fun _ _ _ h => h) (by rfl) (fun _ => by go_simp) ?_
      (try simp only [Act.put, List.setIfInBounds_toArray, List.set_cons_zero, List.set_cons_succ])
      refine D_load (i := 5) (d := some 62) (v := (.agg #[Value.bool (decide (r1 < 0)), Value.slice p' p'n p'c])) [2, 3, 5, 9, 10, 12, 16, 17, 19] rfl rfl (by kernel_rfl) (by kernel_rfl) (by kernel_rfl) (by kernel_rfl) (by kernel_rfl) (by kernel_rfl) (fun _ _ _ h => h) (by rfl) (fun w hSw => by (obtain ⟨b0, b1, b2⟩ := hSw); have l0 : _ = some (Value.bool (decide (r1 < 0))) := b1.cell (0); have l1 : _ = some (Value.slice p' p'n p'c) := b1.cell (1); (clear b0 b1 b2); go_simp) ⟨U0_93, U1_94, Xz_95⟩ ?_
      (try simp only [Act.put, List.setIfInBounds_toArray, List.set_cons_zero, List.set_cons_succ])
      refine D_pure (i := 8) (d := some 65) (v := (.pointer (some ⟨w101.heap.size, 2, none⟩))) rfl rfl (by kernel_rfl) (by kernel_rfl) (by kernel_rfl) (fun _ _ _ h => h) (by rfl) (fun _ => by go_simp) ?_
      (try simp only [Act.put, List.setIfInBounds_toArray, List.set_cons_zero, List.set_cons_succ])
      refine D_load (i := 9) (d := some 66) (v := (.agg #[Value.bool (decide (x0 < 0)), Value.slice q qn qc])) [2, 3, 5, 9, 10, 12, 16, 17, 19] rfl rfl (by kernel_rfl) (by kernel_rfl) (by kernel_rfl) (by kernel_rfl) (by kernel_rfl) (by kernel_rfl) (fun _ _ _ h => h) (by rfl) (fun w hSw => by (obtain ⟨b0, b1, b2⟩ := hSw); have l0 : _ = some (Value.bool (decide (x0 < 0))) := b0.cell (2); have l1 : _ = some (Value.slice q qn qc) := b0.cell (3); (clear b0 b1 b2); go_simp) ⟨U0_93, U1_94, Xz_95⟩ ?_
      (try simp only [Act.put, List.setIfInBounds_toArray, List.set_cons_zero, List.set_cons_succ])
      refine D_load (i := 10) (d := some 67) (v := (.agg #[Value.bool (decide (t0 < 0)), Value.slice z zn zc])) [2, 3, 5, 9, 10, 12, 16, 17, 19] rfl rfl (by kernel_rfl) (by kernel_rfl) (by kernel_rfl) (by kernel_rfl) (by kernel_rfl) (by kernel_rfl) (fun _ _ _ h => h) (by rfl) (fun w hSw => by (obtain ⟨b0, b1, b2⟩ := hSw); have l0 : _ = some (Value.bool (decide (t0 < 0))) := b2.cell (0); have l1 : _ = some (Value.slice z zn zc) := b2.cell (1); (clear b0 b1 b2); go_simp) ⟨U0_93, U1_94, Xz_95⟩ ?_
      (try simp only [Act.put, List.setIfInBounds_toArray, List.set_cons_zero, List.set_cons_succ])
      refine D_pure (i := 11) (d := some 68) (v := (.pointer (some ⟨w101.heap.size + 1, 2, none⟩))) rfl rfl (by kernel_rfl) (by kernel_rfl) (by kernel_rfl) (fun _ _ _ h => h) (by rfl) (fun _ => by go_simp) ?_
      (try simp only [Act.put, List.setIfInBounds_toArray, List.set_cons_zero, List.set_cons_succ])
      refine D_load (i := 12) (d := some 69) (v := (.agg #[Value.bool (decide (x1 < 0)), Value.slice q' q'n q'c])) [2, 3, 5, 9, 10, 12, 16, 17, 19] rfl rfl (by kernel_rfl) (by kernel_rfl) (by kernel_rfl) (by kernel_rfl) (by kernel_rfl) (by kernel_rfl) (fun _ _ _ h => h) (by rfl) (fun w hSw => by (obtain ⟨b0, b1, b2⟩ := hSw); have l0 : _ = some (Value.bool (decide (x1 < 0))) := b1.cell (2); have l1 : _ = some (Value.slice q' q'n q'c) := b1.cell (3); (clear b0 b1 b2); go_simp) ⟨U0_93, U1_94, Xz_95⟩ ?_
      (try simp only [Act.put, List.setIfInBounds_toArray, List.set_cons_zero, List.set_cons_succ])
      refine D_pure (i := 15) (d := some 72) (v := (.pointer (some ⟨w101.heap.size, 4, none⟩))) rfl rfl (by kernel_rfl) (by kernel_rfl) (by kernel_rfl) (fun _ _ _ h => h) (by rfl) (fun _ => by go_simp) ?_
      (try simp only [Act.put, List.setIfInBounds_toArray, List.set_cons_zero, List.set_cons_succ])
      refine D_load (i := 16) (d := some 73) (v := (.agg #[Value.bool (decide (y0 < 0)), Value.slice r rn rc])) [2, 3, 5, 9, 10, 12, 16, 17, 19] rfl rfl (by kernel_rfl) (by kernel_rfl) (by kernel_rfl) (by kernel_rfl) (by kernel_rfl) (by kernel_rfl) (fun _ _ _ h => h) (by rfl) (fun w hSw => by (obtain ⟨b0, b1, b2⟩ := hSw); have l0 : _ = some (Value.bool (decide (y0 < 0))) := b0.cell (4); have l1 : _ = some (Value.slice r rn rc) := b0.cell (5); (clear b0 b1 b2); go_simp) ⟨U0_93, U1_94, Xz_95⟩ ?_
      (try simp only [Act.put, List.setIfInBounds_toArray, List.set_cons_zero, List.set_cons_succ])
      refine D_load (i := 17) (d := some 74) (v := (.agg #[Value.bool (decide (t0 < 0)), Value.slice z zn zc])) [2, 3, 5, 9, 10, 12, 16, 17, 19] rfl rfl (by kernel_rfl) (by kernel_rfl) (by kernel_rfl) (by kernel_rfl) (by kernel_rfl) (by kernel_rfl) (fun _ _ _ h => h) (by rfl) (fun w hSw => by (obtain ⟨b0, b1, b2⟩ := hSw); have l0 : _ = some (Value.bool (decide (t0 < 0))) := b2.cell (0); have l1 : _ = some (Value.slice z zn zc) := b2.cell (1); (clear b0 b1 b2); go_simp) ⟨U0_93, U1_94, Xz_95⟩ ?_
      (try simp only [Act.put, List.setIfInBounds_toArray, List.set_cons_zero, List.set_cons_succ])
      refine D_pure (i := 18) (d := some 75) (v := (.pointer (some ⟨w101.heap.size + 1, 4, none⟩))) rfl rfl (by kernel_rfl) (by kernel_rfl) (by kernel_rfl) (fun _ _ _ h => h) (by rfl) (fun _ => by go_simp) ?_
      (try simp only [Act.put, List.setIfInBounds_toArray, List.set_cons_zero, List.set_cons_succ])
      refine D_load (i := 19) (d := some 76) (v := (.agg #[Value.bool (decide (y1 < 0)), Value.slice r' r'n r'c])) [2, 3, 5, 9, 10, 12, 16, 17, 19] rfl rfl (by kernel_rfl) (by kernel_rfl) (by kernel_rfl) (by kernel_rfl) (by kernel_rfl) (by kernel_rfl) (fun _ _ _ h => h) (by rfl) (fun w hSw => by (obtain ⟨b0, b1, b2⟩ := hSw); have l0 : _ = some (Value.bool (decide (y1 < 0))) := b1.cell (4); have l1 : _ = some (Value.slice r' r'n r'c) := b1.cell (5); (clear b0 b1 b2); go_simp) ⟨U0_93, U1_94, Xz_95⟩ ?_
      (try simp only [Act.put, List.setIfInBounds_toArray, List.set_cons_zero, List.set_cons_succ])
      refine D_one (i := 6) (by kernel_rfl) rfl (fun Kq hKq => ?_)
      go_simp
      refine (rzmulI Oz_103.rd hzn Op'_100.rd hlp').mono ?_
      rintro e w108 ⟨k0, k0n, k0c, rfl, hO, hB⟩
      have hstep : Below vd.heap.size vd w108 := (by first | exact hB | exact below_drew hB)
      have Xa_105 := Xa_88.next hstep
      have Xb_106 := Xb_89.next hstep
      have R0_107 := R0_90.next hstep
      have R1_108 := R1_91.next hstep
      have V_109 := V_92.next hstep
      have U0_110 := U0_93.next hstep
      have U1_111 := U1_94.next hstep
      have Xz_112 := Xz_95.next hstep
      have Xu_113 := Xu_96.next hstep
      have Op_114 := Op_97.below hstep
      have Oq_115 := Oq_98.below hstep
      have Or_116 := Or_99.below hstep
      have Op'_117 := Op'_100.below hstep
      have Oq'_118 := Oq'_101.below hstep
      have Or'_119 := Or'_102.below hstep
      have Oz_120 := Oz_103.below hstep
      have hbel121 := hbel104.next hstep
      have hle121 := hbel121.size
      have hls121 := hstep.size
      clear Xa_88 Xb_89 R0_90 R1_91 V_92 U0_93 U1_94 Xz_95 Xu_96 Op_97 Oq_98 Or_99 Op'_100 Oq'_101 Or'_102 Oz_103 hbel104 hstep
      have Ok0_122 := hO
      have hkn0 : k0n ≤ 4194304 := by rw [← hK]; exact len_le (l := la) hO.len ((HM.out _ (.inl HP.out.2.1)).out)
      have ltk0 := hO.ltOf
      clear hO hB
      (try go_wp2_with fail)
      refine hKq.out _ _ ⟨U0_110, U1_111, Xz_112⟩ (fun hHeld => ?_)
      clear hHeld hKq Kq
      (try simp only [Act.put, List.setIfInBounds_toArray, List.set_cons_zero, List.set_cons_succ])
      refine D_one (i := 7) (by kernel_rfl) rfl (fun Kq hKq => ?_)
      go_simp
      refine (rzsubI Op_114.rd hlp Ok0_122.rd hkn0).mono ?_
      rintro e w109 ⟨f0, f0n, f0c, rfl, hO, hB⟩
      have hstep : Below w108.heap.size w108 w109 := (by first | exact hB | exact below_drew hB)
      have Xa_123 := Xa_105.next hstep
      have Xb_124 := Xb_106.next hstep
      have R0_125 := R0_107.next hstep
      have R1_126 := R1_108.next hstep
      have V_127 := V_109.next hstep
      have U0_128 := U0_110.next hstep
      have U1_129 := U1_111.next hstep
      have Xz_130 := Xz_112.next hstep
      have Xu_131 := Xu_113.next hstep
      have Op_132 := Op_114.below hstep
      have Oq_133 := Oq_115.below hstep
      have Or_134 := Or_116.below hstep
      have Op'_135 := Op'_117.below hstep
      have Oq'_136 := Oq'_118.below hstep
      have Or'_137 := Or'_119.below hstep
      have Oz_138 := Oz_120.below hstep
      have Ok0_139 := Ok0_122.below hstep
      have hbel140 := hbel121.next hstep
      have hle140 := hbel140.size
      have hls140 := hstep.size
      clear Xa_105 Xb_106 R0_107 R1_108 V_109 U0_110 U1_111 Xz_112 Xu_113 Op_114 Oq_115 Or_116 Op'_117 Oq'_118 Or'_119 Oz_120 Ok0_122 hbel121 hstep
      have Of0_141 := hO
      have ltf0 := hO.ltOf
      have awf0g : Aw f0 g := hO.awNew (by omega)
      clear hO hB
      (try go_wp2_with fail)
      refine hKq.out _ _ ⟨U0_128, U1_129, Xz_130⟩ (fun hHeld => ?_)
      clear hHeld hKq Kq
      (try simp only [Act.put, List.setIfInBounds_toArray, List.set_cons_zero, List.set_cons_succ])
      refine D_one (i := 13) (by kernel_rfl) rfl (fun Kq hKq => ?_)
      go_simp
      refine (rzmulI Oz_138.rd hzn Oq'_136.rd hlq').mono ?_
      rintro e w110 ⟨k1, k1n, k1c, rfl, hO, hB⟩
      have hstep : Below w109.heap.size w109 w110 := (by first | exact hB | exact below_drew hB)
      have Xa_142 := Xa_123.next hstep
      have Xb_143 := Xb_124.next hstep
      have R0_144 := R0_125.next hstep
      have R1_145 := R1_126.next hstep
      have V_146 := V_127.next hstep
      have U0_147 := U0_128.next hstep
      have U1_148 := U1_129.next hstep
      have Xz_149 := Xz_130.next hstep
      have Xu_150 := Xu_131.next hstep
      have Op_151 := Op_132.below hstep
      have Oq_152 := Oq_133.below hstep
      have Or_153 := Or_134.below hstep
      have Op'_154 := Op'_135.below hstep
      have Oq'_155 := Oq'_136.below hstep
      have Or'_156 := Or'_137.below hstep
      have Oz_157 := Oz_138.below hstep
      have Ok0_158 := Ok0_139.below hstep
      have Of0_159 := Of0_141.below hstep
      have hbel160 := hbel140.next hstep
      have hle160 := hbel160.size
      have hls160 := hstep.size
      clear Xa_123 Xb_124 R0_125 R1_126 V_127 U0_128 U1_129 Xz_130 Xu_131 Op_132 Oq_133 Or_134 Op'_135 Oq'_136 Or'_137 Oz_138 Ok0_139 Of0_141 hbel140 hstep
      have Ok1_161 := hO
      have hkn1 : k1n ≤ 4194304 := by rw [← hK]; exact len_le (l := la) hO.len ((HM.out _ (.inr (.inl HP.out.2.2.1))).out)
      have ltk1 := hO.ltOf
      clear hO hB
      (try go_wp2_with fail)
      refine hKq.out _ _ ⟨U0_147, U1_148, Xz_149⟩ (fun hHeld => ?_)
      clear hHeld hKq Kq
      (try simp only [Act.put, List.setIfInBounds_toArray, List.set_cons_zero, List.set_cons_succ])
      refine D_one (i := 14) (by kernel_rfl) rfl (fun Kq hKq => ?_)
      go_simp
      refine (rzsubI Oq_152.rd hlq Ok1_161.rd hkn1).mono ?_
      rintro e w111 ⟨f1, f1n, f1c, rfl, hO, hB⟩
      have hstep : Below w110.heap.size w110 w111 := (by first | exact hB | exact below_drew hB)
      have Xa_162 := Xa_142.next hstep
      have Xb_163 := Xb_143.next hstep
      have R0_164 := R0_144.next hstep
      have R1_165 := R1_145.next hstep
      have V_166 := V_146.next hstep
      have U0_167 := U0_147.next hstep
      have U1_168 := U1_148.next hstep
      have Xz_169 := Xz_149.next hstep
      have Xu_170 := Xu_150.next hstep
      have Op_171 := Op_151.below hstep
      have Oq_172 := Oq_152.below hstep
      have Or_173 := Or_153.below hstep
      have Op'_174 := Op'_154.below hstep
      have Oq'_175 := Oq'_155.below hstep
      have Or'_176 := Or'_156.below hstep
      have Oz_177 := Oz_157.below hstep
      have Ok0_178 := Ok0_158.below hstep
      have Of0_179 := Of0_159.below hstep
      have Ok1_180 := Ok1_161.below hstep
      have hbel181 := hbel160.next hstep
      have hle181 := hbel181.size
      have hls181 := hstep.size
      clear Xa_142 Xb_143 R0_144 R1_145 V_146 U0_147 U1_148 Xz_149 Xu_150 Op_151 Oq_152 Or_153 Op'_154 Oq'_155 Or'_156 Oz_157 Ok0_158 Of0_159 Ok1_161 hbel160 hstep
      have Of1_182 := hO
      have ltf1 := hO.ltOf
      have awf1g : Aw f1 g := hO.awNew (by omega)
      have dff0f1 : Diff f0 f1 := ltf0.diff hO (by omega)
      clear hO hB
      (try go_wp2_with fail)
      refine hKq.out _ _ ⟨U0_167, U1_168, Xz_169⟩ (fun hHeld => ?_)
      clear hHeld hKq Kq
      (try simp only [Act.put, List.setIfInBounds_toArray, List.set_cons_zero, List.set_cons_succ])
      refine D_one (i := 20) (by kernel_rfl) rfl (fun Kq hKq => ?_)
      go_simp
      refine (rzmulI Oz_177.rd hzn Or'_176.rd hlr').mono ?_
      rintro e w112 ⟨k2, k2n, k2c, rfl, hO, hB⟩
      have hstep : Below w111.heap.size w111 w112 := (by first | exact hB | exact below_drew hB)
      have Xa_183 := Xa_162.next hstep
      have Xb_184 := Xb_163.next hstep
      have R0_185 := R0_164.next hstep
      have R1_186 := R1_165.next hstep
      have V_187 := V_166.next hstep
      have U0_188 := U0_167.next hstep
      have U1_189 := U1_168.next hstep
      have Xz_190 := Xz_169.next hstep
      have Xu_191 := Xu_170.next hstep
      have Op_192 := Op_171.below hstep
      have Oq_193 := Oq_172.below hstep
      have Or_194 := Or_173.below hstep
      have Op'_195 := Op'_174.below hstep
      have Oq'_196 := Oq'_175.below hstep
      have Or'_197 := Or'_176.below hstep
      have Oz_198 := Oz_177.below hstep
      have Ok0_199 := Ok0_178.below hstep
      have Of0_200 := Of0_179.below hstep
      have Ok1_201 := Ok1_180.below hstep
      have Of1_202 := Of1_182.below hstep
      have hbel203 := hbel181.next hstep
      have hle203 := hbel203.size
      have hls203 := hstep.size
      clear Xa_162 Xb_163 R0_164 R1_165 V_166 U0_167 U1_168 Xz_169 Xu_170 Op_171 Oq_172 Or_173 Op'_174 Oq'_175 Or'_176 Oz_177 Ok0_178 Of0_179 Ok1_180 Of1_182 hbel181 hstep
      have Ok2_204 := hO
      have hkn2 : k2n ≤ 4194304 := by rw [← hK]; exact len_le (l := la) hO.len ((HM.out _ (.inr (.inr HP.out.2.2.2))).out)
      have ltk2 := hO.ltOf
      clear hO hB
      (try go_wp2_with fail)
      refine hKq.out _ _ ⟨U0_188, U1_189, Xz_190⟩ (fun hHeld => ?_)
      clear hHeld hKq Kq
      (try simp only [Act.put, List.setIfInBounds_toArray, List.set_cons_zero, List.set_cons_succ])
      refine D_one (i := 21) (by kernel_rfl) rfl (fun Kq hKq => ?_)
      go_simp
      refine (rzsubI Or_194.rd hlr Ok2_204.rd hkn2).mono ?_
      rintro e w113 ⟨f2, f2n, f2c, rfl, hO, hB⟩
      have hstep : Below w112.heap.size w112 w113 := (by first | exact hB | exact below_drew hB)
      have Xa_205 := Xa_183.next hstep
      have Xb_206 := Xb_184.next hstep
      have R0_207 := R0_185.next hstep
      have R1_208 := R1_186.next hstep
      have V_209 := V_187.next hstep
      have U0_210 := U0_188.next hstep
      have U1_211 := U1_189.next hstep
      have Xz_212 := Xz_190.next hstep
      have Xu_213 := Xu_191.next hstep
      have Op_214 := Op_192.below hstep
      have Oq_215 := Oq_193.below hstep
      have Or_216 := Or_194.below hstep
      have Op'_217 := Op'_195.below hstep
      have Oq'_218 := Oq'_196.below hstep
      have Or'_219 := Or'_197.below hstep
      have Oz_220 := Oz_198.below hstep
      have Ok0_221 := Ok0_199.below hstep
      have Of0_222 := Of0_200.below hstep
      have Ok1_223 := Ok1_201.below hstep
      have Of1_224 := Of1_202.below hstep
      have Ok2_225 := Ok2_204.below hstep
      have hbel226 := hbel203.next hstep
      have hle226 := hbel226.size
      have hls226 := hstep.size
      clear Xa_183 Xb_184 R0_185 R1_186 V_187 U0_188 U1_189 Xz_190 Xu_191 Op_192 Oq_193 Or_194 Op'_195 Oq'_196 Or'_197 Oz_198 Ok0_199 Of0_200 Ok1_201 Of1_202 Ok2_204 hbel203 hstep
      have Of2_227 := hO
      have ltf2 := hO.ltOf
      have awf2g : Aw f2 g := hO.awNew (by omega)
      have dff0f2 : Diff f0 f2 := ltf0.diff hO (by omega)
      have dff1f2 : Diff f1 f2 := ltf1.diff hO (by omega)
      clear hO hB
      (try go_wp2_with fail)
      refine hKq.out _ _ ⟨U0_210, U1_211, Xz_212⟩ (fun hHeld => ?_)
      clear hHeld hKq Kq
      (try simp only [Act.put, List.setIfInBounds_toArray, List.set_cons_zero, List.set_cons_succ])
      refine D_pure (i := 22) (d := some 79) (v := (.agg #[Value.bool (decide (r0 - t0 * r1 < 0)), Value.slice f0 f0n f0c, Value.bool (decide (x0 - t0 * x1 < 0)), Value.slice f1 f1n f1c, Value.bool (decide (y0 - t0 * y1 < 0)), Value.slice f2 f2n f2c])) rfl rfl (by kernel_rfl) (by kernel_rfl) (by kernel_rfl) (fun _ _ _ h => h) (by rfl) (fun _ => by go_simp) ?_
      (try simp only [Act.put, List.setIfInBounds_toArray, List.set_cons_zero, List.set_cons_succ])
      refine D_one (i := 23) (by kernel_rfl) rfl (fun Kq hKq => ?_)
      go_simp
      have hbx := blk_new w113 #[Value.bool (decide (r0 - t0 * r1 < 0)), Value.slice f0 f0n f0c, Value.bool (decide (x0 - t0 * x1 < 0)), Value.slice f1 f1n f1c, Value.bool (decide (y0 - t0 * y1 < 0)), Value.slice f2 f2n f2c] 118
      have hbB := (Below.refl w113.heap.size w113).alloc (Nat.le_refl _) (.cells #[Value.bool (decide (r0 - t0 * r1 < 0)), Value.slice f0 f0n f0c, Value.bool (decide (x0 - t0 * x1 < 0)), Value.slice f1 f1n f1c, Value.bool (decide (y0 - t0 * y1 < 0)), Value.slice f2 f2n f2c] 118)
      have hbg := hbx.lt
      have hstep : Below w113.heap.size w113 (w113.alloc (.cells #[Value.bool (decide (r0 - t0 * r1 < 0)), Value.slice f0 f0n f0c, Value.bool (decide (x0 - t0 * x1 < 0)), Value.slice f1 f1n f1c, Value.bool (decide (y0 - t0 * y1 < 0)), Value.slice f2 f2n f2c] 118)) := (by first | exact hbB | exact below_drew hbB)
      have Xa_228 := Xa_205.next hstep
      have Xb_229 := Xb_206.next hstep
      have R0_230 := R0_207.next hstep
      have R1_231 := R1_208.next hstep
      have V_232 := V_209.next hstep
      have U0_233 := U0_210.next hstep
      have U1_234 := U1_211.next hstep
      have Xz_235 := Xz_212.next hstep
      have Xu_236 := Xu_213.next hstep
      have Op_237 := Op_214.below hstep
      have Oq_238 := Oq_215.below hstep
      have Or_239 := Or_216.below hstep
      have Op'_240 := Op'_217.below hstep
      have Oq'_241 := Oq'_218.below hstep
      have Or'_242 := Or'_219.below hstep
      have Oz_243 := Oz_220.below hstep
      have Ok0_244 := Ok0_221.below hstep
      have Of0_245 := Of0_222.below hstep
      have Ok1_246 := Ok1_223.below hstep
      have Of1_247 := Of1_224.below hstep
      have Ok2_248 := Ok2_225.below hstep
      have Of2_249 := Of2_227.below hstep
      have hbel250 := hbel226.next hstep
      have hle250 := hbel250.size
      have hls250 := hstep.size
      clear Xa_205 Xb_206 R0_207 R1_208 V_209 U0_210 U1_211 Xz_212 Xu_213 Op_214 Oq_215 Or_216 Op'_217 Oq'_218 Or'_219 Oz_220 Ok0_221 Of0_222 Ok1_223 Of1_224 Ok2_225 Of2_227 hbel226 hstep
      have N6_251 := hbx
      clear hbx hbB
      generalize (w113.alloc (.cells #[Value.bool (decide (r0 - t0 * r1 < 0)), Value.slice f0 f0n f0c, Value.bool (decide (x0 - t0 * x1 < 0)), Value.slice f1 f1n f1c, Value.bool (decide (y0 - t0 * y1 < 0)), Value.slice f2 f2n f2c] 118)) = v114 at *
      refine hKq.out _ _ ⟨U0_233, U1_234, Xz_235⟩ (fun hHeld => ?_)
      clear hHeld hKq Kq
      (try simp only [Act.put, List.setIfInBounds_toArray, List.set_cons_zero, List.set_cons_succ])
      refine D_late (i := 24) (by kernel_rfl) rfl (by kernel_rfl) (fun Kq hKq => ?_)
      rw [if_pos (by rfl)]
      refine wp_rows (news := [Value.bool (decide (r0 - t0 * r1 < 0)), Value.slice f0 f0n f0c, Value.bool (decide (x0 - t0 * x1 < 0)), Value.slice f1 f1n f1c, Value.bool (decide (y0 - t0 * y1 < 0)), Value.slice f2 f2n f2c]) _ _ rfl rfl V_232 rfl N6_251 rfl (by simp [Value.oneCell']) (by omega) (by omega) (fun g' cap' w' hR hKp hgg => ?_)
      refine hKq.out _ _ ?_
      clear hKq Kq
      (try simp only [Act.put, List.setIfInBounds_toArray, List.set_cons_zero, List.set_cons_succ])
      refine D_late (i := 25) (by kernel_rfl) rfl (by kernel_rfl) (fun Kq hKq => ?_)
      go_simp
      refine hKq.out _ _ ?_
      clear hKq Kq
      (try simp only [Act.put, List.setIfInBounds_toArray, List.set_cons_zero, List.set_cons_succ])
      refine D_done (by kernel_rfl) ?_ _
      refine NoPanic.normal ?_
      have hC2 := hid (show BzR C (k + 1 + 2) r1.natAbs (r0 - t0 * r1).natAbs by rw [bz_rest HI.out.p0 HI.out.p1 HT0.out]; exact HC'.out)
      have np1 := hid ((Op'_240.kp hKp (fun g' e (e2 : g' = g) => awp'g g' e e2)).mono (B' := W0.heap.size) (by omega))
      have mp1 := hid (aw_any Op'_240 awp'g hgg)
      have nq1 := hid ((Oq'_241.kp hKp (fun g' e (e2 : g' = g) => awq'g g' e e2)).mono (B' := W0.heap.size) (by omega))
      have mq1 := hid (aw_any Oq'_241 awq'g hgg)
      have nr1 := hid ((Or'_242.kp hKp (fun g' e (e2 : g' = g) => awr'g g' e e2)).mono (B' := W0.heap.size) (by omega))
      have mr1 := hid (aw_any Or'_242 awr'g hgg)
      have nf0 := hid ((Of0_245.kp hKp (fun g' e (e2 : g' = g) => awf0g g' e e2)).mono (B' := W0.heap.size) (by omega))
      have mf0 := hid (aw_any Of0_245 awf0g hgg)
      have nf1 := hid ((Of1_247.kp hKp (fun g' e (e2 : g' = g) => awf1g g' e e2)).mono (B' := W0.heap.size) (by omega))
      have mf1 := hid (aw_any Of1_247 awf1g hgg)
      have nf2 := hid ((Of2_249.kp hKp (fun g' e (e2 : g' = g) => awf2g g' e e2)).mono (B' := W0.heap.size) (by omega))
      have mf2 := hid (aw_any Of2_249 awf2g hgg)
      have nXa := hid (Xa_228.kp hKp (show ¬ (w.heap.size = g) by omega))
      have nXb := hid (Xb_229.kp hKp (show ¬ (w.heap.size + 1 = g) by omega))
      have nR0 := hid (R0_230.kp hKp (show ¬ (w.heap.size + 1 + 1 = g) by omega))
      have nR1 := hid (R1_231.kp hKp (show ¬ (w.heap.size + 1 + 1 + 1 = g) by omega))
      have nbel := hid (hbel250.kp hKp (by omega) (fun j hj => by show ¬ (j = g); omega))
      go_wp2
      go_roundw
      case rel =>
        exact ⟨k + 1, g', cap', r1, r0 - t0 * r1, x1, x0 - t0 * x1, y1, y0 - t0 * y1, p', p'n, p'c, q', q'n, q'c, r', r'n, r'c, f0, f0n, f0c, f1, f1n, f1c, f2, f2n, f2c, rfl, hC2, HI', hR, np1.out, nq1.out, nr1.out, nf0.out, nf1.out, nf2.out, ⟨mp1.out, mq1.out, mr1.out, mf0.out, mf1.out, mf2.out⟩, ⟨dfp'q', dfp'r', dfq'r', dff0f1, dff0f2, dff1f2⟩, nXa.out, nXb.out, nR0.out, nR1.out, nbel.out⟩
      case measure => (have := HC'.out.le; show C - (k + 3) < C - (k + 2); omega)

end Go.Proofs.Ytokkfppchfmjcaa
