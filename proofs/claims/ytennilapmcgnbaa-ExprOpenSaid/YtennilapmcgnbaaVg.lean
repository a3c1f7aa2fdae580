/- WALKS OF EXPRESSIONS, 3: a function of x and a number on its right, on its left. -/
import Derived.Test.YtennilapmcgnbaaVf
import Derived.Deep.Cut
import Derived.Deep.CutRange
import Derived.Deep.CutBlock
import Derived.Deep.DeepCutAuto
namespace Go.Proofs.Ytennilapmcgnbaa
set_option linter.unusedVariables false
set_option linter.unusedSimpArgs false
open Go.ChangeShapes Go.WideShapes Go.ChangeAt Go.RowKit Go.NatP

theorem sz_one4 : Sz 1 1 := by show 1 < 4294967296 ^ 1; decide
theorem qs_one : QS 1 1 := ⟨sz_one4, sz_one4⟩
theorem ediv_1 (k : Int) : Rat.divInt k 1 = (k : Rat) := by
  have : Rat.divInt k ((1 : Nat) : Int) = mkRat k 1 := Rat.divInt_ofNat k 1
  rw [← Rat.mkRat_one k]; exact this
theorem qdiv_z {w : World} {a1 b1 : Option Addr} {n1 c1 m1 d1 : Nat} {s : Bool} {x : Rat} {a2 b2 : Option Addr} {n2 c2 m2 d2 : Nat} {t : Bool} {y : Rat} {J K : Nat} (hx : RdQ J w s a1 n1 c1 b1 m1 d1 x) (hJ : J ≤ 1000000) (hy : RdQ K w t a2 n2 c2 b2 m2 d2 y) (hK : K ≤ 1000000) (h : y = 0) :
    Calls Try.prog 13 #[.agg #[.bool s, .slice a1 n1 c1, .slice b1 m1 d1], .agg #[.bool t, .slice a2 n2 c2, .slice b2 m2 d2]] w (RetQZ w) := by
  have h1 := qdiv0 hx hJ hy hK h
  rw [qE_zero h] at h1
  exact h1
theorem qdiv_nz {w : World} {a1 b1 : Option Addr} {n1 c1 m1 d1 : Nat} {s : Bool} {x : Rat} {a2 b2 : Option Addr} {n2 c2 m2 d2 : Nat} {t : Bool} {y : Rat} {J K : Nat} (hx : RdQ J w s a1 n1 c1 b1 m1 d1 x) (hJ : J ≤ 1000000) (hy : RdQ K w t a2 n2 c2 b2 m2 d2 y) (hK : K ≤ 1000000) (h : y ≠ 0) :
    Calls Try.prog 13 #[.agg #[.bool s, .slice a1 n1 c1, .slice b1 m1 d1], .agg #[.bool t, .slice a2 n2 c2, .slice b2 m2 d2]] w (RetQK w (x / y)) := by
  have h1 := qdiv1 hx hJ hy hK h
  rw [qE_pos h] at h1
  exact h1

theorem sgnQ_zero {x : Rat} (h : x = 0) : sgnQ x = 0 := by rw [h]; rfl
theorem sgnQ_ne {x : Rat} (h : x ≠ 0) : ∃ u, sgnQ x = u ∧ (u == 0) = false := ⟨_, rfl, by
  have h1 : x.num ≠ 0 := fun e => h (Rat.num_eq_zero.1 e)
  have h2 : sgnQ x ≠ 0 := by show sgn x.num ≠ 0; have := sgn_cases x.num; omega
  exact beq_false_of_ne h2⟩
theorem blk_put_ab {W : World} {g : Nat} {f : LX} (h : Blk W g f.arr) (A B : FX) : Blk ((((((W.setCell ⟨g, 0, none⟩ (.bool A.s)).setCell ⟨g, 1, none⟩ (.slice A.a A.n A.c)).setCell ⟨g, 2, none⟩ (.slice A.b A.m A.d)).setCell ⟨g, 3, none⟩ (.bool B.s)).setCell ⟨g, 4, none⟩ (.slice B.a B.n B.c)).setCell ⟨g, 5, none⟩ (.slice B.b B.m B.d)) g (⟨A, B, f.C, f.D⟩ : LX).arr := by
  have h0 := h.setCell (i := 0) (v := .bool A.s) (by show 0 < 12; decide)
  have h1 := h0.setCell (i := 1) (v := .slice A.a A.n A.c) (by show 1 < 12; decide)
  have h2 := h1.setCell (i := 2) (v := .slice A.b A.m A.d) (by show 2 < 12; decide)
  have h3 := h2.setCell (i := 3) (v := .bool B.s) (by show 3 < 12; decide)
  have h4 := h3.setCell (i := 4) (v := .slice B.a B.n B.c) (by show 4 < 12; decide)
  have h5 := h4.setCell (i := 5) (v := .slice B.b B.m B.d) (by show 5 < 12; decide)
  exact h5
theorem kp_put6c {p : Nat → Prop} {a w : World} (h : Kp p a w) {g : Nat} (hg : p g) (v0 v1 v2 v3 v4 v5 : Value) : Kp p a ((((((w.setCell ⟨g, 0, none⟩ v0).setCell ⟨g, 1, none⟩ v1).setCell ⟨g, 2, none⟩ v2).setCell ⟨g, 3, none⟩ v3).setCell ⟨g, 4, none⟩ v4).setCell ⟨g, 5, none⟩ v5) :=
  (((((h.setCell (ad := ⟨g, 0, none⟩) hg v0).setCell (ad := ⟨g, 1, none⟩) hg v1).setCell (ad := ⟨g, 2, none⟩) hg v2).setCell (ad := ⟨g, 3, none⟩) hg v3).setCell (ad := ⟨g, 4, none⟩) hg v4).setCell (ad := ⟨g, 5, none⟩) hg v5

set_option maxRecDepth 100000 in
set_option maxHeartbeats 4000000 in
theorem knumE {w : World} (k : Int) (h1 : -9223372036854775808 ≤ k) (h2 : k ≤ 9223372036854775807) :
    Calls Try.prog 65 #[.int .i64 k] w (RetQ w (k : Rat)) := by
  have H := hid (fun w => (qof (w := w) k 1 h1 h2 (by omega) (by omega)).mono fun e w' h => retqe_ok h (zE_pos (by decide)))
  rw [ediv_1] at H
  generalize hq0 : (k : Rat) = q at *
  clear hq0
  have hent := ent1 w #[Value.bool false, Value.slice none 0 0, Value.slice none 0 0] 28
  go_enter Try.func65, Try.ntmps65
  go_wp2_with fail
  generalize (w.alloc (.cells #[Value.bool false, Value.slice none 0 0, Value.slice none 0 0] 28)) = W0 at hent ⊢
  obtain ⟨R0_0, hbel_0, hsz_0⟩ := hent
  have cR0_0_0 : _ = some (Value.bool false) := R0_0.cell 0
  have fR0_0_0 := R0_0.free 0
  have cR0_0_1 : _ = some (Value.slice none 0 0) := R0_0.cell 1
  have fR0_0_1 := R0_0.free 1
  have cR0_0_2 : _ = some (Value.slice none 0 0) := R0_0.cell 2
  have fR0_0_2 := R0_0.free 2
  go_wp2_with fail
  refine (H.out _).mono ?_
  rintro e w1 ⟨qa, qn, qc, qb, qm, qd, rfl, hO, hO', hD, hB⟩
  have hB_1 : Below W0.heap.size W0 w1 := (bl.next hB)
  have R0_1 := R0_0.next hB_1
  have cR0_1_0 : _ = some (Value.bool false) := R0_1.cell 0
  have fR0_1_0 := R0_1.free 0
  have cR0_1_1 : _ = some (Value.slice none 0 0) := R0_1.cell 1
  have fR0_1_1 := R0_1.free 1
  have cR0_1_2 : _ = some (Value.slice none 0 0) := R0_1.cell 2
  have fR0_1_2 := R0_1.free 2
  have hbel_1 := hbel_0.next hB_1
  have hsz_1 := hB_1.size
  clear R0_0 cR0_0_0 fR0_0_0 cR0_0_1 fR0_0_1 cR0_0_2 fR0_0_2 hbel_0 hB_1
  have Oq_1 := hO
  have ltOq := hO.ltB
  have Pq_1 := hO'
  have ltPq := hO'.ltB
  clear hO hO'
  try clear hB
  have hbx := blk_new w1 #[Value.bool (decide (q.num < 0)), Value.slice qa qn qc, Value.slice qb qm qd] 28
  have hbB := (Below.refl w1.heap.size w1).alloc (Nat.le_refl _) (.cells #[Value.bool (decide (q.num < 0)), Value.slice qa qn qc, Value.slice qb qm qd] 28)
  have hltNN := hbx.lt
  have hB_2 : Below w1.heap.size w1 (w1.alloc (.cells #[Value.bool (decide (q.num < 0)), Value.slice qa qn qc, Value.slice qb qm qd] 28)) := hbB
  have R0_2 := R0_1.next hB_2
  have cR0_2_0 : _ = some (Value.bool false) := R0_2.cell 0
  have fR0_2_0 := R0_2.free 0
  have cR0_2_1 : _ = some (Value.slice none 0 0) := R0_2.cell 1
  have fR0_2_1 := R0_2.free 1
  have cR0_2_2 : _ = some (Value.slice none 0 0) := R0_2.cell 2
  have fR0_2_2 := R0_2.free 2
  have Oq_2 := Oq_1.below hB_2
  have Pq_2 := Pq_1.below hB_2
  have hbel_2 := hbel_1.next hB_2
  have hsz_2 := hB_2.size
  clear hB_2
  have NN_2 := hbx
  clear hbx hbB
  have cNN_2_0 : _ = some (Value.bool (decide (q.num < 0))) := NN_2.cell 0
  have cNN_2_1 : _ = some (Value.slice qa qn qc) := NN_2.cell 1
  have cNN_2_2 : _ = some (Value.slice qb qm qd) := NN_2.cell 2
  go_wp2_with fail
  clear R0_1 cR0_1_0 fR0_1_0 cR0_1_1 fR0_1_1 cR0_1_2 fR0_1_2 Oq_1 Pq_1 hbel_1
  generalize (w1.alloc (.cells #[Value.bool (decide (q.num < 0)), Value.slice qa qn qc, Value.slice qb qm qd] 28)) = v2 at *
  go_wp2
  refine bodyPost_ret (v := .agg #[.bool (decide (q.num < 0)), .slice qa qn qc, .slice qb qm qd]) (by simp [results, Try.results65, go_sem, cR0_2_0, cR0_2_1, cR0_2_2]) rfl ?_
  exact retq_set Oq_2 Pq_2 hD hbel_2 (by omega) (by omega)

theorem kone {w : World} : Calls Try.prog 65 #[.int .i64 1] w (RetQ w 1) := knumE 1 (by decide) (by decide)
set_option maxRecDepth 100000 in
set_option maxHeartbeats 4000000 in
theorem right_plus {w : World} {N : Nat → Prop} {f : LX} {F : LV} {s : Bool} {a b : Option Addr} {n c m d J K : Nat} {q : Rat} (hf : LineOK N w f F) (hF : LS F J) (hq : RdQ K w s a n c b m d q) (hQ : QS q K) (hJ : J ≤ 300000) (hK : K ≤ 300000) (hN : ∀ g, w.heap.size ≤ g → N g) :
    Calls Try.prog 78 #[.int .i8 2, .agg f.arr, .agg #[.bool s, .slice a n c, .slice b m d]] w (RetLine N w (rgP F q) 0) := by
  have hNN := hid hN
  have hFF := hid hF
  have hff := hid hf
  have hA := hf.A.rdQ hF.a
  have hBq := hf.B.rdQ hF.b
  have hC := hf.C.rdQ hF.c
  have hDq := hf.D.rdQ hF.d
  have hQQ := hid hQ
  obtain ⟨kc, hkc0⟩ : ∃ z, q * F.c = z := ⟨_, rfl⟩
  obtain ⟨kd, hkd0⟩ : ∃ z, q * F.d = z := ⟨_, rfl⟩
  obtain ⟨za, hza0⟩ : ∃ z, F.a + kc = z := ⟨_, rfl⟩
  obtain ⟨zb, hzb0⟩ : ∃ z, F.b + kd = z := ⟨_, rfl⟩
  have hkc := hid hkc0
  have hkd := hid hkd0
  have hza := hid hza0
  have hzb := hid hzb0
  have hrg := hid (show rgP F q = ⟨za, zb, F.c, F.d⟩ by rw [← hza0, ← hzb0, ← hkc0, ← hkd0]; rfl)
  have hsc := hid (show QS kc (K + J) by rw [← hkc0]; exact hQ.mul hF.c)
  have hsd := hid (show QS kd (K + J) by rw [← hkd0]; exact hQ.mul hF.d)
  clear hkc0 hkd0 hza0 hzb0
  clear hf hF hN hQ
  have hent := ent3 w f.arr #[Value.bool s, Value.slice a n c, Value.slice b m d] #[Value.bool false, Value.slice none 0 0, Value.slice none 0 0, Value.bool false, Value.slice none 0 0, Value.slice none 0 0, Value.bool false, Value.slice none 0 0, Value.slice none 0 0, Value.bool false, Value.slice none 0 0, Value.slice none 0 0] 32 28 32
  go_enter Try.func78, Try.ntmps78
  go_wp2_with fail
  generalize (((w.alloc (.cells f.arr 32)).alloc (.cells #[Value.bool s, Value.slice a n c, Value.slice b m d] 28)).alloc (.cells #[Value.bool false, Value.slice none 0 0, Value.slice none 0 0, Value.bool false, Value.slice none 0 0, Value.slice none 0 0, Value.bool false, Value.slice none 0 0, Value.slice none 0 0, Value.bool false, Value.slice none 0 0, Value.slice none 0 0] 32)) = W0 at hent ⊢
  obtain ⟨X_0, Y_0, R0_0, hbel_0, hsz_0⟩ := hent
  have hA_0 := hA.below hbel_0
  clear hA
  have hBq_0 := hBq.below hbel_0
  clear hBq
  have hC_0 := hC.below hbel_0
  clear hC
  have hDq_0 := hDq.below hbel_0
  clear hDq
  have hq_0 := hq.below hbel_0
  clear hq
  have R1_0 : Blk W0 (w.heap.size + 1 + 1) LX.o.arr := R0_0
  clear R0_0
  go_wp2_with fail
  have hB : Below W0.heap.size W0 W0.drew := (Below.refl _ _).drew
  have hB_1 : Below W0.heap.size W0 W0.drew := hB
  have X_1 := X_0.next hB_1
  have Y_1 := Y_0.next hB_1
  have R1_1 := R1_0.next hB_1
  have hA_1 := hA_0.below hB_1
  have hBq_1 := hBq_0.below hB_1
  have hC_1 := hC_0.below hB_1
  have hDq_1 := hDq_0.below hB_1
  have hq_1 := hq_0.below hB_1
  have hbel_1 := hbel_0.next hB_1
  have hsz_1 := hB_1.size
  clear X_0 Y_0 R1_0 hA_0 hBq_0 hC_0 hDq_0 hq_0 hbel_0 hB_1
  clear hB
  refine wp_region_noPanic ?_
  refine D_region (S := (fun w' => Blk w' (w.heap.size) f.arr ∧ Blk w' (w.heap.size + 1) #[Value.bool s, Value.slice a n c, Value.slice b m d])) (T := [19, 20]) (by kernel_rfl) ⟨X_1, Y_1⟩ (fun hHeld => ?_)
  clear hHeld
  generalize W0.drew = vd1 at *
  refine D_pure (i := 0) (d := some 21) (v := (.pointer (some ⟨w.heap.size, 0, none⟩))) rfl rfl (by kernel_rfl) (by kernel_rfl) (by kernel_rfl) (fun _ _ _ h => h) (by rfl) (fun _ => by go_simp) ?_
  (try simp only [Act.put, List.setIfInBounds_toArray, List.set_cons_zero, List.set_cons_succ])
  refine D_load (i := 1) (d := some 22) (v := (.agg #[Value.bool f.A.s, Value.slice f.A.a f.A.n f.A.c, Value.slice f.A.b f.A.m f.A.d])) [1, 2, 4, 8, 9, 11, 15, 17] rfl rfl (by kernel_rfl) (by kernel_rfl) (by kernel_rfl) (by kernel_rfl) (by kernel_rfl) (by kernel_rfl) (fun _ _ _ h => h) (by rfl) (fun w hSw => by (obtain ⟨b0, b1⟩ := hSw); have l0 : _ = some (Value.bool f.A.s) := b0.cell (0); have l1 : _ = some (Value.slice f.A.a f.A.n f.A.c) := b0.cell (1); have l2 : _ = some (Value.slice f.A.b f.A.m f.A.d) := b0.cell (2); (clear b0 b1); go_simp) ⟨X_1, Y_1⟩ ?_
  (try simp only [Act.put, List.setIfInBounds_toArray, List.set_cons_zero, List.set_cons_succ])
  refine D_load (i := 2) (d := some 23) (v := (.agg #[Value.bool s, Value.slice a n c, Value.slice b m d])) [1, 2, 4, 8, 9, 11, 15, 17] rfl rfl (by kernel_rfl) (by kernel_rfl) (by kernel_rfl) (by kernel_rfl) (by kernel_rfl) (by kernel_rfl) (fun _ _ _ h => h) (by rfl) (fun w hSw => by (obtain ⟨b0, b1⟩ := hSw); have l0 : _ = some (Value.bool s) := b1.cell (0); have l1 : _ = some (Value.slice a n c) := b1.cell (1); have l2 : _ = some (Value.slice b m d) := b1.cell (2); (clear b0 b1); go_simp) ⟨X_1, Y_1⟩ ?_
  (try simp only [Act.put, List.setIfInBounds_toArray, List.set_cons_zero, List.set_cons_succ])
  refine D_pure (i := 3) (d := some 24) (v := (.pointer (some ⟨w.heap.size, 6, none⟩))) rfl rfl (by kernel_rfl) (by kernel_rfl) (by kernel_rfl) (fun _ _ _ h => h) (by rfl) (fun _ => by go_simp) ?_
  (try simp only [Act.put, List.setIfInBounds_toArray, List.set_cons_zero, List.set_cons_succ])
  refine D_load (i := 4) (d := some 25) (v := (.agg #[Value.bool f.C.s, Value.slice f.C.a f.C.n f.C.c, Value.slice f.C.b f.C.m f.C.d])) [1, 2, 4, 8, 9, 11, 15, 17] rfl rfl (by kernel_rfl) (by kernel_rfl) (by kernel_rfl) (by kernel_rfl) (by kernel_rfl) (by kernel_rfl) (fun _ _ _ h => h) (by rfl) (fun w hSw => by (obtain ⟨b0, b1⟩ := hSw); have l0 : _ = some (Value.bool f.C.s) := b0.cell (6); have l1 : _ = some (Value.slice f.C.a f.C.n f.C.c) := b0.cell (7); have l2 : _ = some (Value.slice f.C.b f.C.m f.C.d) := b0.cell (8); (clear b0 b1); go_simp) ⟨X_1, Y_1⟩ ?_
  (try simp only [Act.put, List.setIfInBounds_toArray, List.set_cons_zero, List.set_cons_succ])
  refine D_pure (i := 7) (d := some 28) (v := (.pointer (some ⟨w.heap.size, 3, none⟩))) rfl rfl (by kernel_rfl) (by kernel_rfl) (by kernel_rfl) (fun _ _ _ h => h) (by rfl) (fun _ => by go_simp) ?_
  (try simp only [Act.put, List.setIfInBounds_toArray, List.set_cons_zero, List.set_cons_succ])
  refine D_load (i := 8) (d := some 29) (v := (.agg #[Value.bool f.B.s, Value.slice f.B.a f.B.n f.B.c, Value.slice f.B.b f.B.m f.B.d])) [1, 2, 4, 8, 9, 11, 15, 17] rfl rfl (by kernel_rfl) (by kernel_rfl) (by kernel_rfl) (by kernel_rfl) (by kernel_rfl) (by kernel_rfl) (fun _ _ _ h => h) (by rfl) (fun w hSw => by (obtain ⟨b0, b1⟩ := hSw); have l0 : _ = some (Value.bool f.B.s) := b0.cell (3); have l1 : _ = some (Value.slice f.B.a f.B.n f.B.c) := b0.cell (4); have l2 : _ = some (Value.slice f.B.b f.B.m f.B.d) := b0.cell (5); (clear b0 b1); go_simp) ⟨X_1, Y_1⟩ ?_
  (try simp only [Act.put, List.setIfInBounds_toArray, List.set_cons_zero, List.set_cons_succ])
  refine D_load (i := 9) (d := some 30) (v := (.agg #[Value.bool s, Value.slice a n c, Value.slice b m d])) [1, 2, 4, 8, 9, 11, 15, 17] rfl rfl (by kernel_rfl) (by kernel_rfl) (by kernel_rfl) (by kernel_rfl) (by kernel_rfl) (by kernel_rfl) (fun _ _ _ h => h) (by rfl) (fun w hSw => by (obtain ⟨b0, b1⟩ := hSw); have l0 : _ = some (Value.bool s) := b1.cell (0); have l1 : _ = some (Value.slice a n c) := b1.cell (1); have l2 : _ = some (Value.slice b m d) := b1.cell (2); (clear b0 b1); go_simp) ⟨X_1, Y_1⟩ ?_
  (try simp only [Act.put, List.setIfInBounds_toArray, List.set_cons_zero, List.set_cons_succ])
  refine D_pure (i := 10) (d := some 31) (v := (.pointer (some ⟨w.heap.size, 9, none⟩))) rfl rfl (by kernel_rfl) (by kernel_rfl) (by kernel_rfl) (fun _ _ _ h => h) (by rfl) (fun _ => by go_simp) ?_
  (try simp only [Act.put, List.setIfInBounds_toArray, List.set_cons_zero, List.set_cons_succ])
  refine D_load (i := 11) (d := some 32) (v := (.agg #[Value.bool f.D.s, Value.slice f.D.a f.D.n f.D.c, Value.slice f.D.b f.D.m f.D.d])) [1, 2, 4, 8, 9, 11, 15, 17] rfl rfl (by kernel_rfl) (by kernel_rfl) (by kernel_rfl) (by kernel_rfl) (by kernel_rfl) (by kernel_rfl) (fun _ _ _ h => h) (by rfl) (fun w hSw => by (obtain ⟨b0, b1⟩ := hSw); have l0 : _ = some (Value.bool f.D.s) := b0.cell (9); have l1 : _ = some (Value.slice f.D.a f.D.n f.D.c) := b0.cell (10); have l2 : _ = some (Value.slice f.D.b f.D.m f.D.d) := b0.cell (11); (clear b0 b1); go_simp) ⟨X_1, Y_1⟩ ?_
  (try simp only [Act.put, List.setIfInBounds_toArray, List.set_cons_zero, List.set_cons_succ])
  refine D_pure (i := 14) (d := some 35) (v := (.pointer (some ⟨w.heap.size, 6, none⟩))) rfl rfl (by kernel_rfl) (by kernel_rfl) (by kernel_rfl) (fun _ _ _ h => h) (by rfl) (fun _ => by go_simp) ?_
  (try simp only [Act.put, List.setIfInBounds_toArray, List.set_cons_zero, List.set_cons_succ])
  refine D_load (i := 15) (d := some 36) (v := (.agg #[Value.bool f.C.s, Value.slice f.C.a f.C.n f.C.c, Value.slice f.C.b f.C.m f.C.d])) [1, 2, 4, 8, 9, 11, 15, 17] rfl rfl (by kernel_rfl) (by kernel_rfl) (by kernel_rfl) (by kernel_rfl) (by kernel_rfl) (by kernel_rfl) (fun _ _ _ h => h) (by rfl) (fun w hSw => by (obtain ⟨b0, b1⟩ := hSw); have l0 : _ = some (Value.bool f.C.s) := b0.cell (6); have l1 : _ = some (Value.slice f.C.a f.C.n f.C.c) := b0.cell (7); have l2 : _ = some (Value.slice f.C.b f.C.m f.C.d) := b0.cell (8); (clear b0 b1); go_simp) ⟨X_1, Y_1⟩ ?_
  (try simp only [Act.put, List.setIfInBounds_toArray, List.set_cons_zero, List.set_cons_succ])
  refine D_pure (i := 16) (d := some 37) (v := (.pointer (some ⟨w.heap.size, 9, none⟩))) rfl rfl (by kernel_rfl) (by kernel_rfl) (by kernel_rfl) (fun _ _ _ h => h) (by rfl) (fun _ => by go_simp) ?_
  (try simp only [Act.put, List.setIfInBounds_toArray, List.set_cons_zero, List.set_cons_succ])
  refine D_load (i := 17) (d := some 38) (v := (.agg #[Value.bool f.D.s, Value.slice f.D.a f.D.n f.D.c, Value.slice f.D.b f.D.m f.D.d])) [1, 2, 4, 8, 9, 11, 15, 17] rfl rfl (by kernel_rfl) (by kernel_rfl) (by kernel_rfl) (by kernel_rfl) (by kernel_rfl) (by kernel_rfl) (fun _ _ _ h => h) (by rfl) (fun w hSw => by (obtain ⟨b0, b1⟩ := hSw); have l0 : _ = some (Value.bool f.D.s) := b0.cell (9); have l1 : _ = some (Value.slice f.D.a f.D.n f.D.c) := b0.cell (10); have l2 : _ = some (Value.slice f.D.b f.D.m f.D.d) := b0.cell (11); (clear b0 b1); go_simp) ⟨X_1, Y_1⟩ ?_
  (try simp only [Act.put, List.setIfInBounds_toArray, List.set_cons_zero, List.set_cons_succ])
  refine D_one (i := 5) (by kernel_rfl) rfl (fun Kq hKq => ?_)
  go_simp
  refine ((show Calls _ _ _ _ (RetQ _ kc) from hkc.out ▸ qmul hq_1 (by omega) hC_1 (by omega))).mono ?_
  rintro e w2 ⟨ua, un, uc, ub, um, ud, rfl, hO, hO', hD, hB⟩
  have hB_2 : Below vd1.heap.size vd1 w2 := (bl.next hB)
  have X_2 := X_1.next hB_2
  have Y_2 := Y_1.next hB_2
  have R1_2 := R1_1.next hB_2
  have hA_2 := hA_1.below hB_2
  have hBq_2 := hBq_1.below hB_2
  have hC_2 := hC_1.below hB_2
  have hDq_2 := hDq_1.below hB_2
  have hq_2 := hq_1.below hB_2
  have hbel_2 := hbel_1.next hB_2
  have hsz_2 := hB_2.size
  clear X_1 Y_1 R1_1 hA_1 hBq_1 hC_1 hDq_1 hq_1 hbel_1 hB_2
  have Ou_2 := (show Own vd1.heap.size _ _ _ _ _ from hO)
  have ltOu := (show Own vd1.heap.size _ _ _ _ _ from hO).ltB
  have Pu_2 := (show Own vd1.heap.size _ _ _ _ _ from hO')
  have ltPu := (show Own vd1.heap.size _ _ _ _ _ from hO').ltB
  have Du := hid hD
  clear hO hO' hD
  try clear hB
  (try go_wp2_with fail)
  refine hKq.out _ _ ⟨X_2, Y_2⟩ (fun hHeld => ?_)
  clear hHeld hKq Kq
  (try simp only [Act.put, List.setIfInBounds_toArray, List.set_cons_zero, List.set_cons_succ])
  refine D_one (i := 6) (by kernel_rfl) rfl (fun Kq hKq => ?_)
  go_simp
  refine ((show Calls _ _ _ _ (RetQ _ za) from hza.out ▸ qadd hA_2 (by omega) (Ou_2.rdQ Pu_2 hsc.out) (by omega))).mono ?_
  rintro e w3 ⟨va, vn, vc, vb, vm, vd, rfl, hO, hO', hD, hB⟩
  have hB_3 : Below w2.heap.size w2 w3 := (bl.next hB)
  have X_3 := X_2.next hB_3
  have Y_3 := Y_2.next hB_3
  have R1_3 := R1_2.next hB_3
  have hA_3 := hA_2.below hB_3
  have hBq_3 := hBq_2.below hB_3
  have hC_3 := hC_2.below hB_3
  have hDq_3 := hDq_2.below hB_3
  have hq_3 := hq_2.below hB_3
  have Ou_3 := Ou_2.below hB_3
  have Pu_3 := Pu_2.below hB_3
  have hbel_3 := hbel_2.next hB_3
  have hsz_3 := hB_3.size
  clear X_2 Y_2 R1_2 hA_2 hBq_2 hC_2 hDq_2 hq_2 Ou_2 Pu_2 hbel_2 hB_3
  have Ov_3 := (show Own w2.heap.size _ _ _ _ _ from hO)
  have ltOv := (show Own w2.heap.size _ _ _ _ _ from hO).ltB
  have Pv_3 := (show Own w2.heap.size _ _ _ _ _ from hO')
  have ltPv := (show Own w2.heap.size _ _ _ _ _ from hO').ltB
  have Dv := hid hD
  clear hO hO' hD
  try clear hB
  (try go_wp2_with fail)
  refine hKq.out _ _ ⟨X_3, Y_3⟩ (fun hHeld => ?_)
  clear hHeld hKq Kq
  (try simp only [Act.put, List.setIfInBounds_toArray, List.set_cons_zero, List.set_cons_succ])
  refine D_one (i := 12) (by kernel_rfl) rfl (fun Kq hKq => ?_)
  go_simp
  refine ((show Calls _ _ _ _ (RetQ _ kd) from hkd.out ▸ qmul hq_3 (by omega) hDq_3 (by omega))).mono ?_
  rintro e w4 ⟨ta, tn, tc, tb, tm, td, rfl, hO, hO', hD, hB⟩
  have hB_4 : Below w3.heap.size w3 w4 := (bl.next hB)
  have X_4 := X_3.next hB_4
  have Y_4 := Y_3.next hB_4
  have R1_4 := R1_3.next hB_4
  have hA_4 := hA_3.below hB_4
  have hBq_4 := hBq_3.below hB_4
  have hC_4 := hC_3.below hB_4
  have hDq_4 := hDq_3.below hB_4
  have hq_4 := hq_3.below hB_4
  have Ou_4 := Ou_3.below hB_4
  have Pu_4 := Pu_3.below hB_4
  have Ov_4 := Ov_3.below hB_4
  have Pv_4 := Pv_3.below hB_4
  have hbel_4 := hbel_3.next hB_4
  have hsz_4 := hB_4.size
  clear X_3 Y_3 R1_3 hA_3 hBq_3 hC_3 hDq_3 hq_3 Ou_3 Pu_3 Ov_3 Pv_3 hbel_3 hB_4
  have Ot_4 := (show Own w3.heap.size _ _ _ _ _ from hO)
  have ltOt := (show Own w3.heap.size _ _ _ _ _ from hO).ltB
  have Pt_4 := (show Own w3.heap.size _ _ _ _ _ from hO')
  have ltPt := (show Own w3.heap.size _ _ _ _ _ from hO').ltB
  have Dt := hid hD
  clear hO hO' hD
  try clear hB
  (try go_wp2_with fail)
  refine hKq.out _ _ ⟨X_4, Y_4⟩ (fun hHeld => ?_)
  clear hHeld hKq Kq
  (try simp only [Act.put, List.setIfInBounds_toArray, List.set_cons_zero, List.set_cons_succ])
  refine D_one (i := 13) (by kernel_rfl) rfl (fun Kq hKq => ?_)
  go_simp
  refine ((show Calls _ _ _ _ (RetQ _ zb) from hzb.out ▸ qadd hBq_4 (by omega) (Ot_4.rdQ Pt_4 hsd.out) (by omega))).mono ?_
  rintro e w5 ⟨ya, yn, yc, yb, ym, yd, rfl, hO, hO', hD, hB⟩
  have hB_5 : Below w4.heap.size w4 w5 := (bl.next hB)
  have X_5 := X_4.next hB_5
  have Y_5 := Y_4.next hB_5
  have R1_5 := R1_4.next hB_5
  have hA_5 := hA_4.below hB_5
  have hBq_5 := hBq_4.below hB_5
  have hC_5 := hC_4.below hB_5
  have hDq_5 := hDq_4.below hB_5
  have hq_5 := hq_4.below hB_5
  have Ou_5 := Ou_4.below hB_5
  have Pu_5 := Pu_4.below hB_5
  have Ov_5 := Ov_4.below hB_5
  have Pv_5 := Pv_4.below hB_5
  have Ot_5 := Ot_4.below hB_5
  have Pt_5 := Pt_4.below hB_5
  have hbel_5 := hbel_4.next hB_5
  have hsz_5 := hB_5.size
  clear X_4 Y_4 R1_4 hA_4 hBq_4 hC_4 hDq_4 hq_4 Ou_4 Pu_4 Ov_4 Pv_4 Ot_4 Pt_4 hbel_4 hB_5
  have Oy_5 := (show Own w4.heap.size _ _ _ _ _ from hO)
  have ltOy := (show Own w4.heap.size _ _ _ _ _ from hO).ltB
  have Py_5 := (show Own w4.heap.size _ _ _ _ _ from hO')
  have ltPy := (show Own w4.heap.size _ _ _ _ _ from hO').ltB
  have Dy := hid hD
  clear hO hO' hD
  try clear hB
  (try go_wp2_with fail)
  refine hKq.out _ _ ⟨X_5, Y_5⟩ (fun hHeld => ?_)
  clear hHeld hKq Kq
  (try simp only [Act.put, List.setIfInBounds_toArray, List.set_cons_zero, List.set_cons_succ])
  refine D_pure (i := 18) (d := some 39) (v := (.agg #[Value.bool (decide ((za).num < 0)), Value.slice va vn vc, Value.slice vb vm vd, Value.bool (decide ((zb).num < 0)), Value.slice ya yn yc, Value.slice yb ym yd, Value.bool f.C.s, Value.slice f.C.a f.C.n f.C.c, Value.slice f.C.b f.C.m f.C.d, Value.bool f.D.s, Value.slice f.D.a f.D.n f.D.c, Value.slice f.D.b f.D.m f.D.d])) rfl rfl (by kernel_rfl) (by kernel_rfl) (by kernel_rfl) (fun _ _ _ h => h) (by rfl) (fun _ => by go_simp) ?_
  (try simp only [Act.put, List.setIfInBounds_toArray, List.set_cons_zero, List.set_cons_succ])
  refine D_late (i := 19) (by kernel_rfl) rfl (by kernel_rfl) (fun Kq hKq => ?_)
  rw [if_pos (by rfl)]
  refine wp_storeL (p := ⟨⟨decide ((za).num < 0), va, vn, vc, vb, vm, vd⟩, ⟨decide ((zb).num < 0), ya, yn, yc, yb, ym, yd⟩, f.C, f.D⟩) _ _ rfl rfl rfl R1_5 (fun ws hbs hks => ?_)
  refine hKq.out _ _ ?_
  clear hKq Kq
  (try simp only [Act.put, List.setIfInBounds_toArray, List.set_cons_zero, List.set_cons_succ])
  refine D_late (i := 20) (by kernel_rfl) rfl (by kernel_rfl) (fun Kq hKq => ?_)
  go_simp
  refine hKq.out _ _ ?_
  clear hKq Kq
  (try simp only [Act.put, List.setIfInBounds_toArray, List.set_cons_zero, List.set_cons_succ])
  refine D_done (by kernel_rfl) ?_ _
  refine NoPanic.normal ?_
  have hbl := hbel_5.kp hks hbel_5.size (fun j hj (e : j = _) => by omega)
  go_wp2_with fail
  refine bodyPost_ret (res_blk_tmp Try.results78 rfl rfl hbs Try.underlying32 rfl (by kernel_rfl)) rfl ?_
  exact ⟨_, rfl, (by rw [hrg.out]; exact ⟨.inl (FN.new (Ov_5.kp hks (fun g' e (e2 : g' = _) => by have := (Ov_5.lt' g' e).1; omega)) (Pv_5.kp hks (fun g' e (e2 : g' = _) => by have := (Pv_5.lt' g' e).1; omega)) Dv.out (fun g hg => hNN.out g (by omega)) (fun g hg => hNN.out g (by omega))), .inl (FN.new (Oy_5.kp hks (fun g' e (e2 : g' = _) => by have := (Oy_5.lt' g' e).1; omega)) (Py_5.kp hks (fun g' e (e2 : g' = _) => by have := (Py_5.lt' g' e).1; omega)) Dy.out (fun g hg => hNN.out g (by omega)) (fun g hg => hNN.out g (by omega))), hff.out.C.below hbl, hff.out.D.below hbl⟩), hbl⟩

set_option maxRecDepth 100000 in
set_option maxHeartbeats 4000000 in
theorem right_times {w : World} {N : Nat → Prop} {f : LX} {F : LV} {s : Bool} {a b : Option Addr} {n c m d J K : Nat} {q : Rat} (hf : LineOK N w f F) (hF : LS F J) (hq : RdQ K w s a n c b m d q) (hQ : QS q K) (hJ : J ≤ 300000) (hK : K ≤ 300000) (hN : ∀ g, w.heap.size ≤ g → N g) :
    Calls Try.prog 78 #[.int .i8 4, .agg f.arr, .agg #[.bool s, .slice a n c, .slice b m d]] w (RetLine N w (rgT F q) 0) := by
  have hNN := hid hN
  have hFF := hid hF
  have hff := hid hf
  have hA := hf.A.rdQ hF.a
  have hBq := hf.B.rdQ hF.b
  have hC := hf.C.rdQ hF.c
  have hDq := hf.D.rdQ hF.d
  have hQQ := hid hQ
  obtain ⟨za, hza0⟩ : ∃ z, q * F.a = z := ⟨_, rfl⟩
  obtain ⟨zb, hzb0⟩ : ∃ z, q * F.b = z := ⟨_, rfl⟩
  have hza := hid hza0
  have hzb := hid hzb0
  have hrg := hid (show rgT F q = ⟨za, zb, F.c, F.d⟩ by rw [← hza0, ← hzb0]; rfl)
  clear hza0 hzb0
  clear hf hF hN hQ
  have hent := ent3 w f.arr #[Value.bool s, Value.slice a n c, Value.slice b m d] #[Value.bool false, Value.slice none 0 0, Value.slice none 0 0, Value.bool false, Value.slice none 0 0, Value.slice none 0 0, Value.bool false, Value.slice none 0 0, Value.slice none 0 0, Value.bool false, Value.slice none 0 0, Value.slice none 0 0] 32 28 32
  go_enter Try.func78, Try.ntmps78
  go_wp2_with fail
  generalize (((w.alloc (.cells f.arr 32)).alloc (.cells #[Value.bool s, Value.slice a n c, Value.slice b m d] 28)).alloc (.cells #[Value.bool false, Value.slice none 0 0, Value.slice none 0 0, Value.bool false, Value.slice none 0 0, Value.slice none 0 0, Value.bool false, Value.slice none 0 0, Value.slice none 0 0, Value.bool false, Value.slice none 0 0, Value.slice none 0 0] 32)) = W0 at hent ⊢
  obtain ⟨X_0, Y_0, R0_0, hbel_0, hsz_0⟩ := hent
  have hA_0 := hA.below hbel_0
  clear hA
  have hBq_0 := hBq.below hbel_0
  clear hBq
  have hC_0 := hC.below hbel_0
  clear hC
  have hDq_0 := hDq.below hbel_0
  clear hDq
  have hq_0 := hq.below hbel_0
  clear hq
  have R1_0 : Blk W0 (w.heap.size + 1 + 1) LX.o.arr := R0_0
  clear R0_0
  go_wp2_with fail
  have hB : Below W0.heap.size W0 W0.drew := (Below.refl _ _).drew
  have hB_1 : Below W0.heap.size W0 W0.drew := hB
  have X_1 := X_0.next hB_1
  have Y_1 := Y_0.next hB_1
  have R1_1 := R1_0.next hB_1
  have hA_1 := hA_0.below hB_1
  have hBq_1 := hBq_0.below hB_1
  have hC_1 := hC_0.below hB_1
  have hDq_1 := hDq_0.below hB_1
  have hq_1 := hq_0.below hB_1
  have hbel_1 := hbel_0.next hB_1
  have hsz_1 := hB_1.size
  clear X_0 Y_0 R1_0 hA_0 hBq_0 hC_0 hDq_0 hq_0 hbel_0 hB_1
  clear hB
  refine wp_region_noPanic ?_
  refine D_region (S := (fun w' => Blk w' (w.heap.size) f.arr ∧ Blk w' (w.heap.size + 1) #[Value.bool s, Value.slice a n c, Value.slice b m d])) (T := [13, 14]) (by kernel_rfl) ⟨X_1, Y_1⟩ (fun hHeld => ?_)
  clear hHeld
  generalize W0.drew = vd1 at *
  refine D_load (i := 0) (d := some 53) (v := (.agg #[Value.bool s, Value.slice a n c, Value.slice b m d])) [0, 2, 4, 6, 9, 11] rfl rfl (by kernel_rfl) (by kernel_rfl) (by kernel_rfl) (by kernel_rfl) (by kernel_rfl) (by kernel_rfl) (fun _ _ _ h => h) (by rfl) (fun w hSw => by (obtain ⟨b0, b1⟩ := hSw); have l0 : _ = some (Value.bool s) := b1.cell (0); have l1 : _ = some (Value.slice a n c) := b1.cell (1); have l2 : _ = some (Value.slice b m d) := b1.cell (2); (clear b0 b1); go_simp) ⟨X_1, Y_1⟩ ?_
  (try simp only [Act.put, List.setIfInBounds_toArray, List.set_cons_zero, List.set_cons_succ])
  refine D_pure (i := 1) (d := some 54) (v := (.pointer (some ⟨w.heap.size, 0, none⟩))) rfl rfl (by kernel_rfl) (by kernel_rfl) (by kernel_rfl) (fun _ _ _ h => h) (by rfl) (fun _ => by go_simp) ?_
  (try simp only [Act.put, List.setIfInBounds_toArray, List.set_cons_zero, List.set_cons_succ])
  refine D_load (i := 2) (d := some 55) (v := (.agg #[Value.bool f.A.s, Value.slice f.A.a f.A.n f.A.c, Value.slice f.A.b f.A.m f.A.d])) [0, 2, 4, 6, 9, 11] rfl rfl (by kernel_rfl) (by kernel_rfl) (by kernel_rfl) (by kernel_rfl) (by kernel_rfl) (by kernel_rfl) (fun _ _ _ h => h) (by rfl) (fun w hSw => by (obtain ⟨b0, b1⟩ := hSw); have l0 : _ = some (Value.bool f.A.s) := b0.cell (0); have l1 : _ = some (Value.slice f.A.a f.A.n f.A.c) := b0.cell (1); have l2 : _ = some (Value.slice f.A.b f.A.m f.A.d) := b0.cell (2); (clear b0 b1); go_simp) ⟨X_1, Y_1⟩ ?_
  (try simp only [Act.put, List.setIfInBounds_toArray, List.set_cons_zero, List.set_cons_succ])
  refine D_load (i := 4) (d := some 57) (v := (.agg #[Value.bool s, Value.slice a n c, Value.slice b m d])) [0, 2, 4, 6, 9, 11] rfl rfl (by kernel_rfl) (by kernel_rfl) (by kernel_rfl) (by kernel_rfl) (by kernel_rfl) (by kernel_rfl) (fun _ _ _ h => h) (by rfl) (fun w hSw => by (obtain ⟨b0, b1⟩ := hSw); have l0 : _ = some (Value.bool s) := b1.cell (0); have l1 : _ = some (Value.slice a n c) := b1.cell (1); have l2 : _ = some (Value.slice b m d) := b1.cell (2); (clear b0 b1); go_simp) ⟨X_1, Y_1⟩ ?_
  (try simp only [Act.put, List.setIfInBounds_toArray, List.set_cons_zero, List.set_cons_succ])
  refine D_pure (i := 5) (d := some 58) (v := (.pointer (some ⟨w.heap.size, 3, none⟩))) rfl rfl (by kernel_rfl) (by kernel_rfl) (by kernel_rfl) (fun _ _ _ h => h) (by rfl) (fun _ => by go_simp) ?_
  (try simp only [Act.put, List.setIfInBounds_toArray, List.set_cons_zero, List.set_cons_succ])
  refine D_load (i := 6) (d := some 59) (v := (.agg #[Value.bool f.B.s, Value.slice f.B.a f.B.n f.B.c, Value.slice f.B.b f.B.m f.B.d])) [0, 2, 4, 6, 9, 11] rfl rfl (by kernel_rfl) (by kernel_rfl) (by kernel_rfl) (by kernel_rfl) (by kernel_rfl) (by kernel_rfl) (fun _ _ _ h => h) (by rfl) (fun w hSw => by (obtain ⟨b0, b1⟩ := hSw); have l0 : _ = some (Value.bool f.B.s) := b0.cell (3); have l1 : _ = some (Value.slice f.B.a f.B.n f.B.c) := b0.cell (4); have l2 : _ = some (Value.slice f.B.b f.B.m f.B.d) := b0.cell (5); (clear b0 b1); go_simp) ⟨X_1, Y_1⟩ ?_
  (try simp only [Act.put, List.setIfInBounds_toArray, List.set_cons_zero, List.set_cons_succ])
  refine D_pure (i := 8) (d := some 61) (v := (.pointer (some ⟨w.heap.size, 6, none⟩))) rfl rfl (by kernel_rfl) (by kernel_rfl) (by kernel_rfl) (fun _ _ _ h => h) (by rfl) (fun _ => by go_simp) ?_
  (try simp only [Act.put, List.setIfInBounds_toArray, List.set_cons_zero, List.set_cons_succ])
  refine D_load (i := 9) (d := some 62) (v := (.agg #[Value.bool f.C.s, Value.slice f.C.a f.C.n f.C.c, Value.slice f.C.b f.C.m f.C.d])) [0, 2, 4, 6, 9, 11] rfl rfl (by kernel_rfl) (by kernel_rfl) (by kernel_rfl) (by kernel_rfl) (by kernel_rfl) (by kernel_rfl) (fun _ _ _ h => h) (by rfl) (fun w hSw => by (obtain ⟨b0, b1⟩ := hSw); have l0 : _ = some (Value.bool f.C.s) := b0.cell (6); have l1 : _ = some (Value.slice f.C.a f.C.n f.C.c) := b0.cell (7); have l2 : _ = some (Value.slice f.C.b f.C.m f.C.d) := b0.cell (8); (clear b0 b1); go_simp) ⟨X_1, Y_1⟩ ?_
  (try simp only [Act.put, List.setIfInBounds_toArray, List.set_cons_zero, List.set_cons_succ])
  refine D_pure (i := 10) (d := some 63) (v := (.pointer (some ⟨w.heap.size, 9, none⟩))) rfl rfl (by kernel_rfl) (by kernel_rfl) (by kernel_rfl) (fun _ _ _ h => h) (by rfl) (fun _ => by go_simp) ?_
  (try simp only [Act.put, List.setIfInBounds_toArray, List.set_cons_zero, List.set_cons_succ])
  refine D_load (i := 11) (d := some 64) (v := (.agg #[Value.bool f.D.s, Value.slice f.D.a f.D.n f.D.c, Value.slice f.D.b f.D.m f.D.d])) [0, 2, 4, 6, 9, 11] rfl rfl (by kernel_rfl) (by kernel_rfl) (by kernel_rfl) (by kernel_rfl) (by kernel_rfl) (by kernel_rfl) (fun _ _ _ h => h) (by rfl) (fun w hSw => by (obtain ⟨b0, b1⟩ := hSw); have l0 : _ = some (Value.bool f.D.s) := b0.cell (9); have l1 : _ = some (Value.slice f.D.a f.D.n f.D.c) := b0.cell (10); have l2 : _ = some (Value.slice f.D.b f.D.m f.D.d) := b0.cell (11); (clear b0 b1); go_simp) ⟨X_1, Y_1⟩ ?_
  (try simp only [Act.put, List.setIfInBounds_toArray, List.set_cons_zero, List.set_cons_succ])
  refine D_one (i := 3) (by kernel_rfl) rfl (fun Kq hKq => ?_)
  go_simp
  refine ((show Calls _ _ _ _ (RetQ _ za) from hza.out ▸ qmul hq_1 (by omega) hA_1 (by omega))).mono ?_
  rintro e w2 ⟨va, vn, vc, vb, vm, vd, rfl, hO, hO', hD, hB⟩
  have hB_2 : Below vd1.heap.size vd1 w2 := (bl.next hB)
  have X_2 := X_1.next hB_2
  have Y_2 := Y_1.next hB_2
  have R1_2 := R1_1.next hB_2
  have hA_2 := hA_1.below hB_2
  have hBq_2 := hBq_1.below hB_2
  have hC_2 := hC_1.below hB_2
  have hDq_2 := hDq_1.below hB_2
  have hq_2 := hq_1.below hB_2
  have hbel_2 := hbel_1.next hB_2
  have hsz_2 := hB_2.size
  clear X_1 Y_1 R1_1 hA_1 hBq_1 hC_1 hDq_1 hq_1 hbel_1 hB_2
  have Ov_2 := (show Own vd1.heap.size _ _ _ _ _ from hO)
  have ltOv := (show Own vd1.heap.size _ _ _ _ _ from hO).ltB
  have Pv_2 := (show Own vd1.heap.size _ _ _ _ _ from hO')
  have ltPv := (show Own vd1.heap.size _ _ _ _ _ from hO').ltB
  have Dv := hid hD
  clear hO hO' hD
  try clear hB
  (try go_wp2_with fail)
  refine hKq.out _ _ ⟨X_2, Y_2⟩ (fun hHeld => ?_)
  clear hHeld hKq Kq
  (try simp only [Act.put, List.setIfInBounds_toArray, List.set_cons_zero, List.set_cons_succ])
  refine D_one (i := 7) (by kernel_rfl) rfl (fun Kq hKq => ?_)
  go_simp
  refine ((show Calls _ _ _ _ (RetQ _ zb) from hzb.out ▸ qmul hq_2 (by omega) hBq_2 (by omega))).mono ?_
  rintro e w3 ⟨ya, yn, yc, yb, ym, yd, rfl, hO, hO', hD, hB⟩
  have hB_3 : Below w2.heap.size w2 w3 := (bl.next hB)
  have X_3 := X_2.next hB_3
  have Y_3 := Y_2.next hB_3
  have R1_3 := R1_2.next hB_3
  have hA_3 := hA_2.below hB_3
  have hBq_3 := hBq_2.below hB_3
  have hC_3 := hC_2.below hB_3
  have hDq_3 := hDq_2.below hB_3
  have hq_3 := hq_2.below hB_3
  have Ov_3 := Ov_2.below hB_3
  have Pv_3 := Pv_2.below hB_3
  have hbel_3 := hbel_2.next hB_3
  have hsz_3 := hB_3.size
  clear X_2 Y_2 R1_2 hA_2 hBq_2 hC_2 hDq_2 hq_2 Ov_2 Pv_2 hbel_2 hB_3
  have Oy_3 := (show Own w2.heap.size _ _ _ _ _ from hO)
  have ltOy := (show Own w2.heap.size _ _ _ _ _ from hO).ltB
  have Py_3 := (show Own w2.heap.size _ _ _ _ _ from hO')
  have ltPy := (show Own w2.heap.size _ _ _ _ _ from hO').ltB
  have Dy := hid hD
  clear hO hO' hD
  try clear hB
  (try go_wp2_with fail)
  refine hKq.out _ _ ⟨X_3, Y_3⟩ (fun hHeld => ?_)
  clear hHeld hKq Kq
  (try simp only [Act.put, List.setIfInBounds_toArray, List.set_cons_zero, List.set_cons_succ])
  refine D_pure (i := 12) (d := some 65) (v := (.agg #[Value.bool (decide ((za).num < 0)), Value.slice va vn vc, Value.slice vb vm vd, Value.bool (decide ((zb).num < 0)), Value.slice ya yn yc, Value.slice yb ym yd, Value.bool f.C.s, Value.slice f.C.a f.C.n f.C.c, Value.slice f.C.b f.C.m f.C.d, Value.bool f.D.s, Value.slice f.D.a f.D.n f.D.c, Value.slice f.D.b f.D.m f.D.d])) rfl rfl (by kernel_rfl) (by kernel_rfl) (by kernel_rfl) (fun _ _ _ h => h) (by rfl) (fun _ => by go_simp) ?_
  (try simp only [Act.put, List.setIfInBounds_toArray, List.set_cons_zero, List.set_cons_succ])
  refine D_late (i := 13) (by kernel_rfl) rfl (by kernel_rfl) (fun Kq hKq => ?_)
  rw [if_pos (by rfl)]
  refine wp_storeL (p := ⟨⟨decide ((za).num < 0), va, vn, vc, vb, vm, vd⟩, ⟨decide ((zb).num < 0), ya, yn, yc, yb, ym, yd⟩, f.C, f.D⟩) _ _ rfl rfl rfl R1_3 (fun ws hbs hks => ?_)
  refine hKq.out _ _ ?_
  clear hKq Kq
  (try simp only [Act.put, List.setIfInBounds_toArray, List.set_cons_zero, List.set_cons_succ])
  refine D_late (i := 14) (by kernel_rfl) rfl (by kernel_rfl) (fun Kq hKq => ?_)
  go_simp
  refine hKq.out _ _ ?_
  clear hKq Kq
  (try simp only [Act.put, List.setIfInBounds_toArray, List.set_cons_zero, List.set_cons_succ])
  refine D_done (by kernel_rfl) ?_ _
  refine NoPanic.normal ?_
  have hbl := hbel_3.kp hks hbel_3.size (fun j hj (e : j = _) => by omega)
  go_wp2_with fail
  refine bodyPost_ret (res_blk_tmp Try.results78 rfl rfl hbs Try.underlying32 rfl (by kernel_rfl)) rfl ?_
  exact ⟨_, rfl, (by rw [hrg.out]; exact ⟨.inl (FN.new (Ov_3.kp hks (fun g' e (e2 : g' = _) => by have := (Ov_3.lt' g' e).1; omega)) (Pv_3.kp hks (fun g' e (e2 : g' = _) => by have := (Pv_3.lt' g' e).1; omega)) Dv.out (fun g hg => hNN.out g (by omega)) (fun g hg => hNN.out g (by omega))), .inl (FN.new (Oy_3.kp hks (fun g' e (e2 : g' = _) => by have := (Oy_3.lt' g' e).1; omega)) (Py_3.kp hks (fun g' e (e2 : g' = _) => by have := (Py_3.lt' g' e).1; omega)) Dy.out (fun g hg => hNN.out g (by omega)) (fun g hg => hNN.out g (by omega))), hff.out.C.below hbl, hff.out.D.below hbl⟩), hbl⟩

set_option maxRecDepth 100000 in
set_option maxHeartbeats 6000000 in
theorem right_over0 {w : World} {N : Nat → Prop} {f : LX} {F : LV} {s : Bool} {a b : Option Addr} {n c m d J K : Nat} {q : Rat} (hf : LineOK N w f F) (hF : LS F J) (hq : RdQ K w s a n c b m d q) (hQ : QS q K) (hJ : J ≤ 300000) (hK : K ≤ 300000) (hN : ∀ g, w.heap.size ≤ g → N g) (h0 : q = 0) :
    Calls Try.prog 78 #[.int .i8 5, .agg f.arr, .agg #[.bool s, .slice a n c, .slice b m d]] w (RetLine N w LV.z 11) := by
  have hNN := hid hN
  have hFF := hid hF
  have hff := hid hf
  have hA := hf.A.rdQ hF.a
  have hBq := hf.B.rdQ hF.b
  have hC := hf.C.rdQ hF.c
  have hDq := hf.D.rdQ hF.d
  have hQQ := hid hQ
  have h00 := hid h0
  clear h0
  clear hf hF hN hQ
  have hent := ent3 w f.arr #[Value.bool s, Value.slice a n c, Value.slice b m d] #[Value.bool false, Value.slice none 0 0, Value.slice none 0 0, Value.bool false, Value.slice none 0 0, Value.slice none 0 0, Value.bool false, Value.slice none 0 0, Value.slice none 0 0, Value.bool false, Value.slice none 0 0, Value.slice none 0 0] 32 28 32
  go_enter Try.func78, Try.ntmps78
  go_wp2_with fail
  generalize (((w.alloc (.cells f.arr 32)).alloc (.cells #[Value.bool s, Value.slice a n c, Value.slice b m d] 28)).alloc (.cells #[Value.bool false, Value.slice none 0 0, Value.slice none 0 0, Value.bool false, Value.slice none 0 0, Value.slice none 0 0, Value.bool false, Value.slice none 0 0, Value.slice none 0 0, Value.bool false, Value.slice none 0 0, Value.slice none 0 0] 32)) = W0 at hent ⊢
  obtain ⟨X_0, Y_0, R0_0, hbel_0, hsz_0⟩ := hent
  have hA_0 := hA.below hbel_0
  clear hA
  have hBq_0 := hBq.below hbel_0
  clear hBq
  have hC_0 := hC.below hbel_0
  clear hC
  have hDq_0 := hDq.below hbel_0
  clear hDq
  have hq_0 := hq.below hbel_0
  clear hq
  have R1_0 : Blk W0 (w.heap.size + 1 + 1) LX.o.arr := R0_0
  clear R0_0
  go_wp2_with fail
  go_cut [8, 9] (fun s8 s9 wx => ∃ g, s8 = .pointer (some ⟨g, 0, none⟩) ∧ s9 = .int .i64 11 ∧ Below W0.heap.size W0 wx)
  case first =>
    have acc_0 : Below W0.heap.size W0 W0 := Below.refl _ _
    have hbAcc_0 := acc_0
    go_wp2_with fail
    have hB : Below W0.heap.size W0 W0.drew := (Below.refl _ _).drew
    have hB_1 : Below W0.heap.size W0 W0.drew := hB
    have X_1 := X_0.next hB_1
    have Y_1 := Y_0.next hB_1
    have R1_1 := R1_0.next hB_1
    have hA_1 := hA_0.below hB_1
    have hBq_1 := hBq_0.below hB_1
    have hC_1 := hC_0.below hB_1
    have hDq_1 := hDq_0.below hB_1
    have hq_1 := hq_0.below hB_1
    have hbAcc_1 := hbAcc_0.next hB_1
    have hbel_1 := hbel_0.next hB_1
    have hsz_1 := hB_1.size
    clear X_0 Y_0 R1_0 hA_0 hBq_0 hC_0 hDq_0 hq_0 hbAcc_0 hbel_0 hB_1
    clear hB
    refine wp_region_noPanic ?_
    refine D_region (S := (fun w' => Blk w' (w.heap.size) f.arr ∧ Blk w' (w.heap.size + 1) #[Value.bool s, Value.slice a n c, Value.slice b m d])) (T := [7, 8]) (by kernel_rfl) ⟨X_1, Y_1⟩ (fun hHeld => ?_)
    clear hHeld
    generalize W0.drew = vd1 at *
    refine D_load (i := 1) (d := some 44) (v := (.agg #[Value.bool s, Value.slice a n c, Value.slice b m d])) [1] rfl rfl (by kernel_rfl) (by kernel_rfl) (by kernel_rfl) (by kernel_rfl) (by kernel_rfl) (by kernel_rfl) (fun _ _ _ h => h) (by rfl) (fun w hSw => by (obtain ⟨b0, b1⟩ := hSw); have l0 : _ = some (Value.bool s) := b1.cell (0); have l1 : _ = some (Value.slice a n c) := b1.cell (1); have l2 : _ = some (Value.slice b m d) := b1.cell (2); (clear b0 b1); go_simp) ⟨X_1, Y_1⟩ ?_
    (try simp only [Act.put, List.setIfInBounds_toArray, List.set_cons_zero, List.set_cons_succ])
    refine D_two (i := 0) (j := 6) (by kernel_rfl) rfl rfl (fun Kq hKq => ?_) (fun Kq hKq => ?_)
    · go_simp
      refine (kone).mono ?_
      rintro e w2 ⟨na, nn, nc, nb, nm, nd, rfl, hO, hO', hD, hB⟩
      have hB_2 : Below vd1.heap.size vd1 w2 := (bl.next hB)
      have X_2 := X_1.next hB_2
      have Y_2 := Y_1.next hB_2
      have R1_2 := R1_1.next hB_2
      have hA_2 := hA_1.below hB_2
      have hBq_2 := hBq_1.below hB_2
      have hC_2 := hC_1.below hB_2
      have hDq_2 := hDq_1.below hB_2
      have hq_2 := hq_1.below hB_2
      have hbAcc_2 := hbAcc_1.next hB_2
      have hbel_2 := hbel_1.next hB_2
      have hsz_2 := hB_2.size
      clear X_1 Y_1 R1_1 hA_1 hBq_1 hC_1 hDq_1 hq_1 hbAcc_1 hbel_1 hB_2
      have On_2 := (show Own vd1.heap.size _ _ _ _ _ from hO)
      have ltOn := (show Own vd1.heap.size _ _ _ _ _ from hO).ltB
      have Pn_2 := (show Own vd1.heap.size _ _ _ _ _ from hO')
      have ltPn := (show Own vd1.heap.size _ _ _ _ _ from hO').ltB
      have Dn := hid hD
      clear hO hO' hD
      try clear hB
      (try go_wp2_with fail)
      refine hKq.out _ _ ⟨X_2, Y_2⟩ (fun hHeld => ?_)
      clear hHeld hKq Kq
      (try simp only [Act.put, List.setIfInBounds_toArray, List.set_cons_zero, List.set_cons_succ])
      refine D_two (i := 2) (j := 6) (by kernel_rfl) rfl rfl (fun Kq hKq => ?_) (fun Kq hKq => ?_)
      · go_simp
        refine (qdiv_z (On_2.rdQ Pn_2 qs_one) (by omega) hq_2 (by omega) h00.out).mono ?_
        rintro e w3 ⟨ka, kn, kc, kb, km, kd, rfl, hO, hO', hD, hB⟩
        have hB_3 : Below w2.heap.size w2 w3 := (bl.next hB)
        have X_3 := X_2.next hB_3
        have Y_3 := Y_2.next hB_3
        have R1_3 := R1_2.next hB_3
        have hA_3 := hA_2.below hB_3
        have hBq_3 := hBq_2.below hB_3
        have hC_3 := hC_2.below hB_3
        have hDq_3 := hDq_2.below hB_3
        have hq_3 := hq_2.below hB_3
        have hbAcc_3 := hbAcc_2.next hB_3
        have On_3 := On_2.below hB_3
        have Pn_3 := Pn_2.below hB_3
        have hbel_3 := hbel_2.next hB_3
        have hsz_3 := hB_3.size
        clear X_2 Y_2 R1_2 hA_2 hBq_2 hC_2 hDq_2 hq_2 hbAcc_2 On_2 Pn_2 hbel_2 hB_3
        clear hO hO' hD
        try clear hB
        (try go_wp2_with fail)
        refine hKq.out _ _ ⟨X_3, Y_3⟩ (fun hHeld => ?_)
        clear hHeld hKq Kq
        (try simp only [Act.put, List.setIfInBounds_toArray, List.set_cons_zero, List.set_cons_succ])
        refine D_pure (i := 3) (d := some 42) (v := (.tuple #[(.agg #[Value.bool false, Value.slice ka kn kc, Value.slice kb km kd]), (.int .i64 11)])) rfl rfl (by kernel_rfl) (by kernel_rfl) (by kernel_rfl) (fun _ _ _ h => h) (by rfl) (fun _ => by go_simp) ?_
        (try simp only [Act.put, List.setIfInBounds_toArray, List.set_cons_zero, List.set_cons_succ])
        refine D_pure (i := 4) (d := some 46) (v := (.agg #[Value.bool false, Value.slice ka kn kc, Value.slice kb km kd])) rfl rfl (by kernel_rfl) (by kernel_rfl) (by kernel_rfl) (fun _ _ _ h => h) (by rfl) (fun _ => by go_simp) ?_
        (try simp only [Act.put, List.setIfInBounds_toArray, List.set_cons_zero, List.set_cons_succ])
        refine D_pure (i := 5) (d := some 47) (v := (.int .i64 11)) rfl rfl (by kernel_rfl) (by kernel_rfl) (by kernel_rfl) (fun _ _ _ h => h) (by rfl) (fun _ => by go_simp) ?_
        (try simp only [Act.put, List.setIfInBounds_toArray, List.set_cons_zero, List.set_cons_succ])
        refine D_one (i := 6) (by kernel_rfl) rfl (fun Kq hKq => ?_)
        go_simp
        have hbx := blk_new w3 #[Value.bool false, Value.slice none 0 0, Value.slice none 0 0] 28
        have hbB := (Below.refl w3.heap.size w3).alloc (Nat.le_refl _) (.cells #[Value.bool false, Value.slice none 0 0, Value.slice none 0 0] 28)
        have hltOV := hbx.lt
        have hB_4 : Below w3.heap.size w3 (w3.alloc (.cells #[Value.bool false, Value.slice none 0 0, Value.slice none 0 0] 28)) := hbB
        have X_4 := X_3.next hB_4
        have Y_4 := Y_3.next hB_4
        have R1_4 := R1_3.next hB_4
        have hA_4 := hA_3.below hB_4
        have hBq_4 := hBq_3.below hB_4
        have hC_4 := hC_3.below hB_4
        have hDq_4 := hDq_3.below hB_4
        have hq_4 := hq_3.below hB_4
        have hbAcc_4 := hbAcc_3.next hB_4
        have On_4 := On_3.below hB_4
        have Pn_4 := Pn_3.below hB_4
        have hbel_4 := hbel_3.next hB_4
        have hsz_4 := hB_4.size
        clear X_3 Y_3 R1_3 hA_3 hBq_3 hC_3 hDq_3 hq_3 hbAcc_3 On_3 Pn_3 hbel_3 hB_4
        have OV_4 := hbx
        clear hbx hbB
        generalize (w3.alloc (.cells #[Value.bool false, Value.slice none 0 0, Value.slice none 0 0] 28)) = va4 at *
        refine hKq.out _ _ ⟨X_4, Y_4⟩ (fun hHeld => ?_)
        clear hHeld hKq Kq
        (try simp only [Act.put, List.setIfInBounds_toArray, List.set_cons_zero, List.set_cons_succ])
        have cOV_4_0 : _ = some (Value.bool false) := OV_4.cell 0
        have fOV_4_0 := OV_4.free 0
        have cOV_4_1 : _ = some (Value.slice none 0 0) := OV_4.cell 1
        have fOV_4_1 := OV_4.free 1
        have cOV_4_2 : _ = some (Value.slice none 0 0) := OV_4.cell 2
        have fOV_4_2 := OV_4.free 2
        refine D_late (i := 7) (by kernel_rfl) rfl (by kernel_rfl) (fun Kq hKq => ?_)
        go_simp
        refine hKq.out _ _ ?_
        clear hKq Kq
        (try simp only [Act.put, List.setIfInBounds_toArray, List.set_cons_zero, List.set_cons_succ])
        refine D_late (i := 8) (by kernel_rfl) rfl (by kernel_rfl) (fun Kq hKq => ?_)
        go_simp
        refine hKq.out _ _ ?_
        clear hKq Kq
        (try simp only [Act.put, List.setIfInBounds_toArray, List.set_cons_zero, List.set_cons_succ])
        refine D_done (by kernel_rfl) ?_ _
        refine NoPanic.normal ?_
        go_wp2_with fail
        go_meet
        exact ⟨_, rfl, rfl, Below.set3 hbAcc_4 (by omega) _ _ _⟩
      · go_simp
        have hbx := blk_new w2 #[Value.bool false, Value.slice none 0 0, Value.slice none 0 0] 28
        have hbB := (Below.refl w2.heap.size w2).alloc (Nat.le_refl _) (.cells #[Value.bool false, Value.slice none 0 0, Value.slice none 0 0] 28)
        have hltOV := hbx.lt
        have hB_3 : Below w2.heap.size w2 (w2.alloc (.cells #[Value.bool false, Value.slice none 0 0, Value.slice none 0 0] 28)) := hbB
        have X_3 := X_2.next hB_3
        have Y_3 := Y_2.next hB_3
        have R1_3 := R1_2.next hB_3
        have hA_3 := hA_2.below hB_3
        have hBq_3 := hBq_2.below hB_3
        have hC_3 := hC_2.below hB_3
        have hDq_3 := hDq_2.below hB_3
        have hq_3 := hq_2.below hB_3
        have hbAcc_3 := hbAcc_2.next hB_3
        have On_3 := On_2.below hB_3
        have Pn_3 := Pn_2.below hB_3
        have hbel_3 := hbel_2.next hB_3
        have hsz_3 := hB_3.size
        clear X_2 Y_2 R1_2 hA_2 hBq_2 hC_2 hDq_2 hq_2 hbAcc_2 On_2 Pn_2 hbel_2 hB_3
        have OV_3 := hbx
        clear hbx hbB
        generalize (w2.alloc (.cells #[Value.bool false, Value.slice none 0 0, Value.slice none 0 0] 28)) = va3 at *
        refine hKq.out _ _ ⟨X_3, Y_3⟩ (fun hHeld => ?_)
        clear hHeld hKq Kq
        (try simp only [Act.put, List.setIfInBounds_toArray, List.set_cons_zero, List.set_cons_succ])
        refine D_one (i := 2) (by kernel_rfl) rfl (fun Kq hKq => ?_)
        go_simp
        refine (qdiv_z (On_3.rdQ Pn_3 qs_one) (by omega) hq_3 (by omega) h00.out).mono ?_
        rintro e w4 ⟨ka, kn, kc, kb, km, kd, rfl, hO, hO', hD, hB⟩
        have hB_4 : Below va3.heap.size va3 w4 := (bl.next hB)
        have X_4 := X_3.next hB_4
        have Y_4 := Y_3.next hB_4
        have R1_4 := R1_3.next hB_4
        have OV_4 := OV_3.next hB_4
        have hA_4 := hA_3.below hB_4
        have hBq_4 := hBq_3.below hB_4
        have hC_4 := hC_3.below hB_4
        have hDq_4 := hDq_3.below hB_4
        have hq_4 := hq_3.below hB_4
        have hbAcc_4 := hbAcc_3.next hB_4
        have On_4 := On_3.below hB_4
        have Pn_4 := Pn_3.below hB_4
        have hbel_4 := hbel_3.next hB_4
        have hsz_4 := hB_4.size
        clear X_3 Y_3 R1_3 OV_3 hA_3 hBq_3 hC_3 hDq_3 hq_3 hbAcc_3 On_3 Pn_3 hbel_3 hB_4
        clear hO hO' hD
        try clear hB
        (try go_wp2_with fail)
        refine hKq.out _ _ ⟨X_4, Y_4⟩ (fun hHeld => ?_)
        clear hHeld hKq Kq
        (try simp only [Act.put, List.setIfInBounds_toArray, List.set_cons_zero, List.set_cons_succ])
        refine D_pure (i := 3) (d := some 42) (v := (.tuple #[(.agg #[Value.bool false, Value.slice ka kn kc, Value.slice kb km kd]), (.int .i64 11)])) rfl rfl (by kernel_rfl) (by kernel_rfl) (by kernel_rfl) (fun _ _ _ h => h) (by rfl) (fun _ => by go_simp) ?_
        (try simp only [Act.put, List.setIfInBounds_toArray, List.set_cons_zero, List.set_cons_succ])
        refine D_pure (i := 4) (d := some 46) (v := (.agg #[Value.bool false, Value.slice ka kn kc, Value.slice kb km kd])) rfl rfl (by kernel_rfl) (by kernel_rfl) (by kernel_rfl) (fun _ _ _ h => h) (by rfl) (fun _ => by go_simp) ?_
        (try simp only [Act.put, List.setIfInBounds_toArray, List.set_cons_zero, List.set_cons_succ])
        refine D_pure (i := 5) (d := some 47) (v := (.int .i64 11)) rfl rfl (by kernel_rfl) (by kernel_rfl) (by kernel_rfl) (fun _ _ _ h => h) (by rfl) (fun _ => by go_simp) ?_
        (try simp only [Act.put, List.setIfInBounds_toArray, List.set_cons_zero, List.set_cons_succ])
        have cOV_4_0 : _ = some (Value.bool false) := OV_4.cell 0
        have fOV_4_0 := OV_4.free 0
        have cOV_4_1 : _ = some (Value.slice none 0 0) := OV_4.cell 1
        have fOV_4_1 := OV_4.free 1
        have cOV_4_2 : _ = some (Value.slice none 0 0) := OV_4.cell 2
        have fOV_4_2 := OV_4.free 2
        refine D_late (i := 7) (by kernel_rfl) rfl (by kernel_rfl) (fun Kq hKq => ?_)
        go_simp
        refine hKq.out _ _ ?_
        clear hKq Kq
        (try simp only [Act.put, List.setIfInBounds_toArray, List.set_cons_zero, List.set_cons_succ])
        refine D_late (i := 8) (by kernel_rfl) rfl (by kernel_rfl) (fun Kq hKq => ?_)
        go_simp
        refine hKq.out _ _ ?_
        clear hKq Kq
        (try simp only [Act.put, List.setIfInBounds_toArray, List.set_cons_zero, List.set_cons_succ])
        refine D_done (by kernel_rfl) ?_ _
        refine NoPanic.normal ?_
        go_wp2_with fail
        go_meet
        exact ⟨_, rfl, rfl, Below.set3 hbAcc_4 (by omega) _ _ _⟩
    · go_simp
      have hbx := blk_new vd1 #[Value.bool false, Value.slice none 0 0, Value.slice none 0 0] 28
      have hbB := (Below.refl vd1.heap.size vd1).alloc (Nat.le_refl _) (.cells #[Value.bool false, Value.slice none 0 0, Value.slice none 0 0] 28)
      have hltOV := hbx.lt
      have hB_2 : Below vd1.heap.size vd1 (vd1.alloc (.cells #[Value.bool false, Value.slice none 0 0, Value.slice none 0 0] 28)) := hbB
      have X_2 := X_1.next hB_2
      have Y_2 := Y_1.next hB_2
      have R1_2 := R1_1.next hB_2
      have hA_2 := hA_1.below hB_2
      have hBq_2 := hBq_1.below hB_2
      have hC_2 := hC_1.below hB_2
      have hDq_2 := hDq_1.below hB_2
      have hq_2 := hq_1.below hB_2
      have hbAcc_2 := hbAcc_1.next hB_2
      have hbel_2 := hbel_1.next hB_2
      have hsz_2 := hB_2.size
      clear X_1 Y_1 R1_1 hA_1 hBq_1 hC_1 hDq_1 hq_1 hbAcc_1 hbel_1 hB_2
      have OV_2 := hbx
      clear hbx hbB
      generalize (vd1.alloc (.cells #[Value.bool false, Value.slice none 0 0, Value.slice none 0 0] 28)) = va2 at *
      refine hKq.out _ _ ⟨X_2, Y_2⟩ (fun hHeld => ?_)
      clear hHeld hKq Kq
      (try simp only [Act.put, List.setIfInBounds_toArray, List.set_cons_zero, List.set_cons_succ])
      refine D_one (i := 0) (by kernel_rfl) rfl (fun Kq hKq => ?_)
      go_simp
      refine (kone).mono ?_
      rintro e w3 ⟨na, nn, nc, nb, nm, nd, rfl, hO, hO', hD, hB⟩
      have hB_3 : Below va2.heap.size va2 w3 := (bl.next hB)
      have X_3 := X_2.next hB_3
      have Y_3 := Y_2.next hB_3
      have R1_3 := R1_2.next hB_3
      have OV_3 := OV_2.next hB_3
      have hA_3 := hA_2.below hB_3
      have hBq_3 := hBq_2.below hB_3
      have hC_3 := hC_2.below hB_3
      have hDq_3 := hDq_2.below hB_3
      have hq_3 := hq_2.below hB_3
      have hbAcc_3 := hbAcc_2.next hB_3
      have hbel_3 := hbel_2.next hB_3
      have hsz_3 := hB_3.size
      clear X_2 Y_2 R1_2 OV_2 hA_2 hBq_2 hC_2 hDq_2 hq_2 hbAcc_2 hbel_2 hB_3
      have On_3 := (show Own va2.heap.size _ _ _ _ _ from hO)
      have ltOn := (show Own va2.heap.size _ _ _ _ _ from hO).ltB
      have Pn_3 := (show Own va2.heap.size _ _ _ _ _ from hO')
      have ltPn := (show Own va2.heap.size _ _ _ _ _ from hO').ltB
      have Dn := hid hD
      clear hO hO' hD
      try clear hB
      (try go_wp2_with fail)
      refine hKq.out _ _ ⟨X_3, Y_3⟩ (fun hHeld => ?_)
      clear hHeld hKq Kq
      (try simp only [Act.put, List.setIfInBounds_toArray, List.set_cons_zero, List.set_cons_succ])
      refine D_one (i := 2) (by kernel_rfl) rfl (fun Kq hKq => ?_)
      go_simp
      refine (qdiv_z (On_3.rdQ Pn_3 qs_one) (by omega) hq_3 (by omega) h00.out).mono ?_
      rintro e w4 ⟨ka, kn, kc, kb, km, kd, rfl, hO, hO', hD, hB⟩
      have hB_4 : Below w3.heap.size w3 w4 := (bl.next hB)
      have X_4 := X_3.next hB_4
      have Y_4 := Y_3.next hB_4
      have R1_4 := R1_3.next hB_4
      have OV_4 := OV_3.next hB_4
      have hA_4 := hA_3.below hB_4
      have hBq_4 := hBq_3.below hB_4
      have hC_4 := hC_3.below hB_4
      have hDq_4 := hDq_3.below hB_4
      have hq_4 := hq_3.below hB_4
      have hbAcc_4 := hbAcc_3.next hB_4
      have On_4 := On_3.below hB_4
      have Pn_4 := Pn_3.below hB_4
      have hbel_4 := hbel_3.next hB_4
      have hsz_4 := hB_4.size
      clear X_3 Y_3 R1_3 OV_3 hA_3 hBq_3 hC_3 hDq_3 hq_3 hbAcc_3 On_3 Pn_3 hbel_3 hB_4
      clear hO hO' hD
      try clear hB
      (try go_wp2_with fail)
      refine hKq.out _ _ ⟨X_4, Y_4⟩ (fun hHeld => ?_)
      clear hHeld hKq Kq
      (try simp only [Act.put, List.setIfInBounds_toArray, List.set_cons_zero, List.set_cons_succ])
      refine D_pure (i := 3) (d := some 42) (v := (.tuple #[(.agg #[Value.bool false, Value.slice ka kn kc, Value.slice kb km kd]), (.int .i64 11)])) rfl rfl (by kernel_rfl) (by kernel_rfl) (by kernel_rfl) (fun _ _ _ h => h) (by rfl) (fun _ => by go_simp) ?_
      (try simp only [Act.put, List.setIfInBounds_toArray, List.set_cons_zero, List.set_cons_succ])
      refine D_pure (i := 4) (d := some 46) (v := (.agg #[Value.bool false, Value.slice ka kn kc, Value.slice kb km kd])) rfl rfl (by kernel_rfl) (by kernel_rfl) (by kernel_rfl) (fun _ _ _ h => h) (by rfl) (fun _ => by go_simp) ?_
      (try simp only [Act.put, List.setIfInBounds_toArray, List.set_cons_zero, List.set_cons_succ])
      refine D_pure (i := 5) (d := some 47) (v := (.int .i64 11)) rfl rfl (by kernel_rfl) (by kernel_rfl) (by kernel_rfl) (fun _ _ _ h => h) (by rfl) (fun _ => by go_simp) ?_
      (try simp only [Act.put, List.setIfInBounds_toArray, List.set_cons_zero, List.set_cons_succ])
      have cOV_4_0 : _ = some (Value.bool false) := OV_4.cell 0
      have fOV_4_0 := OV_4.free 0
      have cOV_4_1 : _ = some (Value.slice none 0 0) := OV_4.cell 1
      have fOV_4_1 := OV_4.free 1
      have cOV_4_2 : _ = some (Value.slice none 0 0) := OV_4.cell 2
      have fOV_4_2 := OV_4.free 2
      refine D_late (i := 7) (by kernel_rfl) rfl (by kernel_rfl) (fun Kq hKq => ?_)
      go_simp
      refine hKq.out _ _ ?_
      clear hKq Kq
      (try simp only [Act.put, List.setIfInBounds_toArray, List.set_cons_zero, List.set_cons_succ])
      refine D_late (i := 8) (by kernel_rfl) rfl (by kernel_rfl) (fun Kq hKq => ?_)
      go_simp
      refine hKq.out _ _ ?_
      clear hKq Kq
      (try simp only [Act.put, List.setIfInBounds_toArray, List.set_cons_zero, List.set_cons_succ])
      refine D_done (by kernel_rfl) ?_ _
      refine NoPanic.normal ?_
      go_wp2_with fail
      go_meet
      exact ⟨_, rfl, rfl, Below.set3 hbAcc_4 (by omega) _ _ _⟩
  case rest =>
    obtain ⟨gOV, rfl, rfl, hBc⟩ := hcut
    have hB_1 : Below W0.heap.size W0 wc := hBc
    have X_1 := X_0.next hB_1
    have Y_1 := Y_0.next hB_1
    have R1_1 := R1_0.next hB_1
    have hA_1 := hA_0.below hB_1
    have hBq_1 := hBq_0.below hB_1
    have hC_1 := hC_0.below hB_1
    have hDq_1 := hDq_0.below hB_1
    have hq_1 := hq_0.below hB_1
    have hbel_1 := hbel_0.next hB_1
    have hsz_1 := hB_1.size
    clear X_0 Y_0 R1_0 hA_0 hBq_0 hC_0 hDq_0 hq_0 hbel_0 hB_1
    clear hBc
    obtain ⟨wc1, hwc⟩ : ∃ y : World, y = wc := ⟨_, rfl⟩
    subst hwc
    go_wp2_with (refine BigFrame.wpList_want (by rfl) (fun Kq hKq => wp_storeL (p := LX.o) _ _ rfl rfl rfl R1_1 (fun ws hbs hks => hKq _ _ ?_)))
    have hbl := hbel_1.kp hks hbel_1.size (fun j hj (e : j = _) => by omega)
    go_wp2_with fail
    refine bodyPost_ret (res_blk_tmp Try.results78 rfl rfl hbs Try.underlying32 rfl (by kernel_rfl)) rfl ?_
    exact ⟨_, rfl, LineOK.z N _, hbl⟩

set_option maxRecDepth 100000 in
set_option maxHeartbeats 6000000 in
theorem right_over {w : World} {N : Nat → Prop} {f : LX} {F : LV} {s : Bool} {a b : Option Addr} {n c m d J K : Nat} {q : Rat} (hf : LineOK N w f F) (hF : LS F J) (hq : RdQ K w s a n c b m d q) (hQ : QS q K) (hJ : J ≤ 300000) (hK : K ≤ 300000) (hN : ∀ g, w.heap.size ≤ g → N g) (h0 : q ≠ 0) (hJ1 : 1 ≤ K) :
    Calls Try.prog 78 #[.int .i8 5, .agg f.arr, .agg #[.bool s, .slice a n c, .slice b m d]] w (RetLine N w (rgT F (1 / q)) 0) := by
  have hNN := hid hN
  have hFF := hid hF
  have hff := hid hf
  have hA := hf.A.rdQ hF.a
  have hBq := hf.B.rdQ hF.b
  have hC := hf.C.rdQ hF.c
  have hDq := hf.D.rdQ hF.d
  have hQQ := hid hQ
  obtain ⟨k, hk0⟩ : ∃ z, 1 / q = z := ⟨_, rfl⟩
  have hk := hid hk0
  have hQk := hid (show QS k (1 + K) by rw [← hk0]; exact qs_one.div hQ hJ1)
  rw [hk0]
  obtain ⟨za, hza0⟩ : ∃ z, k * F.a = z := ⟨_, rfl⟩
  obtain ⟨zb, hzb0⟩ : ∃ z, k * F.b = z := ⟨_, rfl⟩
  have hza := hid hza0
  have hzb := hid hzb0
  have hrg := hid (show rgT F k = ⟨za, zb, F.c, F.d⟩ by rw [← hza0, ← hzb0]; rfl)
  have h00 := hid h0
  clear hza0 hzb0 hk0 h0
  clear hf hF hN hQ
  have hent := ent3 w f.arr #[Value.bool s, Value.slice a n c, Value.slice b m d] #[Value.bool false, Value.slice none 0 0, Value.slice none 0 0, Value.bool false, Value.slice none 0 0, Value.slice none 0 0, Value.bool false, Value.slice none 0 0, Value.slice none 0 0, Value.bool false, Value.slice none 0 0, Value.slice none 0 0] 32 28 32
  go_enter Try.func78, Try.ntmps78
  go_wp2_with fail
  generalize (((w.alloc (.cells f.arr 32)).alloc (.cells #[Value.bool s, Value.slice a n c, Value.slice b m d] 28)).alloc (.cells #[Value.bool false, Value.slice none 0 0, Value.slice none 0 0, Value.bool false, Value.slice none 0 0, Value.slice none 0 0, Value.bool false, Value.slice none 0 0, Value.slice none 0 0, Value.bool false, Value.slice none 0 0, Value.slice none 0 0] 32)) = W0 at hent ⊢
  obtain ⟨X_0, Y_0, R0_0, hbel_0, hsz_0⟩ := hent
  have hA_0 := hA.below hbel_0
  clear hA
  have hBq_0 := hBq.below hbel_0
  clear hBq
  have hC_0 := hC.below hbel_0
  clear hC
  have hDq_0 := hDq.below hbel_0
  clear hDq
  have hq_0 := hq.below hbel_0
  clear hq
  have R1_0 : Blk W0 (w.heap.size + 1 + 1) LX.o.arr := R0_0
  clear R0_0
  go_wp2_with fail
  go_cut [8, 9] (fun s8 s9 wx => ∃ (g : Nat) (ka : Option Addr) (kn kc : Nat) (kb : Option Addr) (km kd : Nat), s8 = .pointer (some ⟨g, 0, none⟩) ∧ s9 = .int .i64 0 ∧ Blk wx g #[Value.bool (decide (k.num < 0)), Value.slice ka kn kc, Value.slice kb km kd] ∧ W0.heap.size ≤ g ∧ Own W0.heap.size wx ka kn kc (lm k.num.natAbs) ∧ Own W0.heap.size wx kb km kd (lm k.den) ∧ Below W0.heap.size W0 wx)
  case first =>
    have acc_0 : Below W0.heap.size W0 W0 := Below.refl _ _
    have hbAcc_0 := acc_0
    go_wp2_with fail
    have hB : Below W0.heap.size W0 W0.drew := (Below.refl _ _).drew
    have hB_1 : Below W0.heap.size W0 W0.drew := hB
    have X_1 := X_0.next hB_1
    have Y_1 := Y_0.next hB_1
    have R1_1 := R1_0.next hB_1
    have hA_1 := hA_0.below hB_1
    have hBq_1 := hBq_0.below hB_1
    have hC_1 := hC_0.below hB_1
    have hDq_1 := hDq_0.below hB_1
    have hq_1 := hq_0.below hB_1
    have hbAcc_1 := hbAcc_0.next hB_1
    have hbel_1 := hbel_0.next hB_1
    have hsz_1 := hB_1.size
    clear X_0 Y_0 R1_0 hA_0 hBq_0 hC_0 hDq_0 hq_0 hbAcc_0 hbel_0 hB_1
    clear hB
    refine wp_region_noPanic ?_
    refine D_region (S := (fun w' => Blk w' (w.heap.size) f.arr ∧ Blk w' (w.heap.size + 1) #[Value.bool s, Value.slice a n c, Value.slice b m d])) (T := [7, 8]) (by kernel_rfl) ⟨X_1, Y_1⟩ (fun hHeld => ?_)
    clear hHeld
    generalize W0.drew = vd1 at *
    refine D_load (i := 1) (d := some 44) (v := (.agg #[Value.bool s, Value.slice a n c, Value.slice b m d])) [1] rfl rfl (by kernel_rfl) (by kernel_rfl) (by kernel_rfl) (by kernel_rfl) (by kernel_rfl) (by kernel_rfl) (fun _ _ _ h => h) (by rfl) (fun w hSw => by (obtain ⟨b0, b1⟩ := hSw); have l0 : _ = some (Value.bool s) := b1.cell (0); have l1 : _ = some (Value.slice a n c) := b1.cell (1); have l2 : _ = some (Value.slice b m d) := b1.cell (2); (clear b0 b1); go_simp) ⟨X_1, Y_1⟩ ?_
    (try simp only [Act.put, List.setIfInBounds_toArray, List.set_cons_zero, List.set_cons_succ])
    refine D_two (i := 0) (j := 6) (by kernel_rfl) rfl rfl (fun Kq hKq => ?_) (fun Kq hKq => ?_)
    · go_simp
      refine (kone).mono ?_
      rintro e w2 ⟨na, nn, nc, nb, nm, nd, rfl, hO, hO', hD, hB⟩
      have hB_2 : Below vd1.heap.size vd1 w2 := (bl.next hB)
      have X_2 := X_1.next hB_2
      have Y_2 := Y_1.next hB_2
      have R1_2 := R1_1.next hB_2
      have hA_2 := hA_1.below hB_2
      have hBq_2 := hBq_1.below hB_2
      have hC_2 := hC_1.below hB_2
      have hDq_2 := hDq_1.below hB_2
      have hq_2 := hq_1.below hB_2
      have hbAcc_2 := hbAcc_1.next hB_2
      have hbel_2 := hbel_1.next hB_2
      have hsz_2 := hB_2.size
      clear X_1 Y_1 R1_1 hA_1 hBq_1 hC_1 hDq_1 hq_1 hbAcc_1 hbel_1 hB_2
      have On_2 := (show Own vd1.heap.size _ _ _ _ _ from hO)
      have ltOn := (show Own vd1.heap.size _ _ _ _ _ from hO).ltB
      have Pn_2 := (show Own vd1.heap.size _ _ _ _ _ from hO')
      have ltPn := (show Own vd1.heap.size _ _ _ _ _ from hO').ltB
      have Dn := hid hD
      clear hO hO' hD
      try clear hB
      (try go_wp2_with fail)
      refine hKq.out _ _ ⟨X_2, Y_2⟩ (fun hHeld => ?_)
      clear hHeld hKq Kq
      (try simp only [Act.put, List.setIfInBounds_toArray, List.set_cons_zero, List.set_cons_succ])
      refine D_two (i := 2) (j := 6) (by kernel_rfl) rfl rfl (fun Kq hKq => ?_) (fun Kq hKq => ?_)
      · go_simp
        refine ((show Calls _ _ _ _ (RetQK _ k) from hk.out ▸ qdiv_nz (On_2.rdQ Pn_2 qs_one) (by omega) hq_2 (by omega) h00.out)).mono ?_
        rintro e w3 ⟨ka, kn, kc, kb, km, kd, rfl, hO, hO', hD, hB⟩
        have hB_3 : Below w2.heap.size w2 w3 := (bl.next hB)
        have X_3 := X_2.next hB_3
        have Y_3 := Y_2.next hB_3
        have R1_3 := R1_2.next hB_3
        have hA_3 := hA_2.below hB_3
        have hBq_3 := hBq_2.below hB_3
        have hC_3 := hC_2.below hB_3
        have hDq_3 := hDq_2.below hB_3
        have hq_3 := hq_2.below hB_3
        have hbAcc_3 := hbAcc_2.next hB_3
        have On_3 := On_2.below hB_3
        have Pn_3 := Pn_2.below hB_3
        have hbel_3 := hbel_2.next hB_3
        have hsz_3 := hB_3.size
        clear X_2 Y_2 R1_2 hA_2 hBq_2 hC_2 hDq_2 hq_2 hbAcc_2 On_2 Pn_2 hbel_2 hB_3
        have Ok_3 := (show Own w2.heap.size _ _ _ _ _ from hO)
        have ltOk := (show Own w2.heap.size _ _ _ _ _ from hO).ltB
        have Pk_3 := (show Own w2.heap.size _ _ _ _ _ from hO')
        have ltPk := (show Own w2.heap.size _ _ _ _ _ from hO').ltB
        have Dk := hid hD
        clear hO hO' hD
        try clear hB
        (try go_wp2_with fail)
        refine hKq.out _ _ ⟨X_3, Y_3⟩ (fun hHeld => ?_)
        clear hHeld hKq Kq
        (try simp only [Act.put, List.setIfInBounds_toArray, List.set_cons_zero, List.set_cons_succ])
        refine D_pure (i := 3) (d := some 42) (v := (.tuple #[(.agg #[Value.bool (decide ((k).num < 0)), Value.slice ka kn kc, Value.slice kb km kd]), (.int .i64 0)])) rfl rfl (by kernel_rfl) (by kernel_rfl) (by kernel_rfl) (fun _ _ _ h => h) (by rfl) (fun _ => by go_simp) ?_
        (try simp only [Act.put, List.setIfInBounds_toArray, List.set_cons_zero, List.set_cons_succ])
        refine D_pure (i := 4) (d := some 46) (v := (.agg #[Value.bool (decide ((k).num < 0)), Value.slice ka kn kc, Value.slice kb km kd])) rfl rfl (by kernel_rfl) (by kernel_rfl) (by kernel_rfl) (fun _ _ _ h => h) (by rfl) (fun _ => by go_simp) ?_
        (try simp only [Act.put, List.setIfInBounds_toArray, List.set_cons_zero, List.set_cons_succ])
        refine D_pure (i := 5) (d := some 47) (v := (.int .i64 0)) rfl rfl (by kernel_rfl) (by kernel_rfl) (by kernel_rfl) (fun _ _ _ h => h) (by rfl) (fun _ => by go_simp) ?_
        (try simp only [Act.put, List.setIfInBounds_toArray, List.set_cons_zero, List.set_cons_succ])
        refine D_one (i := 6) (by kernel_rfl) rfl (fun Kq hKq => ?_)
        go_simp
        have hbx := blk_new w3 #[Value.bool false, Value.slice none 0 0, Value.slice none 0 0] 28
        have hbB := (Below.refl w3.heap.size w3).alloc (Nat.le_refl _) (.cells #[Value.bool false, Value.slice none 0 0, Value.slice none 0 0] 28)
        have hltOV := hbx.lt
        have hB_4 : Below w3.heap.size w3 (w3.alloc (.cells #[Value.bool false, Value.slice none 0 0, Value.slice none 0 0] 28)) := hbB
        have X_4 := X_3.next hB_4
        have Y_4 := Y_3.next hB_4
        have R1_4 := R1_3.next hB_4
        have hA_4 := hA_3.below hB_4
        have hBq_4 := hBq_3.below hB_4
        have hC_4 := hC_3.below hB_4
        have hDq_4 := hDq_3.below hB_4
        have hq_4 := hq_3.below hB_4
        have hbAcc_4 := hbAcc_3.next hB_4
        have On_4 := On_3.below hB_4
        have Pn_4 := Pn_3.below hB_4
        have Ok_4 := Ok_3.below hB_4
        have Pk_4 := Pk_3.below hB_4
        have hbel_4 := hbel_3.next hB_4
        have hsz_4 := hB_4.size
        clear X_3 Y_3 R1_3 hA_3 hBq_3 hC_3 hDq_3 hq_3 hbAcc_3 On_3 Pn_3 Ok_3 Pk_3 hbel_3 hB_4
        have OV_4 := hbx
        clear hbx hbB
        generalize (w3.alloc (.cells #[Value.bool false, Value.slice none 0 0, Value.slice none 0 0] 28)) = va4 at *
        refine hKq.out _ _ ⟨X_4, Y_4⟩ (fun hHeld => ?_)
        clear hHeld hKq Kq
        (try simp only [Act.put, List.setIfInBounds_toArray, List.set_cons_zero, List.set_cons_succ])
        have cOV_4_0 : _ = some (Value.bool false) := OV_4.cell 0
        have fOV_4_0 := OV_4.free 0
        have cOV_4_1 : _ = some (Value.slice none 0 0) := OV_4.cell 1
        have fOV_4_1 := OV_4.free 1
        have cOV_4_2 : _ = some (Value.slice none 0 0) := OV_4.cell 2
        have fOV_4_2 := OV_4.free 2
        refine D_late (i := 7) (by kernel_rfl) rfl (by kernel_rfl) (fun Kq hKq => ?_)
        go_simp
        refine hKq.out _ _ ?_
        clear hKq Kq
        (try simp only [Act.put, List.setIfInBounds_toArray, List.set_cons_zero, List.set_cons_succ])
        refine D_late (i := 8) (by kernel_rfl) rfl (by kernel_rfl) (fun Kq hKq => ?_)
        go_simp
        refine hKq.out _ _ ?_
        clear hKq Kq
        (try simp only [Act.put, List.setIfInBounds_toArray, List.set_cons_zero, List.set_cons_succ])
        refine D_done (by kernel_rfl) ?_ _
        refine NoPanic.normal ?_
        go_wp2_with fail
        go_meet
        exact ⟨_, _, _, _, _, _, _, rfl, rfl, (show Blk _ _ #[_, _, _] from ((OV_4.setCell (i := 0) (v := _) (by simp)).setCell (i := 1) (v := _) (by simp)).setCell (i := 2) (v := _) (by simp)), by omega, ((Ok_4.kp (kp_set3 _ _ _ _ _) (fun g' e (e2 : g' = _) => by first | (have := (Ok_4.lt' g' e).1; omega) | (have := ltOk g' e; omega))).mono (by omega)), ((Pk_4.kp (kp_set3 _ _ _ _ _) (fun g' e (e2 : g' = _) => by first | (have := (Pk_4.lt' g' e).1; omega) | (have := ltPk g' e; omega))).mono (by omega)), Below.set3 hbAcc_4 (by omega) _ _ _⟩
      · go_simp
        have hbx := blk_new w2 #[Value.bool false, Value.slice none 0 0, Value.slice none 0 0] 28
        have hbB := (Below.refl w2.heap.size w2).alloc (Nat.le_refl _) (.cells #[Value.bool false, Value.slice none 0 0, Value.slice none 0 0] 28)
        have hltOV := hbx.lt
        have hB_3 : Below w2.heap.size w2 (w2.alloc (.cells #[Value.bool false, Value.slice none 0 0, Value.slice none 0 0] 28)) := hbB
        have X_3 := X_2.next hB_3
        have Y_3 := Y_2.next hB_3
        have R1_3 := R1_2.next hB_3
        have hA_3 := hA_2.below hB_3
        have hBq_3 := hBq_2.below hB_3
        have hC_3 := hC_2.below hB_3
        have hDq_3 := hDq_2.below hB_3
        have hq_3 := hq_2.below hB_3
        have hbAcc_3 := hbAcc_2.next hB_3
        have On_3 := On_2.below hB_3
        have Pn_3 := Pn_2.below hB_3
        have hbel_3 := hbel_2.next hB_3
        have hsz_3 := hB_3.size
        clear X_2 Y_2 R1_2 hA_2 hBq_2 hC_2 hDq_2 hq_2 hbAcc_2 On_2 Pn_2 hbel_2 hB_3
        have OV_3 := hbx
        clear hbx hbB
        generalize (w2.alloc (.cells #[Value.bool false, Value.slice none 0 0, Value.slice none 0 0] 28)) = va3 at *
        refine hKq.out _ _ ⟨X_3, Y_3⟩ (fun hHeld => ?_)
        clear hHeld hKq Kq
        (try simp only [Act.put, List.setIfInBounds_toArray, List.set_cons_zero, List.set_cons_succ])
        refine D_one (i := 2) (by kernel_rfl) rfl (fun Kq hKq => ?_)
        go_simp
        refine ((show Calls _ _ _ _ (RetQK _ k) from hk.out ▸ qdiv_nz (On_3.rdQ Pn_3 qs_one) (by omega) hq_3 (by omega) h00.out)).mono ?_
        rintro e w4 ⟨ka, kn, kc, kb, km, kd, rfl, hO, hO', hD, hB⟩
        have hB_4 : Below va3.heap.size va3 w4 := (bl.next hB)
        have X_4 := X_3.next hB_4
        have Y_4 := Y_3.next hB_4
        have R1_4 := R1_3.next hB_4
        have OV_4 := OV_3.next hB_4
        have hA_4 := hA_3.below hB_4
        have hBq_4 := hBq_3.below hB_4
        have hC_4 := hC_3.below hB_4
        have hDq_4 := hDq_3.below hB_4
        have hq_4 := hq_3.below hB_4
        have hbAcc_4 := hbAcc_3.next hB_4
        have On_4 := On_3.below hB_4
        have Pn_4 := Pn_3.below hB_4
        have hbel_4 := hbel_3.next hB_4
        have hsz_4 := hB_4.size
        clear X_3 Y_3 R1_3 OV_3 hA_3 hBq_3 hC_3 hDq_3 hq_3 hbAcc_3 On_3 Pn_3 hbel_3 hB_4
        have Ok_4 := (show Own va3.heap.size _ _ _ _ _ from hO)
        have ltOk := (show Own va3.heap.size _ _ _ _ _ from hO).ltB
        have Pk_4 := (show Own va3.heap.size _ _ _ _ _ from hO')
        have ltPk := (show Own va3.heap.size _ _ _ _ _ from hO').ltB
        have Dk := hid hD
        clear hO hO' hD
        try clear hB
        (try go_wp2_with fail)
        refine hKq.out _ _ ⟨X_4, Y_4⟩ (fun hHeld => ?_)
        clear hHeld hKq Kq
        (try simp only [Act.put, List.setIfInBounds_toArray, List.set_cons_zero, List.set_cons_succ])
        refine D_pure (i := 3) (d := some 42) (v := (.tuple #[(.agg #[Value.bool (decide ((k).num < 0)), Value.slice ka kn kc, Value.slice kb km kd]), (.int .i64 0)])) rfl rfl (by kernel_rfl) (by kernel_rfl) (by kernel_rfl) (fun _ _ _ h => h) (by rfl) (fun _ => by go_simp) ?_
        (try simp only [Act.put, List.setIfInBounds_toArray, List.set_cons_zero, List.set_cons_succ])
        refine D_pure (i := 4) (d := some 46) (v := (.agg #[Value.bool (decide ((k).num < 0)), Value.slice ka kn kc, Value.slice kb km kd])) rfl rfl (by kernel_rfl) (by kernel_rfl) (by kernel_rfl) (fun _ _ _ h => h) (by rfl) (fun _ => by go_simp) ?_
        (try simp only [Act.put, List.setIfInBounds_toArray, List.set_cons_zero, List.set_cons_succ])
        refine D_pure (i := 5) (d := some 47) (v := (.int .i64 0)) rfl rfl (by kernel_rfl) (by kernel_rfl) (by kernel_rfl) (fun _ _ _ h => h) (by rfl) (fun _ => by go_simp) ?_
        (try simp only [Act.put, List.setIfInBounds_toArray, List.set_cons_zero, List.set_cons_succ])
        have cOV_4_0 : _ = some (Value.bool false) := OV_4.cell 0
        have fOV_4_0 := OV_4.free 0
        have cOV_4_1 : _ = some (Value.slice none 0 0) := OV_4.cell 1
        have fOV_4_1 := OV_4.free 1
        have cOV_4_2 : _ = some (Value.slice none 0 0) := OV_4.cell 2
        have fOV_4_2 := OV_4.free 2
        refine D_late (i := 7) (by kernel_rfl) rfl (by kernel_rfl) (fun Kq hKq => ?_)
        go_simp
        refine hKq.out _ _ ?_
        clear hKq Kq
        (try simp only [Act.put, List.setIfInBounds_toArray, List.set_cons_zero, List.set_cons_succ])
        refine D_late (i := 8) (by kernel_rfl) rfl (by kernel_rfl) (fun Kq hKq => ?_)
        go_simp
        refine hKq.out _ _ ?_
        clear hKq Kq
        (try simp only [Act.put, List.setIfInBounds_toArray, List.set_cons_zero, List.set_cons_succ])
        refine D_done (by kernel_rfl) ?_ _
        refine NoPanic.normal ?_
        go_wp2_with fail
        go_meet
        exact ⟨_, _, _, _, _, _, _, rfl, rfl, (show Blk _ _ #[_, _, _] from ((OV_4.setCell (i := 0) (v := _) (by simp)).setCell (i := 1) (v := _) (by simp)).setCell (i := 2) (v := _) (by simp)), by omega, ((Ok_4.kp (kp_set3 _ _ _ _ _) (fun g' e (e2 : g' = _) => by first | (have := (Ok_4.lt' g' e).1; omega) | (have := ltOk g' e; omega))).mono (by omega)), ((Pk_4.kp (kp_set3 _ _ _ _ _) (fun g' e (e2 : g' = _) => by first | (have := (Pk_4.lt' g' e).1; omega) | (have := ltPk g' e; omega))).mono (by omega)), Below.set3 hbAcc_4 (by omega) _ _ _⟩
    · go_simp
      have hbx := blk_new vd1 #[Value.bool false, Value.slice none 0 0, Value.slice none 0 0] 28
      have hbB := (Below.refl vd1.heap.size vd1).alloc (Nat.le_refl _) (.cells #[Value.bool false, Value.slice none 0 0, Value.slice none 0 0] 28)
      have hltOV := hbx.lt
      have hB_2 : Below vd1.heap.size vd1 (vd1.alloc (.cells #[Value.bool false, Value.slice none 0 0, Value.slice none 0 0] 28)) := hbB
      have X_2 := X_1.next hB_2
      have Y_2 := Y_1.next hB_2
      have R1_2 := R1_1.next hB_2
      have hA_2 := hA_1.below hB_2
      have hBq_2 := hBq_1.below hB_2
      have hC_2 := hC_1.below hB_2
      have hDq_2 := hDq_1.below hB_2
      have hq_2 := hq_1.below hB_2
      have hbAcc_2 := hbAcc_1.next hB_2
      have hbel_2 := hbel_1.next hB_2
      have hsz_2 := hB_2.size
      clear X_1 Y_1 R1_1 hA_1 hBq_1 hC_1 hDq_1 hq_1 hbAcc_1 hbel_1 hB_2
      have OV_2 := hbx
      clear hbx hbB
      generalize (vd1.alloc (.cells #[Value.bool false, Value.slice none 0 0, Value.slice none 0 0] 28)) = va2 at *
      refine hKq.out _ _ ⟨X_2, Y_2⟩ (fun hHeld => ?_)
      clear hHeld hKq Kq
      (try simp only [Act.put, List.setIfInBounds_toArray, List.set_cons_zero, List.set_cons_succ])
      refine D_one (i := 0) (by kernel_rfl) rfl (fun Kq hKq => ?_)
      go_simp
      refine (kone).mono ?_
      rintro e w3 ⟨na, nn, nc, nb, nm, nd, rfl, hO, hO', hD, hB⟩
      have hB_3 : Below va2.heap.size va2 w3 := (bl.next hB)
      have X_3 := X_2.next hB_3
      have Y_3 := Y_2.next hB_3
      have R1_3 := R1_2.next hB_3
      have OV_3 := OV_2.next hB_3
      have hA_3 := hA_2.below hB_3
      have hBq_3 := hBq_2.below hB_3
      have hC_3 := hC_2.below hB_3
      have hDq_3 := hDq_2.below hB_3
      have hq_3 := hq_2.below hB_3
      have hbAcc_3 := hbAcc_2.next hB_3
      have hbel_3 := hbel_2.next hB_3
      have hsz_3 := hB_3.size
      clear X_2 Y_2 R1_2 OV_2 hA_2 hBq_2 hC_2 hDq_2 hq_2 hbAcc_2 hbel_2 hB_3
      have On_3 := (show Own va2.heap.size _ _ _ _ _ from hO)
      have ltOn := (show Own va2.heap.size _ _ _ _ _ from hO).ltB
      have Pn_3 := (show Own va2.heap.size _ _ _ _ _ from hO')
      have ltPn := (show Own va2.heap.size _ _ _ _ _ from hO').ltB
      have Dn := hid hD
      clear hO hO' hD
      try clear hB
      (try go_wp2_with fail)
      refine hKq.out _ _ ⟨X_3, Y_3⟩ (fun hHeld => ?_)
      clear hHeld hKq Kq
      (try simp only [Act.put, List.setIfInBounds_toArray, List.set_cons_zero, List.set_cons_succ])
      refine D_one (i := 2) (by kernel_rfl) rfl (fun Kq hKq => ?_)
      go_simp
      refine ((show Calls _ _ _ _ (RetQK _ k) from hk.out ▸ qdiv_nz (On_3.rdQ Pn_3 qs_one) (by omega) hq_3 (by omega) h00.out)).mono ?_
      rintro e w4 ⟨ka, kn, kc, kb, km, kd, rfl, hO, hO', hD, hB⟩
      have hB_4 : Below w3.heap.size w3 w4 := (bl.next hB)
      have X_4 := X_3.next hB_4
      have Y_4 := Y_3.next hB_4
      have R1_4 := R1_3.next hB_4
      have OV_4 := OV_3.next hB_4
      have hA_4 := hA_3.below hB_4
      have hBq_4 := hBq_3.below hB_4
      have hC_4 := hC_3.below hB_4
      have hDq_4 := hDq_3.below hB_4
      have hq_4 := hq_3.below hB_4
      have hbAcc_4 := hbAcc_3.next hB_4
      have On_4 := On_3.below hB_4
      have Pn_4 := Pn_3.below hB_4
      have hbel_4 := hbel_3.next hB_4
      have hsz_4 := hB_4.size
      clear X_3 Y_3 R1_3 OV_3 hA_3 hBq_3 hC_3 hDq_3 hq_3 hbAcc_3 On_3 Pn_3 hbel_3 hB_4
      have Ok_4 := (show Own w3.heap.size _ _ _ _ _ from hO)
      have ltOk := (show Own w3.heap.size _ _ _ _ _ from hO).ltB
      have Pk_4 := (show Own w3.heap.size _ _ _ _ _ from hO')
      have ltPk := (show Own w3.heap.size _ _ _ _ _ from hO').ltB
      have Dk := hid hD
      clear hO hO' hD
      try clear hB
      (try go_wp2_with fail)
      refine hKq.out _ _ ⟨X_4, Y_4⟩ (fun hHeld => ?_)
      clear hHeld hKq Kq
      (try simp only [Act.put, List.setIfInBounds_toArray, List.set_cons_zero, List.set_cons_succ])
      refine D_pure (i := 3) (d := some 42) (v := (.tuple #[(.agg #[Value.bool (decide ((k).num < 0)), Value.slice ka kn kc, Value.slice kb km kd]), (.int .i64 0)])) rfl rfl (by kernel_rfl) (by kernel_rfl) (by kernel_rfl) (fun _ _ _ h => h) (by rfl) (fun _ => by go_simp) ?_
      (try simp only [Act.put, List.setIfInBounds_toArray, List.set_cons_zero, List.set_cons_succ])
      refine D_pure (i := 4) (d := some 46) (v := (.agg #[Value.bool (decide ((k).num < 0)), Value.slice ka kn kc, Value.slice kb km kd])) rfl rfl (by kernel_rfl) (by kernel_rfl) (by kernel_rfl) (fun _ _ _ h => h) (by rfl) (fun _ => by go_simp) ?_
      (try simp only [Act.put, List.setIfInBounds_toArray, List.set_cons_zero, List.set_cons_succ])
      refine D_pure (i := 5) (d := some 47) (v := (.int .i64 0)) rfl rfl (by kernel_rfl) (by kernel_rfl) (by kernel_rfl) (fun _ _ _ h => h) (by rfl) (fun _ => by go_simp) ?_
      (try simp only [Act.put, List.setIfInBounds_toArray, List.set_cons_zero, List.set_cons_succ])
      have cOV_4_0 : _ = some (Value.bool false) := OV_4.cell 0
      have fOV_4_0 := OV_4.free 0
      have cOV_4_1 : _ = some (Value.slice none 0 0) := OV_4.cell 1
      have fOV_4_1 := OV_4.free 1
      have cOV_4_2 : _ = some (Value.slice none 0 0) := OV_4.cell 2
      have fOV_4_2 := OV_4.free 2
      refine D_late (i := 7) (by kernel_rfl) rfl (by kernel_rfl) (fun Kq hKq => ?_)
      go_simp
      refine hKq.out _ _ ?_
      clear hKq Kq
      (try simp only [Act.put, List.setIfInBounds_toArray, List.set_cons_zero, List.set_cons_succ])
      refine D_late (i := 8) (by kernel_rfl) rfl (by kernel_rfl) (fun Kq hKq => ?_)
      go_simp
      refine hKq.out _ _ ?_
      clear hKq Kq
      (try simp only [Act.put, List.setIfInBounds_toArray, List.set_cons_zero, List.set_cons_succ])
      refine D_done (by kernel_rfl) ?_ _
      refine NoPanic.normal ?_
      go_wp2_with fail
      go_meet
      exact ⟨_, _, _, _, _, _, _, rfl, rfl, (show Blk _ _ #[_, _, _] from ((OV_4.setCell (i := 0) (v := _) (by simp)).setCell (i := 1) (v := _) (by simp)).setCell (i := 2) (v := _) (by simp)), by omega, ((Ok_4.kp (kp_set3 _ _ _ _ _) (fun g' e (e2 : g' = _) => by first | (have := (Ok_4.lt' g' e).1; omega) | (have := ltOk g' e; omega))).mono (by omega)), ((Pk_4.kp (kp_set3 _ _ _ _ _) (fun g' e (e2 : g' = _) => by first | (have := (Pk_4.lt' g' e).1; omega) | (have := ltPk g' e; omega))).mono (by omega)), Below.set3 hbAcc_4 (by omega) _ _ _⟩
  case rest =>
    obtain ⟨gOV, ka, kn, kc, kb, km, kd, rfl, rfl, hbk, hge, hO, hO', hBc⟩ := hcut
    have hB_1 : Below W0.heap.size W0 wc := hBc
    have X_1 := X_0.next hB_1
    have Y_1 := Y_0.next hB_1
    have R1_1 := R1_0.next hB_1
    have hA_1 := hA_0.below hB_1
    have hBq_1 := hBq_0.below hB_1
    have hC_1 := hC_0.below hB_1
    have hDq_1 := hDq_0.below hB_1
    have hq_1 := hq_0.below hB_1
    have hbel_1 := hbel_0.next hB_1
    have hsz_1 := hB_1.size
    clear X_0 Y_0 R1_0 hA_0 hBq_0 hC_0 hDq_0 hq_0 hbel_0 hB_1
    clear hBc
    obtain ⟨wc1, hwc⟩ : ∃ y : World, y = wc := ⟨_, rfl⟩
    subst hwc
    have OV_1 := hbk
    clear hbk
    have OK_1 := hO
    have ltOK := hO.ltB
    have PK_1 := hO'
    have ltPK := hO'.ltB
    clear hO hO'
    have cOV_1_0 : _ = some (Value.bool (decide (k.num < 0))) := OV_1.cell 0
    have cOV_1_1 : _ = some (Value.slice ka kn kc) := OV_1.cell 1
    have cOV_1_2 : _ = some (Value.slice kb km kd) := OV_1.cell 2
    have cY_1_0 : _ = some (Value.bool s) := Y_1.cell 0
    have fY_1_0 := Y_1.free 0
    have cY_1_1 : _ = some (Value.slice a n c) := Y_1.cell 1
    have fY_1_1 := Y_1.free 1
    have cY_1_2 : _ = some (Value.slice b m d) := Y_1.cell 2
    have fY_1_2 := Y_1.free 2
    go_wp2_with fail
    clear cOV_1_0 cOV_1_1 cOV_1_2 cY_1_0 fY_1_0 cY_1_1 fY_1_1 cY_1_2 fY_1_2
    have hkp := kp_set3 wc1 (w.heap.size + 1) (Value.bool (decide (k.num < 0))) (Value.slice ka kn kc) (Value.slice kb km kd)
    have Y_2 := (show Blk _ _ #[Value.bool (decide (k.num < 0)), Value.slice ka kn kc, Value.slice kb km kd] from ((Y_1.setCell (i := 0) (v := Value.bool (decide (k.num < 0))) (by simp)).setCell (i := 1) (v := Value.slice ka kn kc) (by simp)).setCell (i := 2) (v := Value.slice kb km kd) (by simp))
    have X_2 := X_1.kp hkp (show ¬ (w.heap.size = w.heap.size + 1) by omega)
    have R1_2 := R1_1.kp hkp (show ¬ (w.heap.size + 1 + 1 = w.heap.size + 1) by omega)
    have OK_2 := OK_1.kp hkp (fun g' e (e2 : g' = w.heap.size + 1) => by have := (OK_1.lt' g' e).1; omega)
    have PK_2 := PK_1.kp hkp (fun g' e (e2 : g' = w.heap.size + 1) => by have := (PK_1.lt' g' e).1; omega)
    have hbel_2 := hbel_1.kp hkp hbel_1.size (fun j hj (e : j = w.heap.size + 1) => by omega)
    have hsz_2 := hkp.size
    clear hkp X_1 Y_1 R1_1 OV_1 OK_1 PK_1 hbel_1 hA_1 hBq_1 hC_1 hDq_1 hq_1
    generalize (((wc1.setCell ⟨w.heap.size + 1, 0, none⟩ (Value.bool (decide (k.num < 0)))).setCell ⟨w.heap.size + 1, 1, none⟩ (Value.slice ka kn kc)).setCell ⟨w.heap.size + 1, 2, none⟩ (Value.slice kb km kd)) = vy at *
    have hA_2 := (hff.out.A.below hbel_2).rdQ hFF.out.a
    have hBq_2 := (hff.out.B.below hbel_2).rdQ hFF.out.b
    have hC_2 := (hff.out.C.below hbel_2).rdQ hFF.out.c
    have hDq_2 := (hff.out.D.below hbel_2).rdQ hFF.out.d
    have hq_2 := OK_2.rdQ PK_2 hQk.out
    go_wp2_with fail
    have hB : Below vy.heap.size vy vy.drew := (Below.refl _ _).drew
    have hB_3 : Below vy.heap.size vy vy.drew := hB
    have X_3 := X_2.next hB_3
    have Y_3 := Y_2.next hB_3
    have R1_3 := R1_2.next hB_3
    have OK_3 := OK_2.below hB_3
    have PK_3 := PK_2.below hB_3
    have hA_3 := hA_2.below hB_3
    have hBq_3 := hBq_2.below hB_3
    have hC_3 := hC_2.below hB_3
    have hDq_3 := hDq_2.below hB_3
    have hq_3 := hq_2.below hB_3
    have hbel_3 := hbel_2.next hB_3
    have hsz_3 := hB_3.size
    clear X_2 Y_2 R1_2 OK_2 PK_2 hA_2 hBq_2 hC_2 hDq_2 hq_2 hbel_2 hB_3
    clear hB
    refine wp_region_noPanic ?_
    refine D_region (S := (fun w' => Blk w' (w.heap.size) f.arr ∧ Blk w' (w.heap.size + 1) #[Value.bool (decide (k.num < 0)), Value.slice ka kn kc, Value.slice kb km kd])) (T := [13, 14]) (by kernel_rfl) ⟨X_3, Y_3⟩ (fun hHeld => ?_)
    clear hHeld
    generalize vy.drew = vd3 at *
    refine D_load (i := 0) (d := some 53) (v := (.agg #[Value.bool (decide (k.num < 0)), Value.slice ka kn kc, Value.slice kb km kd])) [0, 2, 4, 6, 9, 11] rfl rfl (by kernel_rfl) (by kernel_rfl) (by kernel_rfl) (by kernel_rfl) (by kernel_rfl) (by kernel_rfl) (fun _ _ _ h => h) (by rfl) (fun w hSw => by (obtain ⟨b0, b1⟩ := hSw); have l0 : _ = some (Value.bool (decide (k.num < 0))) := b1.cell (0); have l1 : _ = some (Value.slice ka kn kc) := b1.cell (1); have l2 : _ = some (Value.slice kb km kd) := b1.cell (2); (clear b0 b1); go_simp) ⟨X_3, Y_3⟩ ?_
    (try simp only [Act.put, List.setIfInBounds_toArray, List.set_cons_zero, List.set_cons_succ])
    refine D_pure (i := 1) (d := some 54) (v := (.pointer (some ⟨w.heap.size, 0, none⟩))) rfl rfl (by kernel_rfl) (by kernel_rfl) (by kernel_rfl) (fun _ _ _ h => h) (by rfl) (fun _ => by go_simp) ?_
    (try simp only [Act.put, List.setIfInBounds_toArray, List.set_cons_zero, List.set_cons_succ])
    refine D_load (i := 2) (d := some 55) (v := (.agg #[Value.bool f.A.s, Value.slice f.A.a f.A.n f.A.c, Value.slice f.A.b f.A.m f.A.d])) [0, 2, 4, 6, 9, 11] rfl rfl (by kernel_rfl) (by kernel_rfl) (by kernel_rfl) (by kernel_rfl) (by kernel_rfl) (by kernel_rfl) (fun _ _ _ h => h) (by rfl) (fun w hSw => by (obtain ⟨b0, b1⟩ := hSw); have l0 : _ = some (Value.bool f.A.s) := b0.cell (0); have l1 : _ = some (Value.slice f.A.a f.A.n f.A.c) := b0.cell (1); have l2 : _ = some (Value.slice f.A.b f.A.m f.A.d) := b0.cell (2); (clear b0 b1); go_simp) ⟨X_3, Y_3⟩ ?_
    (try simp only [Act.put, List.setIfInBounds_toArray, List.set_cons_zero, List.set_cons_succ])
    refine D_load (i := 4) (d := some 57) (v := (.agg #[Value.bool (decide (k.num < 0)), Value.slice ka kn kc, Value.slice kb km kd])) [0, 2, 4, 6, 9, 11] rfl rfl (by kernel_rfl) (by kernel_rfl) (by kernel_rfl) (by kernel_rfl) (by kernel_rfl) (by kernel_rfl) (fun _ _ _ h => h) (by rfl) (fun w hSw => by (obtain ⟨b0, b1⟩ := hSw); have l0 : _ = some (Value.bool (decide (k.num < 0))) := b1.cell (0); have l1 : _ = some (Value.slice ka kn kc) := b1.cell (1); have l2 : _ = some (Value.slice kb km kd) := b1.cell (2); (clear b0 b1); go_simp) ⟨X_3, Y_3⟩ ?_
    (try simp only [Act.put, List.setIfInBounds_toArray, List.set_cons_zero, List.set_cons_succ])
    refine D_pure (i := 5) (d := some 58) (v := (.pointer (some ⟨w.heap.size, 3, none⟩))) rfl rfl (by kernel_rfl) (by kernel_rfl) (by kernel_rfl) (fun _ _ _ h => h) (by rfl) (fun _ => by go_simp) ?_
    (try simp only [Act.put, List.setIfInBounds_toArray, List.set_cons_zero, List.set_cons_succ])
    refine D_load (i := 6) (d := some 59) (v := (.agg #[Value.bool f.B.s, Value.slice f.B.a f.B.n f.B.c, Value.slice f.B.b f.B.m f.B.d])) [0, 2, 4, 6, 9, 11] rfl rfl (by kernel_rfl) (by kernel_rfl) (by kernel_rfl) (by kernel_rfl) (by kernel_rfl) (by kernel_rfl) (fun _ _ _ h => h) (by rfl) (fun w hSw => by (obtain ⟨b0, b1⟩ := hSw); have l0 : _ = some (Value.bool f.B.s) := b0.cell (3); have l1 : _ = some (Value.slice f.B.a f.B.n f.B.c) := b0.cell (4); have l2 : _ = some (Value.slice f.B.b f.B.m f.B.d) := b0.cell (5); (clear b0 b1); go_simp) ⟨X_3, Y_3⟩ ?_
    (try simp only [Act.put, List.setIfInBounds_toArray, List.set_cons_zero, List.set_cons_succ])
    refine D_pure (i := 8) (d := some 61) (v := (.pointer (some ⟨w.heap.size, 6, none⟩))) rfl rfl (by kernel_rfl) (by kernel_rfl) (by kernel_rfl) (fun _ _ _ h => h) (by rfl) (fun _ => by go_simp) ?_
    (try simp only [Act.put, List.setIfInBounds_toArray, List.set_cons_zero, List.set_cons_succ])
    refine D_load (i := 9) (d := some 62) (v := (.agg #[Value.bool f.C.s, Value.slice f.C.a f.C.n f.C.c, Value.slice f.C.b f.C.m f.C.d])) [0, 2, 4, 6, 9, 11] rfl rfl (by kernel_rfl) (by kernel_rfl) (by kernel_rfl) (by kernel_rfl) (by kernel_rfl) (by kernel_rfl) (fun _ _ _ h => h) (by rfl) (fun w hSw => by (obtain ⟨b0, b1⟩ := hSw); have l0 : _ = some (Value.bool f.C.s) := b0.cell (6); have l1 : _ = some (Value.slice f.C.a f.C.n f.C.c) := b0.cell (7); have l2 : _ = some (Value.slice f.C.b f.C.m f.C.d) := b0.cell (8); (clear b0 b1); go_simp) ⟨X_3, Y_3⟩ ?_
    (try simp only [Act.put, List.setIfInBounds_toArray, List.set_cons_zero, List.set_cons_succ])
    refine D_pure (i := 10) (d := some 63) (v := (.pointer (some ⟨w.heap.size, 9, none⟩))) rfl rfl (by kernel_rfl) (by kernel_rfl) (by kernel_rfl) (fun _ _ _ h => h) (by rfl) (fun _ => by go_simp) ?_
    (try simp only [Act.put, List.setIfInBounds_toArray, List.set_cons_zero, List.set_cons_succ])
    refine D_load (i := 11) (d := some 64) (v := (.agg #[Value.bool f.D.s, Value.slice f.D.a f.D.n f.D.c, Value.slice f.D.b f.D.m f.D.d])) [0, 2, 4, 6, 9, 11] rfl rfl (by kernel_rfl) (by kernel_rfl) (by kernel_rfl) (by kernel_rfl) (by kernel_rfl) (by kernel_rfl) (fun _ _ _ h => h) (by rfl) (fun w hSw => by (obtain ⟨b0, b1⟩ := hSw); have l0 : _ = some (Value.bool f.D.s) := b0.cell (9); have l1 : _ = some (Value.slice f.D.a f.D.n f.D.c) := b0.cell (10); have l2 : _ = some (Value.slice f.D.b f.D.m f.D.d) := b0.cell (11); (clear b0 b1); go_simp) ⟨X_3, Y_3⟩ ?_
    (try simp only [Act.put, List.setIfInBounds_toArray, List.set_cons_zero, List.set_cons_succ])
    refine D_one (i := 3) (by kernel_rfl) rfl (fun Kq hKq => ?_)
    go_simp
    refine ((show Calls _ _ _ _ (RetQ _ za) from hza.out ▸ qmul hq_3 (by omega) hA_3 (by omega))).mono ?_
    rintro e w4 ⟨va, vn, vc, vb, vm, vd, rfl, hO, hO', hD, hB⟩
    have hB_4 : Below vd3.heap.size vd3 w4 := (bl.next hB)
    have X_4 := X_3.next hB_4
    have Y_4 := Y_3.next hB_4
    have R1_4 := R1_3.next hB_4
    have OK_4 := OK_3.below hB_4
    have PK_4 := PK_3.below hB_4
    have hA_4 := hA_3.below hB_4
    have hBq_4 := hBq_3.below hB_4
    have hC_4 := hC_3.below hB_4
    have hDq_4 := hDq_3.below hB_4
    have hq_4 := hq_3.below hB_4
    have hbel_4 := hbel_3.next hB_4
    have hsz_4 := hB_4.size
    clear X_3 Y_3 R1_3 OK_3 PK_3 hA_3 hBq_3 hC_3 hDq_3 hq_3 hbel_3 hB_4
    have Ov_4 := (show Own vd3.heap.size _ _ _ _ _ from hO)
    have ltOv := (show Own vd3.heap.size _ _ _ _ _ from hO).ltB
    have Pv_4 := (show Own vd3.heap.size _ _ _ _ _ from hO')
    have ltPv := (show Own vd3.heap.size _ _ _ _ _ from hO').ltB
    have Dv := hid hD
    clear hO hO' hD
    try clear hB
    (try go_wp2_with fail)
    refine hKq.out _ _ ⟨X_4, Y_4⟩ (fun hHeld => ?_)
    clear hHeld hKq Kq
    (try simp only [Act.put, List.setIfInBounds_toArray, List.set_cons_zero, List.set_cons_succ])
    refine D_one (i := 7) (by kernel_rfl) rfl (fun Kq hKq => ?_)
    go_simp
    refine ((show Calls _ _ _ _ (RetQ _ zb) from hzb.out ▸ qmul hq_4 (by omega) hBq_4 (by omega))).mono ?_
    rintro e w5 ⟨ya, yn, yc, yb, ym, yd, rfl, hO, hO', hD, hB⟩
    have hB_5 : Below w4.heap.size w4 w5 := (bl.next hB)
    have X_5 := X_4.next hB_5
    have Y_5 := Y_4.next hB_5
    have R1_5 := R1_4.next hB_5
    have OK_5 := OK_4.below hB_5
    have PK_5 := PK_4.below hB_5
    have hA_5 := hA_4.below hB_5
    have hBq_5 := hBq_4.below hB_5
    have hC_5 := hC_4.below hB_5
    have hDq_5 := hDq_4.below hB_5
    have hq_5 := hq_4.below hB_5
    have Ov_5 := Ov_4.below hB_5
    have Pv_5 := Pv_4.below hB_5
    have hbel_5 := hbel_4.next hB_5
    have hsz_5 := hB_5.size
    clear X_4 Y_4 R1_4 OK_4 PK_4 hA_4 hBq_4 hC_4 hDq_4 hq_4 Ov_4 Pv_4 hbel_4 hB_5
    have Oy_5 := (show Own w4.heap.size _ _ _ _ _ from hO)
    have ltOy := (show Own w4.heap.size _ _ _ _ _ from hO).ltB
    have Py_5 := (show Own w4.heap.size _ _ _ _ _ from hO')
    have ltPy := (show Own w4.heap.size _ _ _ _ _ from hO').ltB
    have Dy := hid hD
    clear hO hO' hD
    try clear hB
    (try go_wp2_with fail)
    refine hKq.out _ _ ⟨X_5, Y_5⟩ (fun hHeld => ?_)
    clear hHeld hKq Kq
    (try simp only [Act.put, List.setIfInBounds_toArray, List.set_cons_zero, List.set_cons_succ])
    refine D_pure (i := 12) (d := some 65) (v := (.agg #[Value.bool (decide ((za).num < 0)), Value.slice va vn vc, Value.slice vb vm vd, Value.bool (decide ((zb).num < 0)), Value.slice ya yn yc, Value.slice yb ym yd, Value.bool f.C.s, Value.slice f.C.a f.C.n f.C.c, Value.slice f.C.b f.C.m f.C.d, Value.bool f.D.s, Value.slice f.D.a f.D.n f.D.c, Value.slice f.D.b f.D.m f.D.d])) rfl rfl (by kernel_rfl) (by kernel_rfl) (by kernel_rfl) (fun _ _ _ h => h) (by rfl) (fun _ => by go_simp) ?_
    (try simp only [Act.put, List.setIfInBounds_toArray, List.set_cons_zero, List.set_cons_succ])
    refine D_late (i := 13) (by kernel_rfl) rfl (by kernel_rfl) (fun Kq hKq => ?_)
    rw [if_pos (by rfl)]
    refine wp_storeL (p := ⟨⟨decide ((za).num < 0), va, vn, vc, vb, vm, vd⟩, ⟨decide ((zb).num < 0), ya, yn, yc, yb, ym, yd⟩, f.C, f.D⟩) _ _ rfl rfl rfl R1_5 (fun ws hbs hks => ?_)
    refine hKq.out _ _ ?_
    clear hKq Kq
    (try simp only [Act.put, List.setIfInBounds_toArray, List.set_cons_zero, List.set_cons_succ])
    refine D_late (i := 14) (by kernel_rfl) rfl (by kernel_rfl) (fun Kq hKq => ?_)
    go_simp
    refine hKq.out _ _ ?_
    clear hKq Kq
    (try simp only [Act.put, List.setIfInBounds_toArray, List.set_cons_zero, List.set_cons_succ])
    refine D_done (by kernel_rfl) ?_ _
    refine NoPanic.normal ?_
    have hbl := hbel_5.kp hks hbel_5.size (fun j hj (e : j = _) => by omega)
    go_wp2_with fail
    refine bodyPost_ret (res_blk_tmp Try.results78 rfl rfl hbs Try.underlying32 rfl (by kernel_rfl)) rfl ?_
    exact ⟨_, rfl, (by rw [hrg.out]; exact ⟨.inl (FN.new (Ov_5.kp hks (fun g' e (e2 : g' = _) => by have := (Ov_5.lt' g' e).1; omega)) (Pv_5.kp hks (fun g' e (e2 : g' = _) => by have := (Pv_5.lt' g' e).1; omega)) Dv.out (fun g hg => hNN.out g (by omega)) (fun g hg => hNN.out g (by omega))), .inl (FN.new (Oy_5.kp hks (fun g' e (e2 : g' = _) => by have := (Oy_5.lt' g' e).1; omega)) (Py_5.kp hks (fun g' e (e2 : g' = _) => by have := (Py_5.lt' g' e).1; omega)) Dy.out (fun g hg => hNN.out g (by omega)) (fun g hg => hNN.out g (by omega))), hff.out.C.below hbl, hff.out.D.below hbl⟩), hbl⟩

set_option maxRecDepth 100000 in
set_option maxHeartbeats 4000000 in
theorem right_minus {w : World} {N : Nat → Prop} {f : LX} {F : LV} {s : Bool} {a b : Option Addr} {n c m d J K : Nat} {q : Rat} (hf : LineOK N w f F) (hF : LS F J) (hq : RdQ K w s a n c b m d q) (hQ : QS q K) (hJ : J ≤ 300000) (hK : K ≤ 300000) (hN : ∀ g, w.heap.size ≤ g → N g) :
    Calls Try.prog 78 #[.int .i8 3, .agg f.arr, .agg #[.bool s, .slice a n c, .slice b m d]] w (RetLine N w (rgP F (-q)) 0) := by
  have hNN := hid hN
  have hFF := hid hF
  have hff := hid hf
  have hA := hf.A.rdQ hF.a
  have hBq := hf.B.rdQ hF.b
  have hC := hf.C.rdQ hF.c
  have hDq := hf.D.rdQ hF.d
  have hQQ := hid hQ
  obtain ⟨k, hk0⟩ : ∃ z, -q = z := ⟨_, rfl⟩
  have hk := hid hk0
  have hQk := hid (show QS k K by rw [← hk0]; exact hQ.neg)
  rw [hk0]
  clear hk0
  clear hf hF hN hQ
  have hent := ent3 w f.arr #[Value.bool s, Value.slice a n c, Value.slice b m d] #[Value.bool false, Value.slice none 0 0, Value.slice none 0 0, Value.bool false, Value.slice none 0 0, Value.slice none 0 0, Value.bool false, Value.slice none 0 0, Value.slice none 0 0, Value.bool false, Value.slice none 0 0, Value.slice none 0 0] 32 28 32
  go_enter Try.func78, Try.ntmps78
  go_wp2_with fail
  generalize (((w.alloc (.cells f.arr 32)).alloc (.cells #[Value.bool s, Value.slice a n c, Value.slice b m d] 28)).alloc (.cells #[Value.bool false, Value.slice none 0 0, Value.slice none 0 0, Value.bool false, Value.slice none 0 0, Value.slice none 0 0, Value.bool false, Value.slice none 0 0, Value.slice none 0 0, Value.bool false, Value.slice none 0 0, Value.slice none 0 0] 32)) = W0 at hent ⊢
  obtain ⟨X_0, Y_0, R0_0, hbel_0, hsz_0⟩ := hent
  have hA_0 := hA.below hbel_0
  clear hA
  have hBq_0 := hBq.below hbel_0
  clear hBq
  have hC_0 := hC.below hbel_0
  clear hC
  have hDq_0 := hDq.below hbel_0
  clear hDq
  have hq_0 := hq.below hbel_0
  clear hq
  have R1_0 : Blk W0 (w.heap.size + 1 + 1) LX.o.arr := R0_0
  clear R0_0
  go_wp2_with fail
  have hB : Below W0.heap.size W0 W0.drew := (Below.refl _ _).drew
  have hB_1 : Below W0.heap.size W0 W0.drew := hB
  have X_1 := X_0.next hB_1
  have Y_1 := Y_0.next hB_1
  have R1_1 := R1_0.next hB_1
  have hA_1 := hA_0.below hB_1
  have hBq_1 := hBq_0.below hB_1
  have hC_1 := hC_0.below hB_1
  have hDq_1 := hDq_0.below hB_1
  have hq_1 := hq_0.below hB_1
  have hbel_1 := hbel_0.next hB_1
  have hsz_1 := hB_1.size
  clear X_0 Y_0 R1_0 hA_0 hBq_0 hC_0 hDq_0 hq_0 hbel_0 hB_1
  clear hB
  refine wp_region_noPanic ?_
  refine D_region (S := (fun w' => Blk w' (w.heap.size) f.arr ∧ Blk w' (w.heap.size + 1) #[Value.bool s, Value.slice a n c, Value.slice b m d])) (T := [6, 7]) (by kernel_rfl) ⟨X_1, Y_1⟩ (fun hHeld => ?_)
  clear hHeld
  generalize W0.drew = vd1 at *
  refine D_load (i := 0) (d := some 13) (v := (.agg f.arr)) [0, 1] rfl rfl (by kernel_rfl) (by kernel_rfl) (by kernel_rfl) (by kernel_rfl) (by kernel_rfl) (by kernel_rfl) (fun _ _ _ h => h) (by rfl) (fun w hSw => by (obtain ⟨b0, b1⟩ := hSw); exact exec_loadB 32 _ rfl rfl b0 Try.underlying32 rfl (by kernel_rfl)) ⟨X_1, Y_1⟩ ?_
  (try simp only [Act.put, List.setIfInBounds_toArray, List.set_cons_zero, List.set_cons_succ])
  refine D_load (i := 1) (d := some 14) (v := (.agg #[Value.bool s, Value.slice a n c, Value.slice b m d])) [0, 1] rfl rfl (by kernel_rfl) (by kernel_rfl) (by kernel_rfl) (by kernel_rfl) (by kernel_rfl) (by kernel_rfl) (fun _ _ _ h => h) (by rfl) (fun w hSw => by (obtain ⟨b0, b1⟩ := hSw); have l0 : _ = some (Value.bool s) := b1.cell (0); have l1 : _ = some (Value.slice a n c) := b1.cell (1); have l2 : _ = some (Value.slice b m d) := b1.cell (2); (clear b0 b1); go_simp) ⟨X_1, Y_1⟩ ?_
  (try simp only [Act.put, List.setIfInBounds_toArray, List.set_cons_zero, List.set_cons_succ])
  refine D_one (i := 2) (by kernel_rfl) rfl (fun Kq hKq => ?_)
  go_simp
  refine ((show Calls _ _ _ _ (RetQ _ k) from hk.out ▸ qneg hq_1 (by omega))).mono ?_
  rintro e w2 ⟨ua, un, uc, ub, um, ud, rfl, hO, hO', hD, hB⟩
  have hB_2 : Below vd1.heap.size vd1 w2 := (bl.next hB)
  have X_2 := X_1.next hB_2
  have Y_2 := Y_1.next hB_2
  have R1_2 := R1_1.next hB_2
  have hA_2 := hA_1.below hB_2
  have hBq_2 := hBq_1.below hB_2
  have hC_2 := hC_1.below hB_2
  have hDq_2 := hDq_1.below hB_2
  have hq_2 := hq_1.below hB_2
  have hbel_2 := hbel_1.next hB_2
  have hsz_2 := hB_2.size
  clear X_1 Y_1 R1_1 hA_1 hBq_1 hC_1 hDq_1 hq_1 hbel_1 hB_2
  have Ou_2 := (show Own vd1.heap.size _ _ _ _ _ from hO)
  have ltOu := (show Own vd1.heap.size _ _ _ _ _ from hO).ltB
  have Pu_2 := (show Own vd1.heap.size _ _ _ _ _ from hO')
  have ltPu := (show Own vd1.heap.size _ _ _ _ _ from hO').ltB
  have Du := hid hD
  clear hO hO' hD
  try clear hB
  (try go_wp2_with fail)
  refine hKq.out _ _ ⟨X_2, Y_2⟩ (fun hHeld => ?_)
  clear hHeld hKq Kq
  (try simp only [Act.put, List.setIfInBounds_toArray, List.set_cons_zero, List.set_cons_succ])
  refine D_one (i := 3) (by kernel_rfl) rfl (fun Kq hKq => ?_)
  go_simp
  refine (right_plus (N := fun g => N g ∧ g ≠ w.heap.size + 1 + 1) ((hff.out.mono (fun g hg hn => ⟨hn, by omega⟩)).below hbel_2) hFF.out (Ou_2.rdQ Pu_2 hQk.out) hQk.out hJ hK (fun g hg => ⟨hNN.out g (by omega), by omega⟩)).mono ?_
  rintro e w3 ⟨f2, rfl, hLn, hB⟩
  have hB_3 : Below w2.heap.size w2 w3 := (bl.next hB)
  have X_3 := X_2.next hB_3
  have Y_3 := Y_2.next hB_3
  have R1_3 := R1_2.next hB_3
  have hA_3 := hA_2.below hB_3
  have hBq_3 := hBq_2.below hB_3
  have hC_3 := hC_2.below hB_3
  have hDq_3 := hDq_2.below hB_3
  have hq_3 := hq_2.below hB_3
  have Ou_3 := Ou_2.below hB_3
  have Pu_3 := Pu_2.below hB_3
  have hbel_3 := hbel_2.next hB_3
  have hsz_3 := hB_3.size
  clear X_2 Y_2 R1_2 hA_2 hBq_2 hC_2 hDq_2 hq_2 Ou_2 Pu_2 hbel_2 hB_3
  have hL2 := hid hLn
  clear hLn
  try clear hB
  (try go_wp2_with fail)
  refine hKq.out _ _ ⟨X_3, Y_3⟩ (fun hHeld => ?_)
  clear hHeld hKq Kq
  (try simp only [Act.put, List.setIfInBounds_toArray, List.set_cons_zero, List.set_cons_succ])
  refine D_pure (i := 4) (d := some 17) (v := (.agg f2.arr)) rfl rfl (by kernel_rfl) (by kernel_rfl) (by kernel_rfl) (fun _ _ _ h => h) (by rfl) (fun _ => by go_simp) ?_
  (try simp only [Act.put, List.setIfInBounds_toArray, List.set_cons_zero, List.set_cons_succ])
  refine D_pure (i := 5) (d := some 18) (v := (.int .i64 0)) rfl rfl (by kernel_rfl) (by kernel_rfl) (by kernel_rfl) (fun _ _ _ h => h) (by rfl) (fun _ => by go_simp) ?_
  (try simp only [Act.put, List.setIfInBounds_toArray, List.set_cons_zero, List.set_cons_succ])
  refine D_late (i := 6) (by kernel_rfl) rfl (by kernel_rfl) (fun Kq hKq => ?_)
  rw [if_pos (by rfl)]
  refine wp_storeL (p := f2) _ _ rfl rfl rfl R1_3 (fun ws hbs hks => ?_)
  refine hKq.out _ _ ?_
  clear hKq Kq
  (try simp only [Act.put, List.setIfInBounds_toArray, List.set_cons_zero, List.set_cons_succ])
  refine D_late (i := 7) (by kernel_rfl) rfl (by kernel_rfl) (fun Kq hKq => ?_)
  go_simp
  refine hKq.out _ _ ?_
  clear hKq Kq
  (try simp only [Act.put, List.setIfInBounds_toArray, List.set_cons_zero, List.set_cons_succ])
  refine D_done (by kernel_rfl) ?_ _
  refine NoPanic.normal ?_
  have hbl := hbel_3.kp hks hbel_3.size (fun j hj (e : j = _) => by omega)
  go_wp2_with fail
  refine bodyPost_ret (res_blk_tmp Try.results78 rfl rfl hbs Try.underlying32 rfl (by kernel_rfl)) rfl ?_
  exact ⟨_, rfl, (hL2.out.kp hks (fun j (e : j = _) hn => hn.2 e)).mono (fun g _ hn => hn.1), hbl⟩

set_option maxRecDepth 100000 in
set_option maxHeartbeats 4000000 in
theorem left_plus {w : World} {N : Nat → Prop} {f : LX} {F : LV} {s : Bool} {a b : Option Addr} {n c m d J K : Nat} {q : Rat} (hf : LineOK N w f F) (hF : LS F J) (hq : RdQ K w s a n c b m d q) (hQ : QS q K) (hJ : J ≤ 300000) (hK : K ≤ 300000) (hN : ∀ g, w.heap.size ≤ g → N g) :
    Calls Try.prog 79 #[.int .i8 2, .agg #[.bool s, .slice a n c, .slice b m d], .agg f.arr] w (RetLine N w (rgP F q) 0) := by
  have hNN := hid hN
  have hFF := hid hF
  have hff := hid hf
  have hA := hf.A.rdQ hF.a
  have hBq := hf.B.rdQ hF.b
  have hC := hf.C.rdQ hF.c
  have hDq := hf.D.rdQ hF.d
  have hQQ := hid hQ
  clear hf hF hN hQ
  have hent := ent3 w #[Value.bool s, Value.slice a n c, Value.slice b m d] f.arr #[Value.bool false, Value.slice none 0 0, Value.slice none 0 0, Value.bool false, Value.slice none 0 0, Value.slice none 0 0, Value.bool false, Value.slice none 0 0, Value.slice none 0 0, Value.bool false, Value.slice none 0 0, Value.slice none 0 0] 28 32 32
  go_enter Try.func79, Try.ntmps79
  go_upto_region 1 with fail
  generalize (((w.alloc (.cells #[Value.bool s, Value.slice a n c, Value.slice b m d] 28)).alloc (.cells f.arr 32)).alloc (.cells #[Value.bool false, Value.slice none 0 0, Value.slice none 0 0, Value.bool false, Value.slice none 0 0, Value.slice none 0 0, Value.bool false, Value.slice none 0 0, Value.slice none 0 0, Value.bool false, Value.slice none 0 0, Value.slice none 0 0] 32)) = W0 at hent ⊢
  obtain ⟨Y_0, X_0, R0_0, hbel_0, hsz_0⟩ := hent
  have hA_0 := hA.below hbel_0
  clear hA
  have hBq_0 := hBq.below hbel_0
  clear hBq
  have hC_0 := hC.below hbel_0
  clear hC
  have hDq_0 := hDq.below hbel_0
  clear hDq
  have hq_0 := hq.below hbel_0
  clear hq
  have R1_0 : Blk W0 (w.heap.size + 1 + 1) LX.o.arr := R0_0
  clear R0_0
  have cY_0_0 : _ = some (Value.bool s) := Y_0.cell 0
  have cY_0_1 : _ = some (Value.slice a n c) := Y_0.cell 1
  have cY_0_2 : _ = some (Value.slice b m d) := Y_0.cell 2
  go_wp2_with (refine BigFrame.wpList_want (by rfl) (fun Kq hKq => wp_loadL _ rfl rfl X_0 (hKq _ _ ?_)))
  refine (right_plus (N := fun g => N g ∧ g ≠ w.heap.size + 1 + 1) ((hff.out.mono (fun g hg hn => ⟨hn, by omega⟩)).below hbel_0) hFF.out hq_0 hQQ.out hJ hK (fun g hg => ⟨hNN.out g (by omega), by omega⟩)).mono ?_
  rintro e w1 ⟨f2, rfl, hLn, hB⟩
  have hB_1 : Below W0.heap.size W0 w1 := (bl.next hB)
  have Y_1 := Y_0.next hB_1
  have X_1 := X_0.next hB_1
  have R1_1 := R1_0.next hB_1
  have hA_1 := hA_0.below hB_1
  have hBq_1 := hBq_0.below hB_1
  have hC_1 := hC_0.below hB_1
  have hDq_1 := hDq_0.below hB_1
  have hq_1 := hq_0.below hB_1
  have hbel_1 := hbel_0.next hB_1
  have hsz_1 := hB_1.size
  clear Y_0 X_0 R1_0 hA_0 hBq_0 hC_0 hDq_0 hq_0 hbel_0 hB_1
  clear cY_0_0 cY_0_1 cY_0_2
  have hL2 := hid hLn
  clear hLn
  try clear hB
  go_wp2_with (refine BigFrame.wpList_want (by rfl) (fun Kq hKq => wp_storeL (p := f2) _ _ rfl rfl rfl R1_1 (fun ws hbs hks => hKq _ _ ?_)))
  have hbl := hbel_1.kp hks hbel_1.size (fun j hj (e : j = _) => by omega)
  go_wp2_with fail
  refine bodyPost_ret (res_blk_tmp Try.results79 rfl rfl hbs Try.underlying32 rfl (by kernel_rfl)) rfl ?_
  exact ⟨_, rfl, (hL2.out.kp hks (fun j (e : j = _) hn => hn.2 e)).mono (fun g _ hn => hn.1), hbl⟩

set_option maxRecDepth 100000 in
set_option maxHeartbeats 4000000 in
theorem left_times {w : World} {N : Nat → Prop} {f : LX} {F : LV} {s : Bool} {a b : Option Addr} {n c m d J K : Nat} {q : Rat} (hf : LineOK N w f F) (hF : LS F J) (hq : RdQ K w s a n c b m d q) (hQ : QS q K) (hJ : J ≤ 300000) (hK : K ≤ 300000) (hN : ∀ g, w.heap.size ≤ g → N g) :
    Calls Try.prog 79 #[.int .i8 4, .agg #[.bool s, .slice a n c, .slice b m d], .agg f.arr] w (RetLine N w (rgT F q) 0) := by
  have hNN := hid hN
  have hFF := hid hF
  have hff := hid hf
  have hA := hf.A.rdQ hF.a
  have hBq := hf.B.rdQ hF.b
  have hC := hf.C.rdQ hF.c
  have hDq := hf.D.rdQ hF.d
  have hQQ := hid hQ
  clear hf hF hN hQ
  have hent := ent3 w #[Value.bool s, Value.slice a n c, Value.slice b m d] f.arr #[Value.bool false, Value.slice none 0 0, Value.slice none 0 0, Value.bool false, Value.slice none 0 0, Value.slice none 0 0, Value.bool false, Value.slice none 0 0, Value.slice none 0 0, Value.bool false, Value.slice none 0 0, Value.slice none 0 0] 28 32 32
  go_enter Try.func79, Try.ntmps79
  go_upto_region 1 with fail
  generalize (((w.alloc (.cells #[Value.bool s, Value.slice a n c, Value.slice b m d] 28)).alloc (.cells f.arr 32)).alloc (.cells #[Value.bool false, Value.slice none 0 0, Value.slice none 0 0, Value.bool false, Value.slice none 0 0, Value.slice none 0 0, Value.bool false, Value.slice none 0 0, Value.slice none 0 0, Value.bool false, Value.slice none 0 0, Value.slice none 0 0] 32)) = W0 at hent ⊢
  obtain ⟨Y_0, X_0, R0_0, hbel_0, hsz_0⟩ := hent
  have hA_0 := hA.below hbel_0
  clear hA
  have hBq_0 := hBq.below hbel_0
  clear hBq
  have hC_0 := hC.below hbel_0
  clear hC
  have hDq_0 := hDq.below hbel_0
  clear hDq
  have hq_0 := hq.below hbel_0
  clear hq
  have R1_0 : Blk W0 (w.heap.size + 1 + 1) LX.o.arr := R0_0
  clear R0_0
  have cY_0_0 : _ = some (Value.bool s) := Y_0.cell 0
  have cY_0_1 : _ = some (Value.slice a n c) := Y_0.cell 1
  have cY_0_2 : _ = some (Value.slice b m d) := Y_0.cell 2
  go_wp2_with (refine BigFrame.wpList_want (by rfl) (fun Kq hKq => wp_loadL _ rfl rfl X_0 (hKq _ _ ?_)))
  refine (right_times (N := fun g => N g ∧ g ≠ w.heap.size + 1 + 1) ((hff.out.mono (fun g hg hn => ⟨hn, by omega⟩)).below hbel_0) hFF.out hq_0 hQQ.out hJ hK (fun g hg => ⟨hNN.out g (by omega), by omega⟩)).mono ?_
  rintro e w1 ⟨f2, rfl, hLn, hB⟩
  have hB_1 : Below W0.heap.size W0 w1 := (bl.next hB)
  have Y_1 := Y_0.next hB_1
  have X_1 := X_0.next hB_1
  have R1_1 := R1_0.next hB_1
  have hA_1 := hA_0.below hB_1
  have hBq_1 := hBq_0.below hB_1
  have hC_1 := hC_0.below hB_1
  have hDq_1 := hDq_0.below hB_1
  have hq_1 := hq_0.below hB_1
  have hbel_1 := hbel_0.next hB_1
  have hsz_1 := hB_1.size
  clear Y_0 X_0 R1_0 hA_0 hBq_0 hC_0 hDq_0 hq_0 hbel_0 hB_1
  clear cY_0_0 cY_0_1 cY_0_2
  have hL2 := hid hLn
  clear hLn
  try clear hB
  go_wp2_with (refine BigFrame.wpList_want (by rfl) (fun Kq hKq => wp_storeL (p := f2) _ _ rfl rfl rfl R1_1 (fun ws hbs hks => hKq _ _ ?_)))
  have hbl := hbel_1.kp hks hbel_1.size (fun j hj (e : j = _) => by omega)
  go_wp2_with fail
  refine bodyPost_ret (res_blk_tmp Try.results79 rfl rfl hbs Try.underlying32 rfl (by kernel_rfl)) rfl ?_
  exact ⟨_, rfl, (hL2.out.kp hks (fun j (e : j = _) hn => hn.2 e)).mono (fun g _ hn => hn.1), hbl⟩

set_option maxRecDepth 100000 in
set_option maxHeartbeats 6000000 in
theorem left_minus {w : World} {N : Nat → Prop} {f : LX} {F : LV} {s : Bool} {a b : Option Addr} {n c m d J K : Nat} {q : Rat} (hf : LineOK N w f F) (hF : LS F J) (hq : RdQ K w s a n c b m d q) (hQ : QS q K) (hJ : J ≤ 300000) (hK : K ≤ 300000) (hN : ∀ g, w.heap.size ≤ g → N g) :
    Calls Try.prog 79 #[.int .i8 3, .agg #[.bool s, .slice a n c, .slice b m d], .agg f.arr] w (RetLine N w (rgP ⟨-F.a, -F.b, F.c, F.d⟩ q) 0) := by
  have hNN := hid hN
  have hFF := hid hF
  have hff := hid hf
  have hA := hf.A.rdQ hF.a
  have hBq := hf.B.rdQ hF.b
  have hC := hf.C.rdQ hF.c
  have hDq := hf.D.rdQ hF.d
  have hQQ := hid hQ
  have hq0 := hid hq
  obtain ⟨za, hza0⟩ : ∃ z, -F.a = z := ⟨_, rfl⟩
  obtain ⟨zb, hzb0⟩ : ∃ z, -F.b = z := ⟨_, rfl⟩
  have hza := hid hza0
  have hzb := hid hzb0
  have hS2 := hid (show LS ⟨za, zb, F.c, F.d⟩ J from ⟨by show QS za J; rw [← hza0]; exact hF.a.neg, by show QS zb J; rw [← hzb0]; exact hF.b.neg, hF.c, hF.d⟩)
  rw [hza0, hzb0]
  clear hza0 hzb0
  clear hf hF hN hQ
  have hent := ent3 w #[Value.bool s, Value.slice a n c, Value.slice b m d] f.arr #[Value.bool false, Value.slice none 0 0, Value.slice none 0 0, Value.bool false, Value.slice none 0 0, Value.slice none 0 0, Value.bool false, Value.slice none 0 0, Value.slice none 0 0, Value.bool false, Value.slice none 0 0, Value.slice none 0 0] 28 32 32
  go_enter Try.func79, Try.ntmps79
  go_wp2_with fail
  generalize (((w.alloc (.cells #[Value.bool s, Value.slice a n c, Value.slice b m d] 28)).alloc (.cells f.arr 32)).alloc (.cells #[Value.bool false, Value.slice none 0 0, Value.slice none 0 0, Value.bool false, Value.slice none 0 0, Value.slice none 0 0, Value.bool false, Value.slice none 0 0, Value.slice none 0 0, Value.bool false, Value.slice none 0 0, Value.slice none 0 0] 32)) = W0 at hent ⊢
  obtain ⟨Y_0, X_0, R0_0, hbel_0, hsz_0⟩ := hent
  have hA_0 := hA.below hbel_0
  clear hA
  have hBq_0 := hBq.below hbel_0
  clear hBq
  have hC_0 := hC.below hbel_0
  clear hC
  have hDq_0 := hDq.below hbel_0
  clear hDq
  have hq_0 := hq.below hbel_0
  clear hq
  have R1_0 : Blk W0 (w.heap.size + 1 + 1) LX.o.arr := R0_0
  clear R0_0
  go_wp2_with fail
  go_cut [] (fun wx => ∃ (ua : Option Addr) (un uc : Nat) (ub : Option Addr) (um ud : Nat) (va : Option Addr) (vn vc : Nat) (vb : Option Addr) (vm vd : Nat), Blk wx (w.heap.size + 1) (⟨⟨decide (za.num < 0), ua, un, uc, ub, um, ud⟩, ⟨decide (zb.num < 0), va, vn, vc, vb, vm, vd⟩, f.C, f.D⟩ : LX).arr ∧ FN (fun g => N g ∧ g ≠ w.heap.size + 1 + 1) wx ⟨decide (za.num < 0), ua, un, uc, ub, um, ud⟩ za ∧ FN (fun g => N g ∧ g ≠ w.heap.size + 1 + 1) wx ⟨decide (zb.num < 0), va, vn, vc, vb, vm, vd⟩ zb ∧ Kp (fun j => j = w.heap.size + 1) W0 wx)
  case first =>
    have hbAcc_0 : Below W0.heap.size W0 W0 := Below.refl _ _
    go_wp2_with fail
    have hB : Below W0.heap.size W0 W0.drew := (Below.refl _ _).drew
    have hB_1 : Below W0.heap.size W0 W0.drew := hB
    have Y_1 := Y_0.next hB_1
    have X_1 := X_0.next hB_1
    have R1_1 := R1_0.next hB_1
    have hA_1 := hA_0.below hB_1
    have hBq_1 := hBq_0.below hB_1
    have hC_1 := hC_0.below hB_1
    have hDq_1 := hDq_0.below hB_1
    have hq_1 := hq_0.below hB_1
    have hbAcc_1 := hbAcc_0.next hB_1
    have hbel_1 := hbel_0.next hB_1
    have hsz_1 := hB_1.size
    clear Y_0 X_0 R1_0 hA_0 hBq_0 hC_0 hDq_0 hq_0 hbAcc_0 hbel_0 hB_1
    clear hB
    refine wp_region_noPanic ?_
    refine D_region (S := (fun w' => Blk w' (w.heap.size + 1) f.arr ∧ Blk w' (w.heap.size) #[Value.bool s, Value.slice a n c, Value.slice b m d])) (T := [7, 9]) (by kernel_rfl) ⟨X_1, Y_1⟩ (fun hHeld => ?_)
    clear hHeld
    generalize W0.drew = vd1 at *
    refine D_pure (i := 0) (d := some 11) (v := (.pointer (some ⟨w.heap.size + 1, 0, none⟩))) rfl rfl (by kernel_rfl) (by kernel_rfl) (by kernel_rfl) (fun _ _ _ h => h) (by rfl) (fun _ => by go_simp) ?_
    (try simp only [Act.put, List.setIfInBounds_toArray, List.set_cons_zero, List.set_cons_succ])
    refine D_load (i := 1) (d := some 12) (v := (.agg #[Value.bool f.A.s, Value.slice f.A.a f.A.n f.A.c, Value.slice f.A.b f.A.m f.A.d])) [1, 4] rfl rfl (by kernel_rfl) (by kernel_rfl) (by kernel_rfl) (by kernel_rfl) (by kernel_rfl) (by kernel_rfl) (fun _ _ _ h => h) (by rfl) (fun w hSw => by (obtain ⟨b0, b1⟩ := hSw); have l0 : _ = some (Value.bool f.A.s) := b0.cell (0); have l1 : _ = some (Value.slice f.A.a f.A.n f.A.c) := b0.cell (1); have l2 : _ = some (Value.slice f.A.b f.A.m f.A.d) := b0.cell (2); (clear b0 b1); go_simp) ⟨X_1, Y_1⟩ ?_
    (try simp only [Act.put, List.setIfInBounds_toArray, List.set_cons_zero, List.set_cons_succ])
    refine D_pure (i := 3) (d := some 14) (v := (.pointer (some ⟨w.heap.size + 1, 3, none⟩))) rfl rfl (by kernel_rfl) (by kernel_rfl) (by kernel_rfl) (fun _ _ _ h => h) (by rfl) (fun _ => by go_simp) ?_
    (try simp only [Act.put, List.setIfInBounds_toArray, List.set_cons_zero, List.set_cons_succ])
    refine D_load (i := 4) (d := some 15) (v := (.agg #[Value.bool f.B.s, Value.slice f.B.a f.B.n f.B.c, Value.slice f.B.b f.B.m f.B.d])) [1, 4] rfl rfl (by kernel_rfl) (by kernel_rfl) (by kernel_rfl) (by kernel_rfl) (by kernel_rfl) (by kernel_rfl) (fun _ _ _ h => h) (by rfl) (fun w hSw => by (obtain ⟨b0, b1⟩ := hSw); have l0 : _ = some (Value.bool f.B.s) := b0.cell (3); have l1 : _ = some (Value.slice f.B.a f.B.n f.B.c) := b0.cell (4); have l2 : _ = some (Value.slice f.B.b f.B.m f.B.d) := b0.cell (5); (clear b0 b1); go_simp) ⟨X_1, Y_1⟩ ?_
    (try simp only [Act.put, List.setIfInBounds_toArray, List.set_cons_zero, List.set_cons_succ])
    refine D_one (i := 2) (by kernel_rfl) rfl (fun Kq hKq => ?_)
    go_simp
    refine ((show Calls _ _ _ _ (RetQ _ za) from hza.out ▸ qneg hA_1 (by omega))).mono ?_
    rintro e w2 ⟨ua, un, uc, ub, um, ud, rfl, hO, hO', hD, hB⟩
    have hB_2 : Below vd1.heap.size vd1 w2 := (bl.next hB)
    have Y_2 := Y_1.next hB_2
    have X_2 := X_1.next hB_2
    have R1_2 := R1_1.next hB_2
    have hA_2 := hA_1.below hB_2
    have hBq_2 := hBq_1.below hB_2
    have hC_2 := hC_1.below hB_2
    have hDq_2 := hDq_1.below hB_2
    have hq_2 := hq_1.below hB_2
    have hbAcc_2 := hbAcc_1.next hB_2
    have hbel_2 := hbel_1.next hB_2
    have hsz_2 := hB_2.size
    clear Y_1 X_1 R1_1 hA_1 hBq_1 hC_1 hDq_1 hq_1 hbAcc_1 hbel_1 hB_2
    have Ou_2 := (show Own vd1.heap.size _ _ _ _ _ from hO)
    have ltOu := (show Own vd1.heap.size _ _ _ _ _ from hO).ltB
    have Pu_2 := (show Own vd1.heap.size _ _ _ _ _ from hO')
    have ltPu := (show Own vd1.heap.size _ _ _ _ _ from hO').ltB
    have Du := hid hD
    clear hO hO' hD
    try clear hB
    (try go_wp2_with fail)
    refine hKq.out _ _ ⟨X_2, Y_2⟩ (fun hHeld => ?_)
    clear hHeld hKq Kq
    (try simp only [Act.put, List.setIfInBounds_toArray, List.set_cons_zero, List.set_cons_succ])
    refine D_pure (i := 6) (d := some 17) (v := (.pointer (some ⟨w.heap.size + 1, 0, none⟩))) rfl rfl (by kernel_rfl) (by kernel_rfl) (by kernel_rfl) (fun _ _ _ h => h) (by rfl) (fun _ => by go_simp) ?_
    (try simp only [Act.put, List.setIfInBounds_toArray, List.set_cons_zero, List.set_cons_succ])
    refine D_one (i := 5) (by kernel_rfl) rfl (fun Kq hKq => ?_)
    go_simp
    refine ((show Calls _ _ _ _ (RetQ _ zb) from hzb.out ▸ qneg hBq_2 (by omega))).mono ?_
    rintro e w3 ⟨va, vn, vc, vb, vm, vd, rfl, hO, hO', hD, hB⟩
    have hB_3 : Below w2.heap.size w2 w3 := (bl.next hB)
    have Y_3 := Y_2.next hB_3
    have X_3 := X_2.next hB_3
    have R1_3 := R1_2.next hB_3
    have hA_3 := hA_2.below hB_3
    have hBq_3 := hBq_2.below hB_3
    have hC_3 := hC_2.below hB_3
    have hDq_3 := hDq_2.below hB_3
    have hq_3 := hq_2.below hB_3
    have hbAcc_3 := hbAcc_2.next hB_3
    have Ou_3 := Ou_2.below hB_3
    have Pu_3 := Pu_2.below hB_3
    have hbel_3 := hbel_2.next hB_3
    have hsz_3 := hB_3.size
    clear Y_2 X_2 R1_2 hA_2 hBq_2 hC_2 hDq_2 hq_2 hbAcc_2 Ou_2 Pu_2 hbel_2 hB_3
    have Ov_3 := (show Own w2.heap.size _ _ _ _ _ from hO)
    have ltOv := (show Own w2.heap.size _ _ _ _ _ from hO).ltB
    have Pv_3 := (show Own w2.heap.size _ _ _ _ _ from hO')
    have ltPv := (show Own w2.heap.size _ _ _ _ _ from hO').ltB
    have Dv := hid hD
    clear hO hO' hD
    try clear hB
    (try go_wp2_with fail)
    refine hKq.out _ _ ⟨X_3, Y_3⟩ (fun hHeld => ?_)
    clear hHeld hKq Kq
    (try simp only [Act.put, List.setIfInBounds_toArray, List.set_cons_zero, List.set_cons_succ])
    have cX_3_0 : _ = some (Value.bool f.A.s) := X_3.cell 0
    have fX_3_0 := X_3.free 0
    have cX_3_1 : _ = some (Value.slice f.A.a f.A.n f.A.c) := X_3.cell 1
    have fX_3_1 := X_3.free 1
    have cX_3_2 : _ = some (Value.slice f.A.b f.A.m f.A.d) := X_3.cell 2
    have fX_3_2 := X_3.free 2
    have cX_3_3 : _ = some (Value.bool f.B.s) := X_3.cell 3
    have fX_3_3 := X_3.free 3
    have cX_3_4 : _ = some (Value.slice f.B.a f.B.n f.B.c) := X_3.cell 4
    have fX_3_4 := X_3.free 4
    have cX_3_5 : _ = some (Value.slice f.B.b f.B.m f.B.d) := X_3.cell 5
    have fX_3_5 := X_3.free 5
    refine D_late (i := 7) (by kernel_rfl) rfl (by kernel_rfl) (fun Kq hKq => ?_)
    go_simp
    refine hKq.out _ _ ?_
    clear hKq Kq
    (try simp only [Act.put, List.setIfInBounds_toArray, List.set_cons_zero, List.set_cons_succ])
    refine D_pure (i := 8) (d := some 18) (v := (.pointer (some ⟨w.heap.size + 1, 3, none⟩))) rfl rfl (by kernel_rfl) (by kernel_rfl) (by kernel_rfl) (fun _ _ _ h => h) (by rfl) (fun _ => by go_simp) ?_
    (try simp only [Act.put, List.setIfInBounds_toArray, List.set_cons_zero, List.set_cons_succ])
    refine D_late (i := 9) (by kernel_rfl) rfl (by kernel_rfl) (fun Kq hKq => ?_)
    go_simp
    refine hKq.out _ _ ?_
    clear hKq Kq
    (try simp only [Act.put, List.setIfInBounds_toArray, List.set_cons_zero, List.set_cons_succ])
    refine D_done (by kernel_rfl) ?_ _
    refine NoPanic.normal ?_
    go_wp2_with fail
    go_meet
    have fu := hid (FN.new (N := fun g => (N g ∧ g ≠ w.heap.size + 1 + 1) ∧ g ≠ w.heap.size + 1) Ou_3 Pu_3 Du.out (fun g hg => ⟨⟨hNN.out g (by omega), by omega⟩, by omega⟩) (fun g hg => ⟨⟨hNN.out g (by omega), by omega⟩, by omega⟩))
    have fv := hid (FN.new (N := fun g => (N g ∧ g ≠ w.heap.size + 1 + 1) ∧ g ≠ w.heap.size + 1) Ov_3 Pv_3 Dv.out (fun g hg => ⟨⟨hNN.out g (by omega), by omega⟩, by omega⟩) (fun g hg => ⟨⟨hNN.out g (by omega), by omega⟩, by omega⟩))
    exact ⟨ua, un, uc, ub, um, ud, va, vn, vc, vb, vm, vd, blk_put_ab X_3 ⟨decide (za.num < 0), ua, un, uc, ub, um, ud⟩ ⟨decide (zb.num < 0), va, vn, vc, vb, vm, vd⟩, ((fu.out.kp (kp_put6c (Kp.refl (fun j => j = w.heap.size + 1) w3) rfl _ _ _ _ _ _) (fun j (e : j = _) hn => hn.2 e)).mono (fun g _ hn => hn.1)), ((fv.out.kp (kp_put6c (Kp.refl (fun j => j = w.heap.size + 1) w3) rfl _ _ _ _ _ _) (fun j (e : j = _) hn => hn.2 e)).mono (fun g _ hn => hn.1)), kp_put6c (p := fun j => j = w.heap.size + 1) (kp_of_below hbAcc_3) rfl _ _ _ _ _ _⟩
  case rest =>
    obtain ⟨ua, un, uc, ub, um, ud, va, vn, vc, vb, vm, vd, hbk, hfu, hfv, hks0⟩ := hcut
    have X_1 := hbk
    have Y_1 := Y_0.kp hks0 (show ¬ (w.heap.size = w.heap.size + 1) by omega)
    have R1_1 := R1_0.kp hks0 (show ¬ (w.heap.size + 1 + 1 = w.heap.size + 1) by omega)
    have hbel_1 := hbel_0.kp hks0 hbel_0.size (fun j hj (e : j = w.heap.size + 1) => by omega)
    have hsz_1 := hks0.size
    have hL1 := hid (show LineOK (fun g => N g ∧ g ≠ w.heap.size + 1 + 1) wc (⟨⟨decide (za.num < 0), ua, un, uc, ub, um, ud⟩, ⟨decide (zb.num < 0), va, vn, vc, vb, vm, vd⟩, f.C, f.D⟩ : LX) ⟨za, zb, F.c, F.d⟩ from ⟨.inl hfu, .inl hfv, (hff.out.C.mono (fun g hg hn => ⟨hn, by omega⟩)).below hbel_1, (hff.out.D.mono (fun g hg hn => ⟨hn, by omega⟩)).below hbel_1⟩)
    have hq_1 := hid (show RdQ K wc s a n c b m d q from hq0.out.below hbel_1)
    clear X_0 Y_0 R1_0 hbel_0 hbk hfu hfv hks0 hA_0 hBq_0 hC_0 hDq_0 hq_0
    obtain ⟨wv, hwc⟩ : ∃ y : World, y = wc := ⟨_, rfl⟩
    subst hwc
    have cY_1_0 : _ = some (Value.bool s) := Y_1.cell 0
    have cY_1_1 : _ = some (Value.slice a n c) := Y_1.cell 1
    have cY_1_2 : _ = some (Value.slice b m d) := Y_1.cell 2
    go_wp2_with (refine BigFrame.wpList_want (by rfl) (fun Kq hKq => wp_loadL _ rfl rfl X_1 (hKq _ _ ?_)))
    refine (right_plus (N := fun g => N g ∧ g ≠ w.heap.size + 1 + 1) (f := (⟨⟨decide (za.num < 0), ua, un, uc, ub, um, ud⟩, ⟨decide (zb.num < 0), va, vn, vc, vb, vm, vd⟩, f.C, f.D⟩ : LX)) (F := ⟨za, zb, F.c, F.d⟩) hL1.out hS2.out hq_1.out hQQ.out hJ hK (fun g hg => ⟨hNN.out g (by omega), by omega⟩)).mono ?_
    clear hq_1
    rintro e w2 ⟨f2, rfl, hLn, hB⟩
    have hB_2 : Below wv.heap.size wv w2 := (bl.next hB)
    have Y_2 := Y_1.next hB_2
    have X_2 := X_1.next hB_2
    have R1_2 := R1_1.next hB_2
    have hbel_2 := hbel_1.next hB_2
    have hsz_2 := hB_2.size
    clear Y_1 X_1 R1_1 hbel_1 hB_2
    clear cY_1_0 cY_1_1 cY_1_2
    have hL2 := hid hLn
    clear hLn
    try clear hB
    go_wp2_with (refine BigFrame.wpList_want (by rfl) (fun Kq hKq => wp_storeL (p := f2) _ _ rfl rfl rfl R1_2 (fun ws hbs hks => hKq _ _ ?_)))
    have hbl := hbel_2.kp hks hbel_2.size (fun j hj (e : j = _) => by omega)
    go_wp2_with fail
    refine bodyPost_ret (res_blk_tmp Try.results79 rfl rfl hbs Try.underlying32 rfl (by kernel_rfl)) rfl ?_
    exact ⟨_, rfl, (hL2.out.kp hks (fun j (e : j = _) hn => hn.2 e)).mono (fun g _ hn => hn.1), hbl⟩

set_option maxRecDepth 100000 in
set_option maxHeartbeats 6000000 in
theorem left_over0 {w : World} {N : Nat → Prop} {f : LX} {F : LV} {s : Bool} {a b : Option Addr} {n c m d J K : Nat} {q : Rat} (hf : LineOK N w f F) (hF : LS F J) (hq : RdQ K w s a n c b m d q) (hQ : QS q K) (hJ : J ≤ 300000) (hK : K ≤ 300000) (hN : ∀ g, w.heap.size ≤ g → N g) (h0 : F.a = 0) (h1 : F.b = 0) :
    Calls Try.prog 79 #[.int .i8 5, .agg #[.bool s, .slice a n c, .slice b m d], .agg f.arr] w (RetLine N w LV.z 11) := by
  have hNN := hid hN
  have hFF := hid hF
  have hff := hid hf
  have hA := hf.A.rdQ hF.a
  have hBq := hf.B.rdQ hF.b
  have hC := hf.C.rdQ hF.c
  have hDq := hf.D.rdQ hF.d
  have hQQ := hid hQ
  have ha0 := hid (sgnQ_zero h0)
  have hb0 := hid (sgnQ_zero h1)
  clear h0 h1
  clear hf hF hN hQ
  have hent := ent3 w #[Value.bool s, Value.slice a n c, Value.slice b m d] f.arr #[Value.bool false, Value.slice none 0 0, Value.slice none 0 0, Value.bool false, Value.slice none 0 0, Value.slice none 0 0, Value.bool false, Value.slice none 0 0, Value.slice none 0 0, Value.bool false, Value.slice none 0 0, Value.slice none 0 0] 28 32 32
  go_enter Try.func79, Try.ntmps79
  go_upto_region 1 with fail
  generalize (((w.alloc (.cells #[Value.bool s, Value.slice a n c, Value.slice b m d] 28)).alloc (.cells f.arr 32)).alloc (.cells #[Value.bool false, Value.slice none 0 0, Value.slice none 0 0, Value.bool false, Value.slice none 0 0, Value.slice none 0 0, Value.bool false, Value.slice none 0 0, Value.slice none 0 0, Value.bool false, Value.slice none 0 0, Value.slice none 0 0] 32)) = W0 at hent ⊢
  obtain ⟨Y_0, X_0, R0_0, hbel_0, hsz_0⟩ := hent
  have hA_0 := hA.below hbel_0
  clear hA
  have hBq_0 := hBq.below hbel_0
  clear hBq
  have hC_0 := hC.below hbel_0
  clear hC
  have hDq_0 := hDq.below hbel_0
  clear hDq
  have hq_0 := hq.below hbel_0
  clear hq
  have R1_0 : Blk W0 (w.heap.size + 1 + 1) LX.o.arr := R0_0
  clear R0_0
  have cX_0_0 : _ = some (Value.bool f.A.s) := X_0.cell 0
  have cX_0_1 : _ = some (Value.slice f.A.a f.A.n f.A.c) := X_0.cell 1
  have cX_0_2 : _ = some (Value.slice f.A.b f.A.m f.A.d) := X_0.cell 2
  have cX_0_3 : _ = some (Value.bool f.B.s) := X_0.cell 3
  have cX_0_4 : _ = some (Value.slice f.B.a f.B.n f.B.c) := X_0.cell 4
  have cX_0_5 : _ = some (Value.slice f.B.b f.B.m f.B.d) := X_0.cell 5
  go_wp2_with fail
  refine (qsign hA_0 (by omega)).mono ?_
  rw [ha0.out]
  rintro e w1 ⟨rfl, hB⟩
  have hB_1 : Below W0.heap.size W0 w1 := (bl.next hB)
  have Y_1 := Y_0.next hB_1
  have X_1 := X_0.next hB_1
  have R1_1 := R1_0.next hB_1
  have hA_1 := hA_0.below hB_1
  have hBq_1 := hBq_0.below hB_1
  have hC_1 := hC_0.below hB_1
  have hDq_1 := hDq_0.below hB_1
  have hq_1 := hq_0.below hB_1
  have hbel_1 := hbel_0.next hB_1
  have hsz_1 := hB_1.size
  clear Y_0 X_0 R1_0 hA_0 hBq_0 hC_0 hDq_0 hq_0 hbel_0 hB_1
  clear cX_0_0 cX_0_1 cX_0_2 cX_0_3 cX_0_4 cX_0_5
  try clear hB
  have cX_1_0 : _ = some (Value.bool f.A.s) := X_1.cell 0
  have cX_1_1 : _ = some (Value.slice f.A.a f.A.n f.A.c) := X_1.cell 1
  have cX_1_2 : _ = some (Value.slice f.A.b f.A.m f.A.d) := X_1.cell 2
  have cX_1_3 : _ = some (Value.bool f.B.s) := X_1.cell 3
  have cX_1_4 : _ = some (Value.slice f.B.a f.B.n f.B.c) := X_1.cell 4
  have cX_1_5 : _ = some (Value.slice f.B.b f.B.m f.B.d) := X_1.cell 5
  go_wp2_with fail
  refine (qsign hBq_1 (by omega)).mono ?_
  rw [hb0.out]
  rintro e w2 ⟨rfl, hB⟩
  have hB_2 : Below w1.heap.size w1 w2 := (bl.next hB)
  have Y_2 := Y_1.next hB_2
  have X_2 := X_1.next hB_2
  have R1_2 := R1_1.next hB_2
  have hA_2 := hA_1.below hB_2
  have hBq_2 := hBq_1.below hB_2
  have hC_2 := hC_1.below hB_2
  have hDq_2 := hDq_1.below hB_2
  have hq_2 := hq_1.below hB_2
  have hbel_2 := hbel_1.next hB_2
  have hsz_2 := hB_2.size
  clear Y_1 X_1 R1_1 hA_1 hBq_1 hC_1 hDq_1 hq_1 hbel_1 hB_2
  clear cX_1_0 cX_1_1 cX_1_2 cX_1_3 cX_1_4 cX_1_5
  try clear hB
  go_wp2_with (refine BigFrame.wpList_want (by rfl) (fun Kq hKq => wp_storeL (p := LX.o) _ _ rfl rfl rfl R1_2 (fun ws hbs hks => hKq _ _ ?_)))
  have hbl := hbel_2.kp hks hbel_2.size (fun j hj (e : j = _) => by omega)
  go_wp2_with fail
  refine bodyPost_ret (res_blk_tmp Try.results79 rfl rfl hbs Try.underlying32 rfl (by kernel_rfl)) rfl ?_
  exact ⟨_, rfl, LineOK.z N _, hbl⟩

set_option maxRecDepth 100000 in
set_option maxHeartbeats 6000000 in
theorem left_over_b {w : World} {N : Nat → Prop} {f : LX} {F : LV} {s : Bool} {a b : Option Addr} {n c m d J K : Nat} {q : Rat} (hf : LineOK N w f F) (hF : LS F J) (hq : RdQ K w s a n c b m d q) (hQ : QS q K) (hJ : J ≤ 300000) (hK : K ≤ 300000) (hN : ∀ g, w.heap.size ≤ g → N g) (h0 : F.a = 0) (h1 : F.b ≠ 0) :
    Calls Try.prog 79 #[.int .i8 5, .agg #[.bool s, .slice a n c, .slice b m d], .agg f.arr] w (RetLine N w ⟨q * F.c, q * F.d, F.a, F.b⟩ 0) := by
  have hNN := hid hN
  have hFF := hid hF
  have hff := hid hf
  have hA := hf.A.rdQ hF.a
  have hBq := hf.B.rdQ hF.b
  have hC := hf.C.rdQ hF.c
  have hDq := hf.D.rdQ hF.d
  have hQQ := hid hQ
  have ha0 := hid (sgnQ_zero h0)
  have hb0 := hid (sgnQ_ne h1)
  clear h0 h1
  obtain ⟨za, hza0⟩ : ∃ z, q * F.c = z := ⟨_, rfl⟩
  obtain ⟨zb, hzb0⟩ : ∃ z, q * F.d = z := ⟨_, rfl⟩
  have hza := hid hza0
  have hzb := hid hzb0
  rw [hza0, hzb0]
  clear hza0 hzb0
  clear hf hF hN hQ
  have hent := ent3 w #[Value.bool s, Value.slice a n c, Value.slice b m d] f.arr #[Value.bool false, Value.slice none 0 0, Value.slice none 0 0, Value.bool false, Value.slice none 0 0, Value.slice none 0 0, Value.bool false, Value.slice none 0 0, Value.slice none 0 0, Value.bool false, Value.slice none 0 0, Value.slice none 0 0] 28 32 32
  go_enter Try.func79, Try.ntmps79
  go_upto_region 1 with fail
  generalize (((w.alloc (.cells #[Value.bool s, Value.slice a n c, Value.slice b m d] 28)).alloc (.cells f.arr 32)).alloc (.cells #[Value.bool false, Value.slice none 0 0, Value.slice none 0 0, Value.bool false, Value.slice none 0 0, Value.slice none 0 0, Value.bool false, Value.slice none 0 0, Value.slice none 0 0, Value.bool false, Value.slice none 0 0, Value.slice none 0 0] 32)) = W0 at hent ⊢
  obtain ⟨Y_0, X_0, R0_0, hbel_0, hsz_0⟩ := hent
  have hA_0 := hA.below hbel_0
  clear hA
  have hBq_0 := hBq.below hbel_0
  clear hBq
  have hC_0 := hC.below hbel_0
  clear hC
  have hDq_0 := hDq.below hbel_0
  clear hDq
  have hq_0 := hq.below hbel_0
  clear hq
  have R1_0 : Blk W0 (w.heap.size + 1 + 1) LX.o.arr := R0_0
  clear R0_0
  have cX_0_0 : _ = some (Value.bool f.A.s) := X_0.cell 0
  have cX_0_1 : _ = some (Value.slice f.A.a f.A.n f.A.c) := X_0.cell 1
  have cX_0_2 : _ = some (Value.slice f.A.b f.A.m f.A.d) := X_0.cell 2
  have cX_0_3 : _ = some (Value.bool f.B.s) := X_0.cell 3
  have cX_0_4 : _ = some (Value.slice f.B.a f.B.n f.B.c) := X_0.cell 4
  have cX_0_5 : _ = some (Value.slice f.B.b f.B.m f.B.d) := X_0.cell 5
  go_wp2_with fail
  refine (qsign hA_0 (by omega)).mono ?_
  rw [ha0.out]
  rintro e w1 ⟨rfl, hB⟩
  have hB_1 : Below W0.heap.size W0 w1 := (bl.next hB)
  have Y_1 := Y_0.next hB_1
  have X_1 := X_0.next hB_1
  have R1_1 := R1_0.next hB_1
  have hA_1 := hA_0.below hB_1
  have hBq_1 := hBq_0.below hB_1
  have hC_1 := hC_0.below hB_1
  have hDq_1 := hDq_0.below hB_1
  have hq_1 := hq_0.below hB_1
  have hbel_1 := hbel_0.next hB_1
  have hsz_1 := hB_1.size
  clear Y_0 X_0 R1_0 hA_0 hBq_0 hC_0 hDq_0 hq_0 hbel_0 hB_1
  clear cX_0_0 cX_0_1 cX_0_2 cX_0_3 cX_0_4 cX_0_5
  try clear hB
  have cX_1_0 : _ = some (Value.bool f.A.s) := X_1.cell 0
  have cX_1_1 : _ = some (Value.slice f.A.a f.A.n f.A.c) := X_1.cell 1
  have cX_1_2 : _ = some (Value.slice f.A.b f.A.m f.A.d) := X_1.cell 2
  have cX_1_3 : _ = some (Value.bool f.B.s) := X_1.cell 3
  have cX_1_4 : _ = some (Value.slice f.B.a f.B.n f.B.c) := X_1.cell 4
  have cX_1_5 : _ = some (Value.slice f.B.b f.B.m f.B.d) := X_1.cell 5
  go_wp2_with fail
  refine (qsign hBq_1 (by omega)).mono ?_
  obtain ⟨u, hu, hu0⟩ := hb0.out
  rw [hu]
  rintro e w2 ⟨rfl, hB⟩
  have hB_2 : Below w1.heap.size w1 w2 := (bl.next hB)
  have Y_2 := Y_1.next hB_2
  have X_2 := X_1.next hB_2
  have R1_2 := R1_1.next hB_2
  have hA_2 := hA_1.below hB_2
  have hBq_2 := hBq_1.below hB_2
  have hC_2 := hC_1.below hB_2
  have hDq_2 := hDq_1.below hB_2
  have hq_2 := hq_1.below hB_2
  have hbel_2 := hbel_1.next hB_2
  have hsz_2 := hB_2.size
  clear Y_1 X_1 R1_1 hA_1 hBq_1 hC_1 hDq_1 hq_1 hbel_1 hB_2
  clear cX_1_0 cX_1_1 cX_1_2 cX_1_3 cX_1_4 cX_1_5
  try clear hB
  have du : (u == 0) = false := hu0
  clear hu hu0
  go_wp2_with fail
  have hB : Below w2.heap.size w2 w2.drew := (Below.refl _ _).drew
  have hB_3 : Below w2.heap.size w2 w2.drew := hB
  have Y_3 := Y_2.next hB_3
  have X_3 := X_2.next hB_3
  have R1_3 := R1_2.next hB_3
  have hA_3 := hA_2.below hB_3
  have hBq_3 := hBq_2.below hB_3
  have hC_3 := hC_2.below hB_3
  have hDq_3 := hDq_2.below hB_3
  have hq_3 := hq_2.below hB_3
  have hbel_3 := hbel_2.next hB_3
  have hsz_3 := hB_3.size
  clear Y_2 X_2 R1_2 hA_2 hBq_2 hC_2 hDq_2 hq_2 hbel_2 hB_3
  clear hB
  refine wp_region_noPanic ?_
  refine D_region (S := (fun w' => Blk w' (w.heap.size) #[Value.bool s, Value.slice a n c, Value.slice b m d] ∧ Blk w' (w.heap.size + 1) f.arr)) (T := [13, 14]) (by kernel_rfl) ⟨Y_3, X_3⟩ (fun hHeld => ?_)
  clear hHeld
  generalize w2.drew = vd3 at *
  refine D_load (i := 0) (d := some 37) (v := (.agg #[Value.bool s, Value.slice a n c, Value.slice b m d])) [0, 2, 4, 6, 9, 11] rfl rfl (by kernel_rfl) (by kernel_rfl) (by kernel_rfl) (by kernel_rfl) (by kernel_rfl) (by kernel_rfl) (fun _ _ _ h => h) (by rfl) (fun w hSw => by (obtain ⟨b0, b1⟩ := hSw); have l0 : _ = some (Value.bool s) := b0.cell (0); have l1 : _ = some (Value.slice a n c) := b0.cell (1); have l2 : _ = some (Value.slice b m d) := b0.cell (2); (clear b0 b1); go_simp) ⟨Y_3, X_3⟩ ?_
  (try simp only [Act.put, List.setIfInBounds_toArray, List.set_cons_zero, List.set_cons_succ])
  refine D_pure (i := 1) (d := some 38) (v := (.pointer (some ⟨w.heap.size + 1, 6, none⟩))) rfl rfl (by kernel_rfl) (by kernel_rfl) (by kernel_rfl) (fun _ _ _ h => h) (by rfl) (fun _ => by go_simp) ?_
  (try simp only [Act.put, List.setIfInBounds_toArray, List.set_cons_zero, List.set_cons_succ])
  refine D_load (i := 2) (d := some 39) (v := (.agg #[Value.bool f.C.s, Value.slice f.C.a f.C.n f.C.c, Value.slice f.C.b f.C.m f.C.d])) [0, 2, 4, 6, 9, 11] rfl rfl (by kernel_rfl) (by kernel_rfl) (by kernel_rfl) (by kernel_rfl) (by kernel_rfl) (by kernel_rfl) (fun _ _ _ h => h) (by rfl) (fun w hSw => by (obtain ⟨b0, b1⟩ := hSw); have l0 : _ = some (Value.bool f.C.s) := b1.cell (6); have l1 : _ = some (Value.slice f.C.a f.C.n f.C.c) := b1.cell (7); have l2 : _ = some (Value.slice f.C.b f.C.m f.C.d) := b1.cell (8); (clear b0 b1); go_simp) ⟨Y_3, X_3⟩ ?_
  (try simp only [Act.put, List.setIfInBounds_toArray, List.set_cons_zero, List.set_cons_succ])
  refine D_load (i := 4) (d := some 41) (v := (.agg #[Value.bool s, Value.slice a n c, Value.slice b m d])) [0, 2, 4, 6, 9, 11] rfl rfl (by kernel_rfl) (by kernel_rfl) (by kernel_rfl) (by kernel_rfl) (by kernel_rfl) (by kernel_rfl) (fun _ _ _ h => h) (by rfl) (fun w hSw => by (obtain ⟨b0, b1⟩ := hSw); have l0 : _ = some (Value.bool s) := b0.cell (0); have l1 : _ = some (Value.slice a n c) := b0.cell (1); have l2 : _ = some (Value.slice b m d) := b0.cell (2); (clear b0 b1); go_simp) ⟨Y_3, X_3⟩ ?_
  (try simp only [Act.put, List.setIfInBounds_toArray, List.set_cons_zero, List.set_cons_succ])
  refine D_pure (i := 5) (d := some 42) (v := (.pointer (some ⟨w.heap.size + 1, 9, none⟩))) rfl rfl (by kernel_rfl) (by kernel_rfl) (by kernel_rfl) (fun _ _ _ h => h) (by rfl) (fun _ => by go_simp) ?_
  (try simp only [Act.put, List.setIfInBounds_toArray, List.set_cons_zero, List.set_cons_succ])
  refine D_load (i := 6) (d := some 43) (v := (.agg #[Value.bool f.D.s, Value.slice f.D.a f.D.n f.D.c, Value.slice f.D.b f.D.m f.D.d])) [0, 2, 4, 6, 9, 11] rfl rfl (by kernel_rfl) (by kernel_rfl) (by kernel_rfl) (by kernel_rfl) (by kernel_rfl) (by kernel_rfl) (fun _ _ _ h => h) (by rfl) (fun w hSw => by (obtain ⟨b0, b1⟩ := hSw); have l0 : _ = some (Value.bool f.D.s) := b1.cell (9); have l1 : _ = some (Value.slice f.D.a f.D.n f.D.c) := b1.cell (10); have l2 : _ = some (Value.slice f.D.b f.D.m f.D.d) := b1.cell (11); (clear b0 b1); go_simp) ⟨Y_3, X_3⟩ ?_
  (try simp only [Act.put, List.setIfInBounds_toArray, List.set_cons_zero, List.set_cons_succ])
  refine D_pure (i := 8) (d := some 45) (v := (.pointer (some ⟨w.heap.size + 1, 0, none⟩))) rfl rfl (by kernel_rfl) (by kernel_rfl) (by kernel_rfl) (fun _ _ _ h => h) (by rfl) (fun _ => by go_simp) ?_
  (try simp only [Act.put, List.setIfInBounds_toArray, List.set_cons_zero, List.set_cons_succ])
  refine D_load (i := 9) (d := some 46) (v := (.agg #[Value.bool f.A.s, Value.slice f.A.a f.A.n f.A.c, Value.slice f.A.b f.A.m f.A.d])) [0, 2, 4, 6, 9, 11] rfl rfl (by kernel_rfl) (by kernel_rfl) (by kernel_rfl) (by kernel_rfl) (by kernel_rfl) (by kernel_rfl) (fun _ _ _ h => h) (by rfl) (fun w hSw => by (obtain ⟨b0, b1⟩ := hSw); have l0 : _ = some (Value.bool f.A.s) := b1.cell (0); have l1 : _ = some (Value.slice f.A.a f.A.n f.A.c) := b1.cell (1); have l2 : _ = some (Value.slice f.A.b f.A.m f.A.d) := b1.cell (2); (clear b0 b1); go_simp) ⟨Y_3, X_3⟩ ?_
  (try simp only [Act.put, List.setIfInBounds_toArray, List.set_cons_zero, List.set_cons_succ])
  refine D_pure (i := 10) (d := some 47) (v := (.pointer (some ⟨w.heap.size + 1, 3, none⟩))) rfl rfl (by kernel_rfl) (by kernel_rfl) (by kernel_rfl) (fun _ _ _ h => h) (by rfl) (fun _ => by go_simp) ?_
  (try simp only [Act.put, List.setIfInBounds_toArray, List.set_cons_zero, List.set_cons_succ])
  refine D_load (i := 11) (d := some 48) (v := (.agg #[Value.bool f.B.s, Value.slice f.B.a f.B.n f.B.c, Value.slice f.B.b f.B.m f.B.d])) [0, 2, 4, 6, 9, 11] rfl rfl (by kernel_rfl) (by kernel_rfl) (by kernel_rfl) (by kernel_rfl) (by kernel_rfl) (by kernel_rfl) (fun _ _ _ h => h) (by rfl) (fun w hSw => by (obtain ⟨b0, b1⟩ := hSw); have l0 : _ = some (Value.bool f.B.s) := b1.cell (3); have l1 : _ = some (Value.slice f.B.a f.B.n f.B.c) := b1.cell (4); have l2 : _ = some (Value.slice f.B.b f.B.m f.B.d) := b1.cell (5); (clear b0 b1); go_simp) ⟨Y_3, X_3⟩ ?_
  (try simp only [Act.put, List.setIfInBounds_toArray, List.set_cons_zero, List.set_cons_succ])
  refine D_one (i := 3) (by kernel_rfl) rfl (fun Kq hKq => ?_)
  go_simp
  refine ((show Calls _ _ _ _ (RetQ _ za) from hza.out ▸ qmul hq_3 (by omega) hC_3 (by omega))).mono ?_
  rintro e w4 ⟨va, vn, vc, vb, vm, vd, rfl, hO, hO', hD, hB⟩
  have hB_4 : Below vd3.heap.size vd3 w4 := (bl.next hB)
  have Y_4 := Y_3.next hB_4
  have X_4 := X_3.next hB_4
  have R1_4 := R1_3.next hB_4
  have hA_4 := hA_3.below hB_4
  have hBq_4 := hBq_3.below hB_4
  have hC_4 := hC_3.below hB_4
  have hDq_4 := hDq_3.below hB_4
  have hq_4 := hq_3.below hB_4
  have hbel_4 := hbel_3.next hB_4
  have hsz_4 := hB_4.size
  clear Y_3 X_3 R1_3 hA_3 hBq_3 hC_3 hDq_3 hq_3 hbel_3 hB_4
  have Ov_4 := (show Own vd3.heap.size _ _ _ _ _ from hO)
  have ltOv := (show Own vd3.heap.size _ _ _ _ _ from hO).ltB
  have Pv_4 := (show Own vd3.heap.size _ _ _ _ _ from hO')
  have ltPv := (show Own vd3.heap.size _ _ _ _ _ from hO').ltB
  have Dv := hid hD
  clear hO hO' hD
  try clear hB
  (try go_wp2_with fail)
  refine hKq.out _ _ ⟨Y_4, X_4⟩ (fun hHeld => ?_)
  clear hHeld hKq Kq
  (try simp only [Act.put, List.setIfInBounds_toArray, List.set_cons_zero, List.set_cons_succ])
  refine D_one (i := 7) (by kernel_rfl) rfl (fun Kq hKq => ?_)
  go_simp
  refine ((show Calls _ _ _ _ (RetQ _ zb) from hzb.out ▸ qmul hq_4 (by omega) hDq_4 (by omega))).mono ?_
  rintro e w5 ⟨ya, yn, yc, yb, ym, yd, rfl, hO, hO', hD, hB⟩
  have hB_5 : Below w4.heap.size w4 w5 := (bl.next hB)
  have Y_5 := Y_4.next hB_5
  have X_5 := X_4.next hB_5
  have R1_5 := R1_4.next hB_5
  have hA_5 := hA_4.below hB_5
  have hBq_5 := hBq_4.below hB_5
  have hC_5 := hC_4.below hB_5
  have hDq_5 := hDq_4.below hB_5
  have hq_5 := hq_4.below hB_5
  have Ov_5 := Ov_4.below hB_5
  have Pv_5 := Pv_4.below hB_5
  have hbel_5 := hbel_4.next hB_5
  have hsz_5 := hB_5.size
  clear Y_4 X_4 R1_4 hA_4 hBq_4 hC_4 hDq_4 hq_4 Ov_4 Pv_4 hbel_4 hB_5
  have Oy_5 := (show Own w4.heap.size _ _ _ _ _ from hO)
  have ltOy := (show Own w4.heap.size _ _ _ _ _ from hO).ltB
  have Py_5 := (show Own w4.heap.size _ _ _ _ _ from hO')
  have ltPy := (show Own w4.heap.size _ _ _ _ _ from hO').ltB
  have Dy := hid hD
  clear hO hO' hD
  try clear hB
  (try go_wp2_with fail)
  refine hKq.out _ _ ⟨Y_5, X_5⟩ (fun hHeld => ?_)
  clear hHeld hKq Kq
  (try simp only [Act.put, List.setIfInBounds_toArray, List.set_cons_zero, List.set_cons_succ])
  refine D_pure (i := 12) (d := some 49) (v := (.agg #[Value.bool (decide ((za).num < 0)), Value.slice va vn vc, Value.slice vb vm vd, Value.bool (decide ((zb).num < 0)), Value.slice ya yn yc, Value.slice yb ym yd, Value.bool f.A.s, Value.slice f.A.a f.A.n f.A.c, Value.slice f.A.b f.A.m f.A.d, Value.bool f.B.s, Value.slice f.B.a f.B.n f.B.c, Value.slice f.B.b f.B.m f.B.d])) rfl rfl (by kernel_rfl) (by kernel_rfl) (by kernel_rfl) (fun _ _ _ h => h) (by rfl) (fun _ => by go_simp) ?_
  (try simp only [Act.put, List.setIfInBounds_toArray, List.set_cons_zero, List.set_cons_succ])
  refine D_late (i := 13) (by kernel_rfl) rfl (by kernel_rfl) (fun Kq hKq => ?_)
  rw [if_pos (by rfl)]
  refine wp_storeL (p := ⟨⟨decide ((za).num < 0), va, vn, vc, vb, vm, vd⟩, ⟨decide ((zb).num < 0), ya, yn, yc, yb, ym, yd⟩, f.A, f.B⟩) _ _ rfl rfl rfl R1_5 (fun ws hbs hks => ?_)
  refine hKq.out _ _ ?_
  clear hKq Kq
  (try simp only [Act.put, List.setIfInBounds_toArray, List.set_cons_zero, List.set_cons_succ])
  refine D_late (i := 14) (by kernel_rfl) rfl (by kernel_rfl) (fun Kq hKq => ?_)
  go_simp
  refine hKq.out _ _ ?_
  clear hKq Kq
  (try simp only [Act.put, List.setIfInBounds_toArray, List.set_cons_zero, List.set_cons_succ])
  refine D_done (by kernel_rfl) ?_ _
  refine NoPanic.normal ?_
  have hbl := hbel_5.kp hks hbel_5.size (fun j hj (e : j = _) => by omega)
  go_wp2_with fail
  refine bodyPost_ret (res_blk_tmp Try.results79 rfl rfl hbs Try.underlying32 rfl (by kernel_rfl)) rfl ?_
  exact ⟨_, rfl, ⟨.inl (FN.new (Ov_5.kp hks (fun g' e (e2 : g' = _) => by have := (Ov_5.lt' g' e).1; omega)) (Pv_5.kp hks (fun g' e (e2 : g' = _) => by have := (Pv_5.lt' g' e).1; omega)) Dv.out (fun g hg => hNN.out g (by omega)) (fun g hg => hNN.out g (by omega))), .inl (FN.new (Oy_5.kp hks (fun g' e (e2 : g' = _) => by have := (Oy_5.lt' g' e).1; omega)) (Py_5.kp hks (fun g' e (e2 : g' = _) => by have := (Py_5.lt' g' e).1; omega)) Dy.out (fun g hg => hNN.out g (by omega)) (fun g hg => hNN.out g (by omega))), hff.out.A.below hbl, hff.out.B.below hbl⟩, hbl⟩

set_option maxRecDepth 100000 in
set_option maxHeartbeats 6000000 in
theorem left_over_a {w : World} {N : Nat → Prop} {f : LX} {F : LV} {s : Bool} {a b : Option Addr} {n c m d J K : Nat} {q : Rat} (hf : LineOK N w f F) (hF : LS F J) (hq : RdQ K w s a n c b m d q) (hQ : QS q K) (hJ : J ≤ 300000) (hK : K ≤ 300000) (hN : ∀ g, w.heap.size ≤ g → N g) (h0 : F.a ≠ 0) :
    Calls Try.prog 79 #[.int .i8 5, .agg #[.bool s, .slice a n c, .slice b m d], .agg f.arr] w (RetLine N w ⟨q * F.c, q * F.d, F.a, F.b⟩ 0) := by
  have hNN := hid hN
  have hFF := hid hF
  have hff := hid hf
  have hA := hf.A.rdQ hF.a
  have hBq := hf.B.rdQ hF.b
  have hC := hf.C.rdQ hF.c
  have hDq := hf.D.rdQ hF.d
  have hQQ := hid hQ
  have ha0 := hid (sgnQ_ne h0)
  clear h0
  obtain ⟨za, hza0⟩ : ∃ z, q * F.c = z := ⟨_, rfl⟩
  obtain ⟨zb, hzb0⟩ : ∃ z, q * F.d = z := ⟨_, rfl⟩
  have hza := hid hza0
  have hzb := hid hzb0
  rw [hza0, hzb0]
  clear hza0 hzb0
  clear hf hF hN hQ
  have hent := ent3 w #[Value.bool s, Value.slice a n c, Value.slice b m d] f.arr #[Value.bool false, Value.slice none 0 0, Value.slice none 0 0, Value.bool false, Value.slice none 0 0, Value.slice none 0 0, Value.bool false, Value.slice none 0 0, Value.slice none 0 0, Value.bool false, Value.slice none 0 0, Value.slice none 0 0] 28 32 32
  go_enter Try.func79, Try.ntmps79
  go_upto_region 1 with fail
  generalize (((w.alloc (.cells #[Value.bool s, Value.slice a n c, Value.slice b m d] 28)).alloc (.cells f.arr 32)).alloc (.cells #[Value.bool false, Value.slice none 0 0, Value.slice none 0 0, Value.bool false, Value.slice none 0 0, Value.slice none 0 0, Value.bool false, Value.slice none 0 0, Value.slice none 0 0, Value.bool false, Value.slice none 0 0, Value.slice none 0 0] 32)) = W0 at hent ⊢
  obtain ⟨Y_0, X_0, R0_0, hbel_0, hsz_0⟩ := hent
  have hA_0 := hA.below hbel_0
  clear hA
  have hBq_0 := hBq.below hbel_0
  clear hBq
  have hC_0 := hC.below hbel_0
  clear hC
  have hDq_0 := hDq.below hbel_0
  clear hDq
  have hq_0 := hq.below hbel_0
  clear hq
  have R1_0 : Blk W0 (w.heap.size + 1 + 1) LX.o.arr := R0_0
  clear R0_0
  have cX_0_0 : _ = some (Value.bool f.A.s) := X_0.cell 0
  have cX_0_1 : _ = some (Value.slice f.A.a f.A.n f.A.c) := X_0.cell 1
  have cX_0_2 : _ = some (Value.slice f.A.b f.A.m f.A.d) := X_0.cell 2
  have cX_0_3 : _ = some (Value.bool f.B.s) := X_0.cell 3
  have cX_0_4 : _ = some (Value.slice f.B.a f.B.n f.B.c) := X_0.cell 4
  have cX_0_5 : _ = some (Value.slice f.B.b f.B.m f.B.d) := X_0.cell 5
  go_wp2_with fail
  refine (qsign hA_0 (by omega)).mono ?_
  obtain ⟨u, hu, hu0⟩ := ha0.out
  rw [hu]
  rintro e w1 ⟨rfl, hB⟩
  have hB_1 : Below W0.heap.size W0 w1 := (bl.next hB)
  have Y_1 := Y_0.next hB_1
  have X_1 := X_0.next hB_1
  have R1_1 := R1_0.next hB_1
  have hA_1 := hA_0.below hB_1
  have hBq_1 := hBq_0.below hB_1
  have hC_1 := hC_0.below hB_1
  have hDq_1 := hDq_0.below hB_1
  have hq_1 := hq_0.below hB_1
  have hbel_1 := hbel_0.next hB_1
  have hsz_1 := hB_1.size
  clear Y_0 X_0 R1_0 hA_0 hBq_0 hC_0 hDq_0 hq_0 hbel_0 hB_1
  clear cX_0_0 cX_0_1 cX_0_2 cX_0_3 cX_0_4 cX_0_5
  try clear hB
  have du : (u == 0) = false := hu0
  clear hu hu0
  go_wp2_with fail
  have hB : Below w1.heap.size w1 w1.drew := (Below.refl _ _).drew
  have hB_2 : Below w1.heap.size w1 w1.drew := hB
  have Y_2 := Y_1.next hB_2
  have X_2 := X_1.next hB_2
  have R1_2 := R1_1.next hB_2
  have hA_2 := hA_1.below hB_2
  have hBq_2 := hBq_1.below hB_2
  have hC_2 := hC_1.below hB_2
  have hDq_2 := hDq_1.below hB_2
  have hq_2 := hq_1.below hB_2
  have hbel_2 := hbel_1.next hB_2
  have hsz_2 := hB_2.size
  clear Y_1 X_1 R1_1 hA_1 hBq_1 hC_1 hDq_1 hq_1 hbel_1 hB_2
  clear hB
  refine wp_region_noPanic ?_
  refine D_region (S := (fun w' => Blk w' (w.heap.size) #[Value.bool s, Value.slice a n c, Value.slice b m d] ∧ Blk w' (w.heap.size + 1) f.arr)) (T := [13, 14]) (by kernel_rfl) ⟨Y_2, X_2⟩ (fun hHeld => ?_)
  clear hHeld
  generalize w1.drew = vd2 at *
  refine D_load (i := 0) (d := some 37) (v := (.agg #[Value.bool s, Value.slice a n c, Value.slice b m d])) [0, 2, 4, 6, 9, 11] rfl rfl (by kernel_rfl) (by kernel_rfl) (by kernel_rfl) (by kernel_rfl) (by kernel_rfl) (by kernel_rfl) (fun _ _ _ h => h) (by rfl) (fun w hSw => by (obtain ⟨b0, b1⟩ := hSw); have l0 : _ = some (Value.bool s) := b0.cell (0); have l1 : _ = some (Value.slice a n c) := b0.cell (1); have l2 : _ = some (Value.slice b m d) := b0.cell (2); (clear b0 b1); go_simp) ⟨Y_2, X_2⟩ ?_
  (try simp only [Act.put, List.setIfInBounds_toArray, List.set_cons_zero, List.set_cons_succ])
  refine D_pure (i := 1) (d := some 38) (v := (.pointer (some ⟨w.heap.size + 1, 6, none⟩))) rfl rfl (by kernel_rfl) (by kernel_rfl) (by kernel_rfl) (fun _ _ _ h => h) (by rfl) (fun _ => by go_simp) ?_
  (try simp only [Act.put, List.setIfInBounds_toArray, List.set_cons_zero, List.set_cons_succ])
  refine D_load (i := 2) (d := some 39) (v := (.agg #[Value.bool f.C.s, Value.slice f.C.a f.C.n f.C.c, Value.slice f.C.b f.C.m f.C.d])) [0, 2, 4, 6, 9, 11] rfl rfl (by kernel_rfl) (by kernel_rfl) (by kernel_rfl) (by kernel_rfl) (by kernel_rfl) (by kernel_rfl) (fun _ _ _ h => h) (by rfl) (fun w hSw => by (obtain ⟨b0, b1⟩ := hSw); have l0 : _ = some (Value.bool f.C.s) := b1.cell (6); have l1 : _ = some (Value.slice f.C.a f.C.n f.C.c) := b1.cell (7); have l2 : _ = some (Value.slice f.C.b f.C.m f.C.d) := b1.cell (8); (clear b0 b1); go_simp) ⟨Y_2, X_2⟩ ?_
  (try simp only [Act.put, List.setIfInBounds_toArray, List.set_cons_zero, List.set_cons_succ])
  refine D_load (i := 4) (d := some 41) (v := (.agg #[Value.bool s, Value.slice a n c, Value.slice b m d])) [0, 2, 4, 6, 9, 11] rfl rfl (by kernel_rfl) (by kernel_rfl) (by kernel_rfl) (by kernel_rfl) (by kernel_rfl) (by kernel_rfl) (fun _ _ _ h => h) (by rfl) (fun w hSw => by (obtain ⟨b0, b1⟩ := hSw); have l0 : _ = some (Value.bool s) := b0.cell (0); have l1 : _ = some (Value.slice a n c) := b0.cell (1); have l2 : _ = some (Value.slice b m d) := b0.cell (2); (clear b0 b1); go_simp) ⟨Y_2, X_2⟩ ?_
  (try simp only [Act.put, List.setIfInBounds_toArray, List.set_cons_zero, List.set_cons_succ])
  refine D_pure (i := 5) (d := some 42) (v := (.pointer (some ⟨w.heap.size + 1, 9, none⟩))) rfl rfl (by kernel_rfl) (by kernel_rfl) (by kernel_rfl) (fun _ _ _ h => h) (by rfl) (fun _ => by go_simp) ?_
  (try simp only [Act.put, List.setIfInBounds_toArray, List.set_cons_zero, List.set_cons_succ])
  refine D_load (i := 6) (d := some 43) (v := (.agg #[Value.bool f.D.s, Value.slice f.D.a f.D.n f.D.c, Value.slice f.D.b f.D.m f.D.d])) [0, 2, 4, 6, 9, 11] rfl rfl (by kernel_rfl) (by kernel_rfl) (by kernel_rfl) (by kernel_rfl) (by kernel_rfl) (by kernel_rfl) (fun _ _ _ h => h) (by rfl) (fun w hSw => by (obtain ⟨b0, b1⟩ := hSw); have l0 : _ = some (Value.bool f.D.s) := b1.cell (9); have l1 : _ = some (Value.slice f.D.a f.D.n f.D.c) := b1.cell (10); have l2 : _ = some (Value.slice f.D.b f.D.m f.D.d) := b1.cell (11); (clear b0 b1); go_simp) ⟨Y_2, X_2⟩ ?_
  (try simp only [Act.put, List.setIfInBounds_toArray, List.set_cons_zero, List.set_cons_succ])
  refine D_pure (i := 8) (d := some 45) (v := (.pointer (some ⟨w.heap.size + 1, 0, none⟩))) rfl rfl (by kernel_rfl) (by kernel_rfl) (by kernel_rfl) (fun _ _ _ h => h) (by rfl) (fun _ => by go_simp) ?_
  (try simp only [Act.put, List.setIfInBounds_toArray, List.set_cons_zero, List.set_cons_succ])
  refine D_load (i := 9) (d := some 46) (v := (.agg #[Value.bool f.A.s, Value.slice f.A.a f.A.n f.A.c, Value.slice f.A.b f.A.m f.A.d])) [0, 2, 4, 6, 9, 11] rfl rfl (by kernel_rfl) (by kernel_rfl) (by kernel_rfl) (by kernel_rfl) (by kernel_rfl) (by kernel_rfl) (fun _ _ _ h => h) (by rfl) (fun w hSw => by (obtain ⟨b0, b1⟩ := hSw); have l0 : _ = some (Value.bool f.A.s) := b1.cell (0); have l1 : _ = some (Value.slice f.A.a f.A.n f.A.c) := b1.cell (1); have l2 : _ = some (Value.slice f.A.b f.A.m f.A.d) := b1.cell (2); (clear b0 b1); go_simp) ⟨Y_2, X_2⟩ ?_
  (try simp only [Act.put, List.setIfInBounds_toArray, List.set_cons_zero, List.set_cons_succ])
  refine D_pure (i := 10) (d := some 47) (v := (.pointer (some ⟨w.heap.size + 1, 3, none⟩))) rfl rfl (by kernel_rfl) (by kernel_rfl) (by kernel_rfl) (fun _ _ _ h => h) (by rfl) (fun _ => by go_simp) ?_
  (try simp only [Act.put, List.setIfInBounds_toArray, List.set_cons_zero, List.set_cons_succ])
  refine D_load (i := 11) (d := some 48) (v := (.agg #[Value.bool f.B.s, Value.slice f.B.a f.B.n f.B.c, Value.slice f.B.b f.B.m f.B.d])) [0, 2, 4, 6, 9, 11] rfl rfl (by kernel_rfl) (by kernel_rfl) (by kernel_rfl) (by kernel_rfl) (by kernel_rfl) (by kernel_rfl) (fun _ _ _ h => h) (by rfl) (fun w hSw => by (obtain ⟨b0, b1⟩ := hSw); have l0 : _ = some (Value.bool f.B.s) := b1.cell (3); have l1 : _ = some (Value.slice f.B.a f.B.n f.B.c) := b1.cell (4); have l2 : _ = some (Value.slice f.B.b f.B.m f.B.d) := b1.cell (5); (clear b0 b1); go_simp) ⟨Y_2, X_2⟩ ?_
  (try simp only [Act.put, List.setIfInBounds_toArray, List.set_cons_zero, List.set_cons_succ])
  refine D_one (i := 3) (by kernel_rfl) rfl (fun Kq hKq => ?_)
  go_simp
  refine ((show Calls _ _ _ _ (RetQ _ za) from hza.out ▸ qmul hq_2 (by omega) hC_2 (by omega))).mono ?_
  rintro e w3 ⟨va, vn, vc, vb, vm, vd, rfl, hO, hO', hD, hB⟩
  have hB_3 : Below vd2.heap.size vd2 w3 := (bl.next hB)
  have Y_3 := Y_2.next hB_3
  have X_3 := X_2.next hB_3
  have R1_3 := R1_2.next hB_3
  have hA_3 := hA_2.below hB_3
  have hBq_3 := hBq_2.below hB_3
  have hC_3 := hC_2.below hB_3
  have hDq_3 := hDq_2.below hB_3
  have hq_3 := hq_2.below hB_3
  have hbel_3 := hbel_2.next hB_3
  have hsz_3 := hB_3.size
  clear Y_2 X_2 R1_2 hA_2 hBq_2 hC_2 hDq_2 hq_2 hbel_2 hB_3
  have Ov_3 := (show Own vd2.heap.size _ _ _ _ _ from hO)
  have ltOv := (show Own vd2.heap.size _ _ _ _ _ from hO).ltB
  have Pv_3 := (show Own vd2.heap.size _ _ _ _ _ from hO')
  have ltPv := (show Own vd2.heap.size _ _ _ _ _ from hO').ltB
  have Dv := hid hD
  clear hO hO' hD
  try clear hB
  (try go_wp2_with fail)
  refine hKq.out _ _ ⟨Y_3, X_3⟩ (fun hHeld => ?_)
  clear hHeld hKq Kq
  (try simp only [Act.put, List.setIfInBounds_toArray, List.set_cons_zero, List.set_cons_succ])
  refine D_one (i := 7) (by kernel_rfl) rfl (fun Kq hKq => ?_)
  go_simp
  refine ((show Calls _ _ _ _ (RetQ _ zb) from hzb.out ▸ qmul hq_3 (by omega) hDq_3 (by omega))).mono ?_
  rintro e w4 ⟨ya, yn, yc, yb, ym, yd, rfl, hO, hO', hD, hB⟩
  have hB_4 : Below w3.heap.size w3 w4 := (bl.next hB)
  have Y_4 := Y_3.next hB_4
  have X_4 := X_3.next hB_4
  have R1_4 := R1_3.next hB_4
  have hA_4 := hA_3.below hB_4
  have hBq_4 := hBq_3.below hB_4
  have hC_4 := hC_3.below hB_4
  have hDq_4 := hDq_3.below hB_4
  have hq_4 := hq_3.below hB_4
  have Ov_4 := Ov_3.below hB_4
  have Pv_4 := Pv_3.below hB_4
  have hbel_4 := hbel_3.next hB_4
  have hsz_4 := hB_4.size
  clear Y_3 X_3 R1_3 hA_3 hBq_3 hC_3 hDq_3 hq_3 Ov_3 Pv_3 hbel_3 hB_4
  have Oy_4 := (show Own w3.heap.size _ _ _ _ _ from hO)
  have ltOy := (show Own w3.heap.size _ _ _ _ _ from hO).ltB
  have Py_4 := (show Own w3.heap.size _ _ _ _ _ from hO')
  have ltPy := (show Own w3.heap.size _ _ _ _ _ from hO').ltB
  have Dy := hid hD
  clear hO hO' hD
  try clear hB
  (try go_wp2_with fail)
  refine hKq.out _ _ ⟨Y_4, X_4⟩ (fun hHeld => ?_)
  clear hHeld hKq Kq
  (try simp only [Act.put, List.setIfInBounds_toArray, List.set_cons_zero, List.set_cons_succ])
  refine D_pure (i := 12) (d := some 49) (v := (.agg #[Value.bool (decide ((za).num < 0)), Value.slice va vn vc, Value.slice vb vm vd, Value.bool (decide ((zb).num < 0)), Value.slice ya yn yc, Value.slice yb ym yd, Value.bool f.A.s, Value.slice f.A.a f.A.n f.A.c, Value.slice f.A.b f.A.m f.A.d, Value.bool f.B.s, Value.slice f.B.a f.B.n f.B.c, Value.slice f.B.b f.B.m f.B.d])) rfl rfl (by kernel_rfl) (by kernel_rfl) (by kernel_rfl) (fun _ _ _ h => h) (by rfl) (fun _ => by go_simp) ?_
  (try simp only [Act.put, List.setIfInBounds_toArray, List.set_cons_zero, List.set_cons_succ])
  refine D_late (i := 13) (by kernel_rfl) rfl (by kernel_rfl) (fun Kq hKq => ?_)
  rw [if_pos (by rfl)]
  refine wp_storeL (p := ⟨⟨decide ((za).num < 0), va, vn, vc, vb, vm, vd⟩, ⟨decide ((zb).num < 0), ya, yn, yc, yb, ym, yd⟩, f.A, f.B⟩) _ _ rfl rfl rfl R1_4 (fun ws hbs hks => ?_)
  refine hKq.out _ _ ?_
  clear hKq Kq
  (try simp only [Act.put, List.setIfInBounds_toArray, List.set_cons_zero, List.set_cons_succ])
  refine D_late (i := 14) (by kernel_rfl) rfl (by kernel_rfl) (fun Kq hKq => ?_)
  go_simp
  refine hKq.out _ _ ?_
  clear hKq Kq
  (try simp only [Act.put, List.setIfInBounds_toArray, List.set_cons_zero, List.set_cons_succ])
  refine D_done (by kernel_rfl) ?_ _
  refine NoPanic.normal ?_
  have hbl := hbel_4.kp hks hbel_4.size (fun j hj (e : j = _) => by omega)
  go_wp2_with fail
  refine bodyPost_ret (res_blk_tmp Try.results79 rfl rfl hbs Try.underlying32 rfl (by kernel_rfl)) rfl ?_
  exact ⟨_, rfl, ⟨.inl (FN.new (Ov_4.kp hks (fun g' e (e2 : g' = _) => by have := (Ov_4.lt' g' e).1; omega)) (Pv_4.kp hks (fun g' e (e2 : g' = _) => by have := (Pv_4.lt' g' e).1; omega)) Dv.out (fun g hg => hNN.out g (by omega)) (fun g hg => hNN.out g (by omega))), .inl (FN.new (Oy_4.kp hks (fun g' e (e2 : g' = _) => by have := (Oy_4.lt' g' e).1; omega)) (Py_4.kp hks (fun g' e (e2 : g' = _) => by have := (Py_4.lt' g' e).1; omega)) Dy.out (fun g hg => hNN.out g (by omega)) (fun g hg => hNN.out g (by omega))), hff.out.A.below hbl, hff.out.B.below hbl⟩, hbl⟩

end Go.Proofs.Ytennilapmcgnbaa
