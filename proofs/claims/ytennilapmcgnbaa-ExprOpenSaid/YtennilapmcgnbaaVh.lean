/- WALKS OF EXPRESSIONS, 4: a part turned; two parts joined. -/
import Derived.Test.YtennilapmcgnbaaVg
import Derived.Deep.Cut
import Derived.Deep.CutRange
import Derived.Deep.CutBlock
import Derived.Deep.DeepCutAuto
namespace Go.Proofs.Ytennilapmcgnbaa
set_option linter.unusedVariables false
set_option linter.unusedSimpArgs false
open Go.ChangeShapes Go.WideShapes Go.ChangeAt Go.RowKit Go.NatP

/-- a part turned -/
def oppV (P : PV) : PV := ⟨6, dpB (!(P.kind == 1 || P.kind == 6)) P.deep + 1, -P.v, P.bad, P.opn, ⟨-P.L.a, -P.L.b, P.L.c, P.L.d⟩⟩
structure PS (P : PV) (J : Nat) : Prop where
  v : QS P.v J
  L : LS P.L J
theorem dpB_le (b : Bool) {d : Int} (h0 : 0 ≤ d) : d ≤ dpB b d ∧ dpB b d ≤ d + 1 := by unfold dpB; split <;> omega
section
variable {W : World} {g : Nat} {p : PX}
theorem part_put1 (h : Blk W g p.arr) (d : Int) : Blk (W.setCell ⟨g, 1, none⟩ (.int .i64 d)) g ({p with deep := d} : PX).arr := h.setCell (i := 1) (v := .int .i64 d) (by show 1 < 19; decide)
theorem part_put0 (h : Blk W g p.arr) (k : Int) : Blk (W.setCell ⟨g, 0, none⟩ (.int .i8 k)) g ({p with kind := k} : PX).arr := h.setCell (i := 0) (v := .int .i8 k) (by show 0 < 19; decide)
theorem part_put5 (h : Blk W g p.arr) (b : Bool) : Blk (W.setCell ⟨g, 5, none⟩ (.bool b)) g ({p with bad := b} : PX).arr := h.setCell (i := 5) (v := .bool b) (by show 5 < 19; decide)
theorem part_putv (h : Blk W g p.arr) (A : FX) : Blk (((W.setCell ⟨g, 2, none⟩ (.bool A.s)).setCell ⟨g, 3, none⟩ (.slice A.a A.n A.c)).setCell ⟨g, 4, none⟩ (.slice A.b A.m A.d)) g ({p with v := A} : PX).arr := by
  have h0 := h.setCell (i := 2) (v := .bool A.s) (by show 2 < 19; decide)
  have h1 := h0.setCell (i := 3) (v := .slice A.a A.n A.c) (by show 3 < 19; decide)
  have h2 := h1.setCell (i := 4) (v := .slice A.b A.m A.d) (by show 4 < 19; decide)
  exact h2
theorem part_putab (h : Blk W g p.arr) (A B : FX) : Blk ((((((W.setCell ⟨g, 7, none⟩ (.bool A.s)).setCell ⟨g, 8, none⟩ (.slice A.a A.n A.c)).setCell ⟨g, 9, none⟩ (.slice A.b A.m A.d)).setCell ⟨g, 10, none⟩ (.bool B.s)).setCell ⟨g, 11, none⟩ (.slice B.a B.n B.c)).setCell ⟨g, 12, none⟩ (.slice B.b B.m B.d)) g ({p with A := A, B := B} : PX).arr := by
  have h0 := h.setCell (i := 7) (v := .bool A.s) (by show 7 < 19; decide)
  have h1 := h0.setCell (i := 8) (v := .slice A.a A.n A.c) (by show 8 < 19; decide)
  have h2 := h1.setCell (i := 9) (v := .slice A.b A.m A.d) (by show 9 < 19; decide)
  have h3 := h2.setCell (i := 10) (v := .bool B.s) (by show 10 < 19; decide)
  have h4 := h3.setCell (i := 11) (v := .slice B.a B.n B.c) (by show 11 < 19; decide)
  have h5 := h4.setCell (i := 12) (v := .slice B.b B.m B.d) (by show 12 < 19; decide)
  exact h5
theorem kp_put1 {q : Nat → Prop} {a w : World} (h : Kp q a w) {g : Nat} (hg : q g) (i : Nat) (v : Value) : Kp q a (w.setCell ⟨g, i, none⟩ v) := h.setCell (ad := ⟨g, i, none⟩) hg v
theorem kp_put3v {q : Nat → Prop} {a w : World} (h : Kp q a w) {g : Nat} (hg : q g) (i j k : Nat) (v0 v1 v2 : Value) : Kp q a (((w.setCell ⟨g, i, none⟩ v0).setCell ⟨g, j, none⟩ v1).setCell ⟨g, k, none⟩ v2) := ((h.setCell (ad := ⟨g, i, none⟩) hg v0).setCell (ad := ⟨g, j, none⟩) hg v1).setCell (ad := ⟨g, k, none⟩) hg v2
end

set_option maxRecDepth 100000 in
set_option maxHeartbeats 6000000 in
theorem opp_any {w : World} {N : Nat → Prop} {p : PX} {P : PV} {J : Nat} (hp : PartOK N w p P) (hS : PS P J) (hJ : J ≤ 300000) (h0 : 0 ≤ P.deep) (h1 : P.deep ≤ 500000) (hN : ∀ g, w.heap.size ≤ g → N g) :
    Calls Try.prog 66 #[.agg p.arr] w (RetPart N w (oppV P)) := by
  have hNN := hid hN
  have hPP := hid hp
  have hSS := hid hS
  have hv := hp.v.rdQ hS.v
  have hA := hp.L.A.rdQ hS.L.a
  have hBq := hp.L.B.rdQ hS.L.b
  have hp0 : 0 ≤ p.deep := by rw [hp.deep]; exact h0
  have hp1 : p.deep ≤ 500000 := by rw [hp.deep]; exact h1
  obtain ⟨zv, hzv0⟩ : ∃ z, -P.v = z := ⟨_, rfl⟩
  obtain ⟨za, hza0⟩ : ∃ z, -P.L.a = z := ⟨_, rfl⟩
  obtain ⟨zb, hzb0⟩ : ∃ z, -P.L.b = z := ⟨_, rfl⟩
  obtain ⟨sg, hsg0⟩ : ∃ z, (p.kind == 1 || p.kind == 6) = z := ⟨_, rfl⟩
  obtain ⟨dp, hdp0⟩ : ∃ z, dpB (!sg) p.deep = z := ⟨_, rfl⟩
  have hdl := dpB_le (!sg) hp0
  rw [hdp0] at hdl
  have hdl1 := hdl.1
  have hdl2 := hdl.2
  clear hdl
  have hwr : IntKind.i64.wrap (dp + 1) = dp + 1 := by rw [IntKind.wrap_i64]; omega
  have hopp := hid (show oppV P = ⟨6, dp + 1, zv, P.bad, P.opn, ⟨za, zb, P.L.c, P.L.d⟩⟩ by rw [← hzv0, ← hza0, ← hzb0, ← hdp0, ← hsg0, hp.kind, hp.deep]; rfl)
  have Hs := hid (fun w => (show Calls Try.prog 76 #[.agg p.arr] w (RetBl w sg) from hsg0 ▸ single_any p))
  have Hw := hid (fun w => (show Calls Try.prog 75 #[.agg p.arr, .bool (!sg)] w (RetIb w dp) from hdp0 ▸ within_any p (!sg) hp0 (by omega)))
  have hzv := hid hzv0
  have hza := hid hza0
  have hzb := hid hzb0
  clear hp hS hN hzv0 hza0 hzb0 hsg0 hdp0 h0 h1
  have hent := ent2 w p.arr #[Value.int .i8 0, Value.int .i64 0, Value.bool false, Value.slice none 0 0, Value.slice none 0 0, Value.bool false, Value.bool false, Value.bool false, Value.slice none 0 0, Value.slice none 0 0, Value.bool false, Value.slice none 0 0, Value.slice none 0 0, Value.bool false, Value.slice none 0 0, Value.slice none 0 0, Value.bool false, Value.slice none 0 0, Value.slice none 0 0] 67 67
  go_enter Try.func66, Try.ntmps66
  go_wp2_with fail
  generalize ((w.alloc (.cells p.arr 67)).alloc (.cells #[Value.int .i8 0, Value.int .i64 0, Value.bool false, Value.slice none 0 0, Value.slice none 0 0, Value.bool false, Value.bool false, Value.bool false, Value.slice none 0 0, Value.slice none 0 0, Value.bool false, Value.slice none 0 0, Value.slice none 0 0, Value.bool false, Value.slice none 0 0, Value.slice none 0 0, Value.bool false, Value.slice none 0 0, Value.slice none 0 0] 67)) = W0 at hent ⊢
  obtain ⟨X_0, R0_0, hbel_0, hsz_0⟩ := hent
  have hv_0 := hv.below hbel_0
  clear hv
  have hA_0 := hA.below hbel_0
  clear hA
  have hBq_0 := hBq.below hbel_0
  clear hBq
  have R1_0 : Blk W0 (w.heap.size + 1) PX.o.arr := R0_0
  clear R0_0
  go_wp2_with fail
  go_cut [] (fun wx => Blk wx (w.heap.size) ({p with deep := dp + 1} : PX).arr ∧ Kp (fun j => j = w.heap.size) W0 wx)
  case first =>
    have hbAcc_0 : Below W0.heap.size W0 W0 := Below.refl _ _
    go_wp2_with fail
    have hB : Below W0.heap.size W0 W0.drew := (Below.refl _ _).drew
    have hB_1 : Below W0.heap.size W0 W0.drew := hB
    have X_1 := X_0.next hB_1
    have R1_1 := R1_0.next hB_1
    have hv_1 := hv_0.below hB_1
    have hA_1 := hA_0.below hB_1
    have hBq_1 := hBq_0.below hB_1
    have hbAcc_1 := hbAcc_0.next hB_1
    have hbel_1 := hbel_0.next hB_1
    have hsz_1 := hB_1.size
    clear X_0 R1_0 hv_0 hA_0 hBq_0 hbAcc_0 hbel_0 hB_1
    clear hB
    refine wp_region_noPanic ?_
    refine D_region (S := (fun w' => Blk w' (w.heap.size) p.arr)) (T := [7]) (by kernel_rfl) X_1 (fun hHeld => ?_)
    clear hHeld
    generalize W0.drew = vd1 at *
    refine D_load (i := 0) (d := some 3) (v := (.agg p.arr)) [0, 1] rfl rfl (by kernel_rfl) (by kernel_rfl) (by kernel_rfl) (by kernel_rfl) (by kernel_rfl) (by kernel_rfl) (fun _ _ _ h => h) (by rfl) (fun w hSw => by (have b0 := hSw); exact exec_loadB 67 _ rfl rfl b0 Try.underlying67 rfl (by kernel_rfl)) X_1 ?_
    (try simp only [Act.put, List.setIfInBounds_toArray, List.set_cons_zero, List.set_cons_succ])
    refine D_load (i := 1) (d := some 4) (v := (.agg p.arr)) [0, 1] rfl rfl (by kernel_rfl) (by kernel_rfl) (by kernel_rfl) (by kernel_rfl) (by kernel_rfl) (by kernel_rfl) (fun _ _ _ h => h) (by rfl) (fun w hSw => by (have b0 := hSw); exact exec_loadB 67 _ rfl rfl b0 Try.underlying67 rfl (by kernel_rfl)) X_1 ?_
    (try simp only [Act.put, List.setIfInBounds_toArray, List.set_cons_zero, List.set_cons_succ])
    refine D_one (i := 2) (by kernel_rfl) rfl (fun Kq hKq => ?_)
    go_simp
    refine (Hs.out _).mono ?_
    rintro e w2 ⟨rfl, hB⟩
    have hB_2 : Below vd1.heap.size vd1 w2 := (bl.next hB)
    have X_2 := X_1.next hB_2
    have R1_2 := R1_1.next hB_2
    have hv_2 := hv_1.below hB_2
    have hA_2 := hA_1.below hB_2
    have hBq_2 := hBq_1.below hB_2
    have hbAcc_2 := hbAcc_1.next hB_2
    have hbel_2 := hbel_1.next hB_2
    have hsz_2 := hB_2.size
    clear X_1 R1_1 hv_1 hA_1 hBq_1 hbAcc_1 hbel_1 hB_2
    try clear hB
    (try go_wp2_with fail)
    refine hKq.out _ _ X_2 (fun hHeld => ?_)
    clear hHeld hKq Kq
    (try simp only [Act.put, List.setIfInBounds_toArray, List.set_cons_zero, List.set_cons_succ])
    refine D_pure (i := 3) (d := some 6) (v := (.bool (!sg))) rfl rfl (by kernel_rfl) (by kernel_rfl) (by kernel_rfl) (fun _ _ _ h => h) (by rfl) (fun _ => by go_simp) ?_
    (try simp only [Act.put, List.setIfInBounds_toArray, List.set_cons_zero, List.set_cons_succ])
    refine D_one (i := 4) (by kernel_rfl) rfl (fun Kq hKq => ?_)
    go_simp
    refine (Hw.out _).mono ?_
    rintro e w3 ⟨rfl, hB⟩
    have hB_3 : Below w2.heap.size w2 w3 := (bl.next hB)
    have X_3 := X_2.next hB_3
    have R1_3 := R1_2.next hB_3
    have hv_3 := hv_2.below hB_3
    have hA_3 := hA_2.below hB_3
    have hBq_3 := hBq_2.below hB_3
    have hbAcc_3 := hbAcc_2.next hB_3
    have hbel_3 := hbel_2.next hB_3
    have hsz_3 := hB_3.size
    clear X_2 R1_2 hv_2 hA_2 hBq_2 hbAcc_2 hbel_2 hB_3
    try clear hB
    (try go_wp2_with fail)
    refine hKq.out _ _ X_3 (fun hHeld => ?_)
    clear hHeld hKq Kq
    (try simp only [Act.put, List.setIfInBounds_toArray, List.set_cons_zero, List.set_cons_succ])
    refine D_pure (i := 5) (d := some 8) (v := (.int .i64 (dp + 1))) rfl rfl (by kernel_rfl) (by kernel_rfl) (by kernel_rfl) (fun _ _ _ h => h) (by rfl) (fun _ => by go_simp) ?_
    (try simp only [Act.put, List.setIfInBounds_toArray, List.set_cons_zero, List.set_cons_succ])
    refine D_pure (i := 6) (d := some 9) (v := (.pointer (some ⟨w.heap.size, 1, none⟩))) rfl rfl (by kernel_rfl) (by kernel_rfl) (by kernel_rfl) (fun _ _ _ h => h) (by rfl) (fun _ => by go_simp) ?_
    (try simp only [Act.put, List.setIfInBounds_toArray, List.set_cons_zero, List.set_cons_succ])
    have cX_3_1 : _ = some (Value.int .i64 p.deep) := X_3.cell 1
    have fX_3_1 := X_3.free 1
    refine D_late (i := 7) (by kernel_rfl) rfl (by kernel_rfl) (fun Kq hKq => ?_)
    go_simp
    refine hKq.out _ _ ?_
    clear hKq Kq
    (try simp only [Act.put, List.setIfInBounds_toArray, List.set_cons_zero, List.set_cons_succ])
    refine D_done (by kernel_rfl) ?_ _
    refine NoPanic.normal ?_
    go_wp2_with fail
    go_meet
    exact ⟨part_put1 X_3 (dp + 1), kp_put1 (q := fun j => j = w.heap.size) (kp_of_below hbAcc_3) rfl _ _⟩
  case rest =>
    obtain ⟨hbk, hks0⟩ := hcut
    have X_1 := hbk
    have R1_1 := R1_0.kp hks0 (show ¬ (w.heap.size + 1 = w.heap.size) by omega)
    have hbel_1 := hbel_0.kp hks0 hbel_0.size (fun j hj (e : j = w.heap.size) => by omega)
    have hsz_1 := hks0.size
    clear hbk hks0 X_0 R1_0 hbel_0 hv_0 hA_0 hBq_0
    obtain ⟨wv, hwc⟩ : ∃ y : World, y = wc := ⟨_, rfl⟩
    subst hwc
    have cX_1_0 : _ = some (Value.int .i8 p.kind) := X_1.cell 0
    have fX_1_0 := X_1.free 0
    skip
    have cX_1_2 : _ = some (Value.bool p.v.s) := X_1.cell 2
    have fX_1_2 := X_1.free 2
    have cX_1_3 : _ = some (Value.slice p.v.a p.v.n p.v.c) := X_1.cell 3
    have fX_1_3 := X_1.free 3
    have cX_1_4 : _ = some (Value.slice p.v.b p.v.m p.v.d) := X_1.cell 4
    have fX_1_4 := X_1.free 4
    have XX := part_put0 X_1 6
    have y2 : ((wv.setCell ⟨w.heap.size, 0, none⟩ (Value.int .i8 6))).cell? ⟨w.heap.size, 2, none⟩ = some (Value.bool p.v.s) := XX.cell 2
    have y3 : ((wv.setCell ⟨w.heap.size, 0, none⟩ (Value.int .i8 6))).cell? ⟨w.heap.size, 3, none⟩ = some (Value.slice p.v.a p.v.n p.v.c) := XX.cell 3
    have y4 : ((wv.setCell ⟨w.heap.size, 0, none⟩ (Value.int .i8 6))).cell? ⟨w.heap.size, 4, none⟩ = some (Value.slice p.v.b p.v.m p.v.d) := XX.cell 4
    go_wp2_with fail
    clear XX y2 y3 y4 cX_1_0 fX_1_0 cX_1_2 fX_1_2 cX_1_3 fX_1_3 cX_1_4 fX_1_4
    have hkp := ((Kp.refl (fun j => j = w.heap.size) wv).setCell (ad := ⟨w.heap.size, 0, none⟩) rfl (Value.int .i8 6))
    have X_2 := part_put0 X_1 6
    have R1_2 := R1_1.kp hkp (show ¬ (w.heap.size + 1 = w.heap.size) by omega)
    have hbel_2 := hbel_1.kp hkp hbel_1.size (fun j hj (e : j = w.heap.size) => by omega)
    have hsz_2 := hkp.size
    clear hkp hbel_1 X_1 R1_1
    generalize (wv.setCell ⟨w.heap.size, 0, none⟩ (Value.int .i8 6)) = vw2 at *
    refine (show Calls _ _ _ _ (RetQ _ zv) from hzv.out ▸ qneg ((hPP.out.v.below hbel_2).rdQ hSS.out.v) (by omega)).mono ?_
    rintro e w3 ⟨ua, un, uc, ub, um, ud, rfl, hO, hO', hD, hB⟩
    have hB_3 : Below vw2.heap.size vw2 w3 := (bl.next hB)
    have X_3 := X_2.next hB_3
    have R1_3 := R1_2.next hB_3
    have hbel_3 := hbel_2.next hB_3
    have hsz_3 := hB_3.size
    clear X_2 R1_2 hbel_2 hB_3
    have Ou_3 := (show Own vw2.heap.size _ _ _ _ _ from hO)
    have ltOu := (show Own vw2.heap.size _ _ _ _ _ from hO).ltB
    have Pu_3 := (show Own vw2.heap.size _ _ _ _ _ from hO')
    have ltPu := (show Own vw2.heap.size _ _ _ _ _ from hO').ltB
    have Du := hid hD
    clear hO hO' hD
    try clear hB
    have cX_3_2 : _ = some (Value.bool p.v.s) := X_3.cell 2
    have fX_3_2 := X_3.free 2
    have cX_3_3 : _ = some (Value.slice p.v.a p.v.n p.v.c) := X_3.cell 3
    have fX_3_3 := X_3.free 3
    have cX_3_4 : _ = some (Value.slice p.v.b p.v.m p.v.d) := X_3.cell 4
    have fX_3_4 := X_3.free 4
    go_wp2_with fail
    have hkp := ((((Kp.refl (fun j => j = w.heap.size) w3).setCell (ad := ⟨w.heap.size, 2, none⟩) rfl (Value.bool (decide (zv.num < 0)))).setCell (ad := ⟨w.heap.size, 3, none⟩) rfl (Value.slice ua un uc)).setCell (ad := ⟨w.heap.size, 4, none⟩) rfl (Value.slice ub um ud))
    have X_4 := part_putv X_3 (⟨decide ((zv).num < 0), ua, un, uc, ub, um, ud⟩ : FX)
    have R1_4 := R1_3.kp hkp (show ¬ (w.heap.size + 1 = w.heap.size) by omega)
    have Ou_4 := Ou_3.kp hkp (fun g' e (e2 : g' = w.heap.size) => by have := (Ou_3.lt' g' e).1; omega)
    have Pu_4 := Pu_3.kp hkp (fun g' e (e2 : g' = w.heap.size) => by have := (Pu_3.lt' g' e).1; omega)
    have hbel_4 := hbel_3.kp hkp hbel_3.size (fun j hj (e : j = w.heap.size) => by omega)
    have hsz_4 := hkp.size
    clear hkp hbel_3 X_3 R1_3 Ou_3 Pu_3
    generalize (((w3.setCell ⟨w.heap.size, 2, none⟩ (Value.bool (decide (zv.num < 0)))).setCell ⟨w.heap.size, 3, none⟩ (Value.slice ua un uc)).setCell ⟨w.heap.size, 4, none⟩ (Value.slice ub um ud)) = vw4 at *
    go_cut [] (fun wx => ∃ (aa : Option Addr) (an ac : Nat) (ab : Option Addr) (am ad : Nat) (ba : Option Addr) (bn bc : Nat) (bb : Option Addr) (bm bd : Nat), Blk wx (w.heap.size) ({p with deep := dp + 1, kind := 6, v := (⟨decide ((zv).num < 0), ua, un, uc, ub, um, ud⟩ : FX), A := (⟨decide (za.num < 0), aa, an, ac, ab, am, ad⟩ : FX), B := (⟨decide (zb.num < 0), ba, bn, bc, bb, bm, bd⟩ : FX)} : PX).arr ∧ FN (fun g => N g ∧ g ≠ w.heap.size + 1) wx (⟨decide (za.num < 0), aa, an, ac, ab, am, ad⟩ : FX) za ∧ FN (fun g => N g ∧ g ≠ w.heap.size + 1) wx (⟨decide (zb.num < 0), ba, bn, bc, bb, bm, bd⟩ : FX) zb ∧ Kp (fun j => j = w.heap.size) vw4 wx)
    case first =>
      have hbAcc_4 : Below vw4.heap.size vw4 vw4 := Below.refl _ _
      go_wp2_with fail
      have hB : Below vw4.heap.size vw4 vw4.drew := (Below.refl _ _).drew
      have hB_5 : Below vw4.heap.size vw4 vw4.drew := hB
      have X_5 := X_4.next hB_5
      have R1_5 := R1_4.next hB_5
      have Ou_5 := Ou_4.below hB_5
      have Pu_5 := Pu_4.below hB_5
      have hbAcc_5 := hbAcc_4.next hB_5
      have hbel_5 := hbel_4.next hB_5
      have hsz_5 := hB_5.size
      clear X_4 R1_4 Ou_4 Pu_4 hbAcc_4 hbel_4 hB_5
      clear hB
      refine wp_region_noPanic ?_
      refine D_region (S := (fun w' => Blk w' (w.heap.size) ({p with deep := dp + 1, kind := 6, v := (⟨decide ((zv).num < 0), ua, un, uc, ub, um, ud⟩ : FX)} : PX).arr)) (T := [10, 13]) (by kernel_rfl) X_5 (fun hHeld => ?_)
      clear hHeld
      generalize vw4.drew = vd5 at *
      refine D_pure (i := 0) (d := some 15) (v := (.pointer (some ⟨w.heap.size, 7, none⟩))) rfl rfl (by kernel_rfl) (by kernel_rfl) (by kernel_rfl) (fun _ _ _ h => h) (by rfl) (fun _ => by go_simp) ?_
      (try simp only [Act.put, List.setIfInBounds_toArray, List.set_cons_zero, List.set_cons_succ])
      refine D_pure (i := 1) (d := some 16) (v := (.pointer (some ⟨w.heap.size, 7, none⟩))) rfl rfl (by kernel_rfl) (by kernel_rfl) (by kernel_rfl) (fun _ _ _ h => h) (by rfl) (fun _ => by go_simp) ?_
      (try simp only [Act.put, List.setIfInBounds_toArray, List.set_cons_zero, List.set_cons_succ])
      refine D_load (i := 2) (d := some 17) (v := (.agg #[Value.bool p.A.s, Value.slice p.A.a p.A.n p.A.c, Value.slice p.A.b p.A.m p.A.d])) [2, 6] rfl rfl (by kernel_rfl) (by kernel_rfl) (by kernel_rfl) (by kernel_rfl) (by kernel_rfl) (by kernel_rfl) (fun _ _ _ h => h) (by rfl) (fun w hSw => by (have b0 := hSw); have l0 : _ = some (Value.bool p.A.s) := b0.cell (7); have l1 : _ = some (Value.slice p.A.a p.A.n p.A.c) := b0.cell (8); have l2 : _ = some (Value.slice p.A.b p.A.m p.A.d) := b0.cell (9); (clear b0); go_simp) X_5 ?_
      (try simp only [Act.put, List.setIfInBounds_toArray, List.set_cons_zero, List.set_cons_succ])
      refine D_pure (i := 4) (d := some 19) (v := (.pointer (some ⟨w.heap.size, 7, none⟩))) rfl rfl (by kernel_rfl) (by kernel_rfl) (by kernel_rfl) (fun _ _ _ h => h) (by rfl) (fun _ => by go_simp) ?_
      (try simp only [Act.put, List.setIfInBounds_toArray, List.set_cons_zero, List.set_cons_succ])
      refine D_pure (i := 5) (d := some 20) (v := (.pointer (some ⟨w.heap.size, 10, none⟩))) rfl rfl (by kernel_rfl) (by kernel_rfl) (by kernel_rfl) (fun _ _ _ h => h) (by rfl) (fun _ => by go_simp) ?_
      (try simp only [Act.put, List.setIfInBounds_toArray, List.set_cons_zero, List.set_cons_succ])
      refine D_load (i := 6) (d := some 21) (v := (.agg #[Value.bool p.B.s, Value.slice p.B.a p.B.n p.B.c, Value.slice p.B.b p.B.m p.B.d])) [2, 6] rfl rfl (by kernel_rfl) (by kernel_rfl) (by kernel_rfl) (by kernel_rfl) (by kernel_rfl) (by kernel_rfl) (fun _ _ _ h => h) (by rfl) (fun w hSw => by (have b0 := hSw); have l0 : _ = some (Value.bool p.B.s) := b0.cell (10); have l1 : _ = some (Value.slice p.B.a p.B.n p.B.c) := b0.cell (11); have l2 : _ = some (Value.slice p.B.b p.B.m p.B.d) := b0.cell (12); (clear b0); go_simp) X_5 ?_
      (try simp only [Act.put, List.setIfInBounds_toArray, List.set_cons_zero, List.set_cons_succ])
      refine D_one (i := 3) (by kernel_rfl) rfl (fun Kq hKq => ?_)
      go_simp
      refine ((show Calls _ _ _ _ (RetQ _ za) from hza.out ▸ qneg ((hPP.out.L.A.below hbel_5).rdQ hSS.out.L.a) (by omega))).mono ?_
      rintro e w6 ⟨aa, an, ac, ab, am, ad, rfl, hO, hO', hD, hB⟩
      have hB_6 : Below vd5.heap.size vd5 w6 := (bl.next hB)
      have X_6 := X_5.next hB_6
      have R1_6 := R1_5.next hB_6
      have Ou_6 := Ou_5.below hB_6
      have Pu_6 := Pu_5.below hB_6
      have hbAcc_6 := hbAcc_5.next hB_6
      have hbel_6 := hbel_5.next hB_6
      have hsz_6 := hB_6.size
      clear X_5 R1_5 Ou_5 Pu_5 hbAcc_5 hbel_5 hB_6
      have Oa_6 := (show Own vd5.heap.size _ _ _ _ _ from hO)
      have ltOa := (show Own vd5.heap.size _ _ _ _ _ from hO).ltB
      have Pa_6 := (show Own vd5.heap.size _ _ _ _ _ from hO')
      have ltPa := (show Own vd5.heap.size _ _ _ _ _ from hO').ltB
      have Da := hid hD
      clear hO hO' hD
      try clear hB
      (try go_wp2_with fail)
      refine hKq.out _ _ X_6 (fun hHeld => ?_)
      clear hHeld hKq Kq
      (try simp only [Act.put, List.setIfInBounds_toArray, List.set_cons_zero, List.set_cons_succ])
      refine D_pure (i := 8) (d := some 23) (v := (.pointer (some ⟨w.heap.size, 7, none⟩))) rfl rfl (by kernel_rfl) (by kernel_rfl) (by kernel_rfl) (fun _ _ _ h => h) (by rfl) (fun _ => by go_simp) ?_
      (try simp only [Act.put, List.setIfInBounds_toArray, List.set_cons_zero, List.set_cons_succ])
      refine D_pure (i := 9) (d := some 24) (v := (.pointer (some ⟨w.heap.size, 7, none⟩))) rfl rfl (by kernel_rfl) (by kernel_rfl) (by kernel_rfl) (fun _ _ _ h => h) (by rfl) (fun _ => by go_simp) ?_
      (try simp only [Act.put, List.setIfInBounds_toArray, List.set_cons_zero, List.set_cons_succ])
      refine D_one (i := 7) (by kernel_rfl) rfl (fun Kq hKq => ?_)
      go_simp
      refine ((show Calls _ _ _ _ (RetQ _ zb) from hzb.out ▸ qneg ((hPP.out.L.B.below hbel_6).rdQ hSS.out.L.b) (by omega))).mono ?_
      rintro e w7 ⟨ba, bn, bc, bb, bm, bd, rfl, hO, hO', hD, hB⟩
      have hB_7 : Below w6.heap.size w6 w7 := (bl.next hB)
      have X_7 := X_6.next hB_7
      have R1_7 := R1_6.next hB_7
      have Ou_7 := Ou_6.below hB_7
      have Pu_7 := Pu_6.below hB_7
      have hbAcc_7 := hbAcc_6.next hB_7
      have Oa_7 := Oa_6.below hB_7
      have Pa_7 := Pa_6.below hB_7
      have hbel_7 := hbel_6.next hB_7
      have hsz_7 := hB_7.size
      clear X_6 R1_6 Ou_6 Pu_6 hbAcc_6 Oa_6 Pa_6 hbel_6 hB_7
      have Ob_7 := (show Own w6.heap.size _ _ _ _ _ from hO)
      have ltOb := (show Own w6.heap.size _ _ _ _ _ from hO).ltB
      have Pb_7 := (show Own w6.heap.size _ _ _ _ _ from hO')
      have ltPb := (show Own w6.heap.size _ _ _ _ _ from hO').ltB
      have Db := hid hD
      clear hO hO' hD
      try clear hB
      (try go_wp2_with fail)
      refine hKq.out _ _ X_7 (fun hHeld => ?_)
      clear hHeld hKq Kq
      (try simp only [Act.put, List.setIfInBounds_toArray, List.set_cons_zero, List.set_cons_succ])
      have cX_7_7 : _ = some (Value.bool p.A.s) := X_7.cell 7
      have fX_7_7 := X_7.free 7
      have cX_7_8 : _ = some (Value.slice p.A.a p.A.n p.A.c) := X_7.cell 8
      have fX_7_8 := X_7.free 8
      have cX_7_9 : _ = some (Value.slice p.A.b p.A.m p.A.d) := X_7.cell 9
      have fX_7_9 := X_7.free 9
      have cX_7_10 : _ = some (Value.bool p.B.s) := X_7.cell 10
      have fX_7_10 := X_7.free 10
      have cX_7_11 : _ = some (Value.slice p.B.a p.B.n p.B.c) := X_7.cell 11
      have fX_7_11 := X_7.free 11
      have cX_7_12 : _ = some (Value.slice p.B.b p.B.m p.B.d) := X_7.cell 12
      have fX_7_12 := X_7.free 12
      refine D_late (i := 10) (by kernel_rfl) rfl (by kernel_rfl) (fun Kq hKq => ?_)
      go_simp
      refine hKq.out _ _ ?_
      clear hKq Kq
      (try simp only [Act.put, List.setIfInBounds_toArray, List.set_cons_zero, List.set_cons_succ])
      refine D_pure (i := 11) (d := some 25) (v := (.pointer (some ⟨w.heap.size, 7, none⟩))) rfl rfl (by kernel_rfl) (by kernel_rfl) (by kernel_rfl) (fun _ _ _ h => h) (by rfl) (fun _ => by go_simp) ?_
      (try simp only [Act.put, List.setIfInBounds_toArray, List.set_cons_zero, List.set_cons_succ])
      refine D_pure (i := 12) (d := some 26) (v := (.pointer (some ⟨w.heap.size, 10, none⟩))) rfl rfl (by kernel_rfl) (by kernel_rfl) (by kernel_rfl) (fun _ _ _ h => h) (by rfl) (fun _ => by go_simp) ?_
      (try simp only [Act.put, List.setIfInBounds_toArray, List.set_cons_zero, List.set_cons_succ])
      refine D_late (i := 13) (by kernel_rfl) rfl (by kernel_rfl) (fun Kq hKq => ?_)
      go_simp
      refine hKq.out _ _ ?_
      clear hKq Kq
      (try simp only [Act.put, List.setIfInBounds_toArray, List.set_cons_zero, List.set_cons_succ])
      refine D_done (by kernel_rfl) ?_ _
      refine NoPanic.normal ?_
      go_wp2_with fail
      go_meet
      have fu := hid (FN.new (N := fun g => (N g ∧ g ≠ w.heap.size + 1) ∧ g ≠ w.heap.size) Oa_7 Pa_7 Da.out (fun g hg => ⟨⟨hNN.out g (by omega), by omega⟩, by omega⟩) (fun g hg => ⟨⟨hNN.out g (by omega), by omega⟩, by omega⟩))
      have fv := hid (FN.new (N := fun g => (N g ∧ g ≠ w.heap.size + 1) ∧ g ≠ w.heap.size) Ob_7 Pb_7 Db.out (fun g hg => ⟨⟨hNN.out g (by omega), by omega⟩, by omega⟩) (fun g hg => ⟨⟨hNN.out g (by omega), by omega⟩, by omega⟩))
      exact ⟨aa, an, ac, ab, am, ad, ba, bn, bc, bb, bm, bd, part_putab X_7 (⟨decide (za.num < 0), aa, an, ac, ab, am, ad⟩ : FX) (⟨decide (zb.num < 0), ba, bn, bc, bb, bm, bd⟩ : FX), ((fu.out.kp (kp_put3v (q := fun j => j = w.heap.size) (kp_put3v (q := fun j => j = w.heap.size) (Kp.refl (fun j => j = w.heap.size) w7) rfl _ _ _ _ _ _) rfl _ _ _ _ _ _) (fun j (e : j = _) hn => hn.2 e)).mono (fun g _ hn => hn.1)), ((fv.out.kp (kp_put3v (q := fun j => j = w.heap.size) (kp_put3v (q := fun j => j = w.heap.size) (Kp.refl (fun j => j = w.heap.size) w7) rfl _ _ _ _ _ _) rfl _ _ _ _ _ _) (fun j (e : j = _) hn => hn.2 e)).mono (fun g _ hn => hn.1)), (kp_put3v (q := fun j => j = w.heap.size) (kp_put3v (q := fun j => j = w.heap.size) (kp_of_below hbAcc_7) rfl _ _ _ _ _ _) rfl _ _ _ _ _ _)⟩
    case rest =>
      obtain ⟨aa, an, ac, ab, am, ad, ba, bn, bc, bb, bm, bd, hbk, hfa, hfb, hks0⟩ := hcut
      have X_5 := hbk
      have R1_5 := R1_4.kp hks0 (show ¬ (w.heap.size + 1 = w.heap.size) by omega)
      have hbel_5 := hbel_4.kp hks0 hbel_4.size (fun j hj (e : j = w.heap.size) => by omega)
      have hsz_5 := hks0.size
      have fu2 := hid ((FN.new (N := fun g => (N g ∧ g ≠ w.heap.size + 1) ∧ g ≠ w.heap.size) Ou_4 Pu_4 Du.out (fun g hg => ⟨⟨hNN.out g (by omega), by omega⟩, by omega⟩) (fun g hg => ⟨⟨hNN.out g (by omega), by omega⟩, by omega⟩)).kp hks0 (fun j (e : j = _) hn => hn.2 e))
      have fa2 := hid hfa
      have fb2 := hid hfb
      clear hbk hks0 hfa hfb X_4 R1_4 hbel_4 Ou_4 Pu_4
      obtain ⟨wu, hwc⟩ : ∃ y : World, y = wc := ⟨_, rfl⟩
      subst hwc
      go_wp2_with (first | refine BigFrame.wpList_want (by rfl) (fun Kq hKq => wp_loadP _ rfl rfl X_5 (hKq _ _ ?_)) | refine BigFrame.wpList_want (by rfl) (fun Kq hKq => wp_storeP (p := ({p with deep := dp + 1, kind := 6, v := (⟨decide ((zv).num < 0), ua, un, uc, ub, um, ud⟩ : FX), A := (⟨decide (za.num < 0), aa, an, ac, ab, am, ad⟩ : FX), B := (⟨decide (zb.num < 0), ba, bn, bc, bb, bm, bd⟩ : FX)} : PX)) _ _ rfl rfl rfl R1_5 (fun ws hbs hks => hKq _ _ ?_)))
      have hbl := hbel_5.kp hks hbel_5.size (fun j hj (e : j = _) => by omega)
      go_wp2_with fail
      refine bodyPost_ret (res_blk Try.results66 rfl hbs Try.underlying67 rfl (by kernel_rfl)) rfl ?_
      have fu3 := fu2.out.mono (M := fun g => N g ∧ g ≠ w.heap.size + 1) (fun g _ hn => hn.1)
      rw [hopp.out]
      exact ⟨({p with deep := dp + 1, kind := 6, v := (⟨decide ((zv).num < 0), ua, un, uc, ub, um, ud⟩ : FX), A := (⟨decide (za.num < 0), aa, an, ac, ab, am, ad⟩ : FX), B := (⟨decide (zb.num < 0), ba, bn, bc, bb, bm, bd⟩ : FX)} : PX), rfl, ⟨rfl, rfl, hPP.out.bad, hPP.out.opn, .inl ((fu3.kp hks (fun j (e : j = _) hn => hn.2 e)).mono (fun g _ hn => hn.1)), (fun _ _ => ((fu3.kp hks (fun j (e : j = _) hn => hn.2 e)).mono (fun g _ hn => hn.1))), ⟨.inl ((fa2.out.kp hks (fun j (e : j = _) hn => hn.2 e)).mono (fun g _ hn => hn.1)), .inl ((fb2.out.kp hks (fun j (e : j = _) hn => hn.2 e)).mono (fun g _ hn => hn.1)), hPP.out.L.C.below hbl, hPP.out.L.D.below hbl⟩⟩, hbl⟩

set_option maxRecDepth 100000 in
set_option maxHeartbeats 2000000 in
theorem both_2 {w : World} {s t : Bool} {a b a' b' : Option Addr} {n c m d n' c' m' d' J K : Nat} {x y : Rat} (hx : RdQ J w s a n c b m d x) (hJ : J ≤ 300000) (hy : RdQ K w t a' n' c' b' m' d' y) (hK : K ≤ 300000) :
    Calls Try.prog 80 #[.int .i8 2, .agg #[.bool s, .slice a n c, .slice b m d], .agg #[.bool t, .slice a' n' c', .slice b' m' d']] w (RetQK w (x + y)) := by
  have H := hid (fun W (hx : RdQ J W s a n c b m d x) (hy : RdQ K W t a' n' c' b' m' d' y) => qadd hx (by omega) hy (by omega))
  obtain ⟨z, hz⟩ : ∃ z, x + y = z := ⟨_, rfl⟩
  rw [hz] at H ⊢
  clear hz
  have hent := ent3 w #[Value.bool s, Value.slice a n c, Value.slice b m d] #[Value.bool t, Value.slice a' n' c', Value.slice b' m' d'] #[Value.bool false, Value.slice none 0 0, Value.slice none 0 0] 28 28 28
  go_enter Try.func80, Try.ntmps80
  go_wp2_with fail
  generalize (((w.alloc (.cells #[Value.bool s, Value.slice a n c, Value.slice b m d] 28)).alloc (.cells #[Value.bool t, Value.slice a' n' c', Value.slice b' m' d'] 28)).alloc (.cells #[Value.bool false, Value.slice none 0 0, Value.slice none 0 0] 28)) = W0 at hent ⊢
  obtain ⟨X_0, Y_0, R0_0, hbel_0, hsz_0⟩ := hent
  have cX_0_0 : _ = some (Value.bool s) := X_0.cell 0
  have cX_0_1 : _ = some (Value.slice a n c) := X_0.cell 1
  have cX_0_2 : _ = some (Value.slice b m d) := X_0.cell 2
  have cY_0_0 : _ = some (Value.bool t) := Y_0.cell 0
  have cY_0_1 : _ = some (Value.slice a' n' c') := Y_0.cell 1
  have cY_0_2 : _ = some (Value.slice b' m' d') := Y_0.cell 2
  have cR0_0_0 : _ = some (Value.bool false) := R0_0.cell 0
  have fR0_0_0 := R0_0.free 0
  have cR0_0_1 : _ = some (Value.slice none 0 0) := R0_0.cell 1
  have fR0_0_1 := R0_0.free 1
  have cR0_0_2 : _ = some (Value.slice none 0 0) := R0_0.cell 2
  have fR0_0_2 := R0_0.free 2
  have hx_0 := hx.below hbel_0
  clear hx
  have hy_0 := hy.below hbel_0
  clear hy
  go_wp2_with fail
  refine (H.out _ hx_0 hy_0).mono ?_
  rintro e w1 ⟨qa, qn, qc, qb, qm, qd, rfl, hO, hO', hD, hB⟩
  have hB_1 : Below W0.heap.size W0 w1 := (bl.next hB)
  have X_1 := X_0.next hB_1
  have cX_1_0 : _ = some (Value.bool s) := X_1.cell 0
  have cX_1_1 : _ = some (Value.slice a n c) := X_1.cell 1
  have cX_1_2 : _ = some (Value.slice b m d) := X_1.cell 2
  have Y_1 := Y_0.next hB_1
  have cY_1_0 : _ = some (Value.bool t) := Y_1.cell 0
  have cY_1_1 : _ = some (Value.slice a' n' c') := Y_1.cell 1
  have cY_1_2 : _ = some (Value.slice b' m' d') := Y_1.cell 2
  have R0_1 := R0_0.next hB_1
  have cR0_1_0 : _ = some (Value.bool false) := R0_1.cell 0
  have fR0_1_0 := R0_1.free 0
  have cR0_1_1 : _ = some (Value.slice none 0 0) := R0_1.cell 1
  have fR0_1_1 := R0_1.free 1
  have cR0_1_2 : _ = some (Value.slice none 0 0) := R0_1.cell 2
  have fR0_1_2 := R0_1.free 2
  have hx_1 := hx_0.below hB_1
  have hy_1 := hy_0.below hB_1
  have hbel_1 := hbel_0.next hB_1
  have hsz_1 := hB_1.size
  clear X_0 cX_0_0 cX_0_1 cX_0_2 Y_0 cY_0_0 cY_0_1 cY_0_2 R0_0 cR0_0_0 fR0_0_0 cR0_0_1 fR0_0_1 cR0_0_2 fR0_0_2 hx_0 hy_0 hbel_0 hB_1
  have Oq_1 := hO
  have ltOq := hO.ltB
  have Pq_1 := hO'
  have ltPq := hO'.ltB
  clear hO hO'
  try clear hB
  go_wp2
  refine bodyPost_ret (v := .tuple #[.agg #[.bool (decide (z.num < 0)), .slice qa qn qc, .slice qb qm qd], .int .i64 0]) (by simp [results, Try.results80, go_sem, cR0_1_0, cR0_1_1, cR0_1_2]) rfl ?_
  exact ⟨qa, qn, qc, qb, qm, qd, rfl, (Oq_1.set3 (by omega) _ _ _).mono (by omega), (Pq_1.set3 (by omega) _ _ _).mono (by omega), hD, Below.set3 hbel_1 (by omega) _ _ _⟩

set_option maxRecDepth 100000 in
set_option maxHeartbeats 2000000 in
theorem both_3 {w : World} {s t : Bool} {a b a' b' : Option Addr} {n c m d n' c' m' d' J K : Nat} {x y : Rat} (hx : RdQ J w s a n c b m d x) (hJ : J ≤ 300000) (hy : RdQ K w t a' n' c' b' m' d' y) (hK : K ≤ 300000) :
    Calls Try.prog 80 #[.int .i8 3, .agg #[.bool s, .slice a n c, .slice b m d], .agg #[.bool t, .slice a' n' c', .slice b' m' d']] w (RetQK w (x - y)) := by
  have H := hid (fun W (hx : RdQ J W s a n c b m d x) (hy : RdQ K W t a' n' c' b' m' d' y) => qsub hx (by omega) hy (by omega))
  obtain ⟨z, hz⟩ : ∃ z, x - y = z := ⟨_, rfl⟩
  rw [hz] at H ⊢
  clear hz
  have hent := ent3 w #[Value.bool s, Value.slice a n c, Value.slice b m d] #[Value.bool t, Value.slice a' n' c', Value.slice b' m' d'] #[Value.bool false, Value.slice none 0 0, Value.slice none 0 0] 28 28 28
  go_enter Try.func80, Try.ntmps80
  go_wp2_with fail
  generalize (((w.alloc (.cells #[Value.bool s, Value.slice a n c, Value.slice b m d] 28)).alloc (.cells #[Value.bool t, Value.slice a' n' c', Value.slice b' m' d'] 28)).alloc (.cells #[Value.bool false, Value.slice none 0 0, Value.slice none 0 0] 28)) = W0 at hent ⊢
  obtain ⟨X_0, Y_0, R0_0, hbel_0, hsz_0⟩ := hent
  have cX_0_0 : _ = some (Value.bool s) := X_0.cell 0
  have cX_0_1 : _ = some (Value.slice a n c) := X_0.cell 1
  have cX_0_2 : _ = some (Value.slice b m d) := X_0.cell 2
  have cY_0_0 : _ = some (Value.bool t) := Y_0.cell 0
  have cY_0_1 : _ = some (Value.slice a' n' c') := Y_0.cell 1
  have cY_0_2 : _ = some (Value.slice b' m' d') := Y_0.cell 2
  have cR0_0_0 : _ = some (Value.bool false) := R0_0.cell 0
  have fR0_0_0 := R0_0.free 0
  have cR0_0_1 : _ = some (Value.slice none 0 0) := R0_0.cell 1
  have fR0_0_1 := R0_0.free 1
  have cR0_0_2 : _ = some (Value.slice none 0 0) := R0_0.cell 2
  have fR0_0_2 := R0_0.free 2
  have hx_0 := hx.below hbel_0
  clear hx
  have hy_0 := hy.below hbel_0
  clear hy
  go_wp2_with fail
  refine (H.out _ hx_0 hy_0).mono ?_
  rintro e w1 ⟨qa, qn, qc, qb, qm, qd, rfl, hO, hO', hD, hB⟩
  have hB_1 : Below W0.heap.size W0 w1 := (bl.next hB)
  have X_1 := X_0.next hB_1
  have cX_1_0 : _ = some (Value.bool s) := X_1.cell 0
  have cX_1_1 : _ = some (Value.slice a n c) := X_1.cell 1
  have cX_1_2 : _ = some (Value.slice b m d) := X_1.cell 2
  have Y_1 := Y_0.next hB_1
  have cY_1_0 : _ = some (Value.bool t) := Y_1.cell 0
  have cY_1_1 : _ = some (Value.slice a' n' c') := Y_1.cell 1
  have cY_1_2 : _ = some (Value.slice b' m' d') := Y_1.cell 2
  have R0_1 := R0_0.next hB_1
  have cR0_1_0 : _ = some (Value.bool false) := R0_1.cell 0
  have fR0_1_0 := R0_1.free 0
  have cR0_1_1 : _ = some (Value.slice none 0 0) := R0_1.cell 1
  have fR0_1_1 := R0_1.free 1
  have cR0_1_2 : _ = some (Value.slice none 0 0) := R0_1.cell 2
  have fR0_1_2 := R0_1.free 2
  have hx_1 := hx_0.below hB_1
  have hy_1 := hy_0.below hB_1
  have hbel_1 := hbel_0.next hB_1
  have hsz_1 := hB_1.size
  clear X_0 cX_0_0 cX_0_1 cX_0_2 Y_0 cY_0_0 cY_0_1 cY_0_2 R0_0 cR0_0_0 fR0_0_0 cR0_0_1 fR0_0_1 cR0_0_2 fR0_0_2 hx_0 hy_0 hbel_0 hB_1
  have Oq_1 := hO
  have ltOq := hO.ltB
  have Pq_1 := hO'
  have ltPq := hO'.ltB
  clear hO hO'
  try clear hB
  go_wp2
  refine bodyPost_ret (v := .tuple #[.agg #[.bool (decide (z.num < 0)), .slice qa qn qc, .slice qb qm qd], .int .i64 0]) (by simp [results, Try.results80, go_sem, cR0_1_0, cR0_1_1, cR0_1_2]) rfl ?_
  exact ⟨qa, qn, qc, qb, qm, qd, rfl, (Oq_1.set3 (by omega) _ _ _).mono (by omega), (Pq_1.set3 (by omega) _ _ _).mono (by omega), hD, Below.set3 hbel_1 (by omega) _ _ _⟩

set_option maxRecDepth 100000 in
set_option maxHeartbeats 2000000 in
theorem both_4 {w : World} {s t : Bool} {a b a' b' : Option Addr} {n c m d n' c' m' d' J K : Nat} {x y : Rat} (hx : RdQ J w s a n c b m d x) (hJ : J ≤ 300000) (hy : RdQ K w t a' n' c' b' m' d' y) (hK : K ≤ 300000) :
    Calls Try.prog 80 #[.int .i8 4, .agg #[.bool s, .slice a n c, .slice b m d], .agg #[.bool t, .slice a' n' c', .slice b' m' d']] w (RetQK w (x * y)) := by
  have H := hid (fun W (hx : RdQ J W s a n c b m d x) (hy : RdQ K W t a' n' c' b' m' d' y) => qmul hx (by omega) hy (by omega))
  obtain ⟨z, hz⟩ : ∃ z, x * y = z := ⟨_, rfl⟩
  rw [hz] at H ⊢
  clear hz
  have hent := ent3 w #[Value.bool s, Value.slice a n c, Value.slice b m d] #[Value.bool t, Value.slice a' n' c', Value.slice b' m' d'] #[Value.bool false, Value.slice none 0 0, Value.slice none 0 0] 28 28 28
  go_enter Try.func80, Try.ntmps80
  go_wp2_with fail
  generalize (((w.alloc (.cells #[Value.bool s, Value.slice a n c, Value.slice b m d] 28)).alloc (.cells #[Value.bool t, Value.slice a' n' c', Value.slice b' m' d'] 28)).alloc (.cells #[Value.bool false, Value.slice none 0 0, Value.slice none 0 0] 28)) = W0 at hent ⊢
  obtain ⟨X_0, Y_0, R0_0, hbel_0, hsz_0⟩ := hent
  have cX_0_0 : _ = some (Value.bool s) := X_0.cell 0
  have cX_0_1 : _ = some (Value.slice a n c) := X_0.cell 1
  have cX_0_2 : _ = some (Value.slice b m d) := X_0.cell 2
  have cY_0_0 : _ = some (Value.bool t) := Y_0.cell 0
  have cY_0_1 : _ = some (Value.slice a' n' c') := Y_0.cell 1
  have cY_0_2 : _ = some (Value.slice b' m' d') := Y_0.cell 2
  have cR0_0_0 : _ = some (Value.bool false) := R0_0.cell 0
  have fR0_0_0 := R0_0.free 0
  have cR0_0_1 : _ = some (Value.slice none 0 0) := R0_0.cell 1
  have fR0_0_1 := R0_0.free 1
  have cR0_0_2 : _ = some (Value.slice none 0 0) := R0_0.cell 2
  have fR0_0_2 := R0_0.free 2
  have hx_0 := hx.below hbel_0
  clear hx
  have hy_0 := hy.below hbel_0
  clear hy
  go_wp2_with fail
  refine (H.out _ hx_0 hy_0).mono ?_
  rintro e w1 ⟨qa, qn, qc, qb, qm, qd, rfl, hO, hO', hD, hB⟩
  have hB_1 : Below W0.heap.size W0 w1 := (bl.next hB)
  have X_1 := X_0.next hB_1
  have cX_1_0 : _ = some (Value.bool s) := X_1.cell 0
  have cX_1_1 : _ = some (Value.slice a n c) := X_1.cell 1
  have cX_1_2 : _ = some (Value.slice b m d) := X_1.cell 2
  have Y_1 := Y_0.next hB_1
  have cY_1_0 : _ = some (Value.bool t) := Y_1.cell 0
  have cY_1_1 : _ = some (Value.slice a' n' c') := Y_1.cell 1
  have cY_1_2 : _ = some (Value.slice b' m' d') := Y_1.cell 2
  have R0_1 := R0_0.next hB_1
  have cR0_1_0 : _ = some (Value.bool false) := R0_1.cell 0
  have fR0_1_0 := R0_1.free 0
  have cR0_1_1 : _ = some (Value.slice none 0 0) := R0_1.cell 1
  have fR0_1_1 := R0_1.free 1
  have cR0_1_2 : _ = some (Value.slice none 0 0) := R0_1.cell 2
  have fR0_1_2 := R0_1.free 2
  have hx_1 := hx_0.below hB_1
  have hy_1 := hy_0.below hB_1
  have hbel_1 := hbel_0.next hB_1
  have hsz_1 := hB_1.size
  clear X_0 cX_0_0 cX_0_1 cX_0_2 Y_0 cY_0_0 cY_0_1 cY_0_2 R0_0 cR0_0_0 fR0_0_0 cR0_0_1 fR0_0_1 cR0_0_2 fR0_0_2 hx_0 hy_0 hbel_0 hB_1
  have Oq_1 := hO
  have ltOq := hO.ltB
  have Pq_1 := hO'
  have ltPq := hO'.ltB
  clear hO hO'
  try clear hB
  go_wp2
  refine bodyPost_ret (v := .tuple #[.agg #[.bool (decide (z.num < 0)), .slice qa qn qc, .slice qb qm qd], .int .i64 0]) (by simp [results, Try.results80, go_sem, cR0_1_0, cR0_1_1, cR0_1_2]) rfl ?_
  exact ⟨qa, qn, qc, qb, qm, qd, rfl, (Oq_1.set3 (by omega) _ _ _).mono (by omega), (Pq_1.set3 (by omega) _ _ _).mono (by omega), hD, Below.set3 hbel_1 (by omega) _ _ _⟩

set_option maxRecDepth 100000 in
set_option maxHeartbeats 2000000 in
theorem both_5 {w : World} {s t : Bool} {a b a' b' : Option Addr} {n c m d n' c' m' d' J K : Nat} {x y : Rat} (hx : RdQ J w s a n c b m d x) (hJ : J ≤ 300000) (hy : RdQ K w t a' n' c' b' m' d' y) (hK : K ≤ 300000) (h0 : y ≠ 0) :
    Calls Try.prog 80 #[.int .i8 5, .agg #[.bool s, .slice a n c, .slice b m d], .agg #[.bool t, .slice a' n' c', .slice b' m' d']] w (RetQK w (x / y)) := by
  have H := hid (fun W (hx : RdQ J W s a n c b m d x) (hy : RdQ K W t a' n' c' b' m' d' y) => qdiv_nz hx (by omega) hy (by omega) h0)
  obtain ⟨z, hz⟩ : ∃ z, x / y = z := ⟨_, rfl⟩
  rw [hz] at H ⊢
  clear hz
  have hent := ent3 w #[Value.bool s, Value.slice a n c, Value.slice b m d] #[Value.bool t, Value.slice a' n' c', Value.slice b' m' d'] #[Value.bool false, Value.slice none 0 0, Value.slice none 0 0] 28 28 28
  go_enter Try.func80, Try.ntmps80
  go_wp2_with fail
  generalize (((w.alloc (.cells #[Value.bool s, Value.slice a n c, Value.slice b m d] 28)).alloc (.cells #[Value.bool t, Value.slice a' n' c', Value.slice b' m' d'] 28)).alloc (.cells #[Value.bool false, Value.slice none 0 0, Value.slice none 0 0] 28)) = W0 at hent ⊢
  obtain ⟨X_0, Y_0, R0_0, hbel_0, hsz_0⟩ := hent
  have cX_0_0 : _ = some (Value.bool s) := X_0.cell 0
  have cX_0_1 : _ = some (Value.slice a n c) := X_0.cell 1
  have cX_0_2 : _ = some (Value.slice b m d) := X_0.cell 2
  have cY_0_0 : _ = some (Value.bool t) := Y_0.cell 0
  have cY_0_1 : _ = some (Value.slice a' n' c') := Y_0.cell 1
  have cY_0_2 : _ = some (Value.slice b' m' d') := Y_0.cell 2
  have cR0_0_0 : _ = some (Value.bool false) := R0_0.cell 0
  have fR0_0_0 := R0_0.free 0
  have cR0_0_1 : _ = some (Value.slice none 0 0) := R0_0.cell 1
  have fR0_0_1 := R0_0.free 1
  have cR0_0_2 : _ = some (Value.slice none 0 0) := R0_0.cell 2
  have fR0_0_2 := R0_0.free 2
  have hx_0 := hx.below hbel_0
  clear hx
  have hy_0 := hy.below hbel_0
  clear hy
  go_wp2_with fail
  refine (H.out _ hx_0 hy_0).mono ?_
  rintro e w1 ⟨qa, qn, qc, qb, qm, qd, rfl, hO, hO', hD, hB⟩
  have hB_1 : Below W0.heap.size W0 w1 := (bl.next hB)
  have X_1 := X_0.next hB_1
  have cX_1_0 : _ = some (Value.bool s) := X_1.cell 0
  have cX_1_1 : _ = some (Value.slice a n c) := X_1.cell 1
  have cX_1_2 : _ = some (Value.slice b m d) := X_1.cell 2
  have Y_1 := Y_0.next hB_1
  have cY_1_0 : _ = some (Value.bool t) := Y_1.cell 0
  have cY_1_1 : _ = some (Value.slice a' n' c') := Y_1.cell 1
  have cY_1_2 : _ = some (Value.slice b' m' d') := Y_1.cell 2
  have R0_1 := R0_0.next hB_1
  have cR0_1_0 : _ = some (Value.bool false) := R0_1.cell 0
  have fR0_1_0 := R0_1.free 0
  have cR0_1_1 : _ = some (Value.slice none 0 0) := R0_1.cell 1
  have fR0_1_1 := R0_1.free 1
  have cR0_1_2 : _ = some (Value.slice none 0 0) := R0_1.cell 2
  have fR0_1_2 := R0_1.free 2
  have hx_1 := hx_0.below hB_1
  have hy_1 := hy_0.below hB_1
  have hbel_1 := hbel_0.next hB_1
  have hsz_1 := hB_1.size
  clear X_0 cX_0_0 cX_0_1 cX_0_2 Y_0 cY_0_0 cY_0_1 cY_0_2 R0_0 cR0_0_0 fR0_0_0 cR0_0_1 fR0_0_1 cR0_0_2 fR0_0_2 hx_0 hy_0 hbel_0 hB_1
  have Oq_1 := hO
  have ltOq := hO.ltB
  have Pq_1 := hO'
  have ltPq := hO'.ltB
  clear hO hO'
  try clear hB
  go_wp2
  refine bodyPost_ret (v := .tuple #[.agg #[.bool (decide (z.num < 0)), .slice qa qn qc, .slice qb qm qd], .int .i64 0]) (by simp [results, Try.results80, go_sem, cR0_1_0, cR0_1_1, cR0_1_2]) rfl ?_
  exact ⟨qa, qn, qc, qb, qm, qd, rfl, (Oq_1.set3 (by omega) _ _ _).mono (by omega), (Pq_1.set3 (by omega) _ _ _).mono (by omega), hD, Below.set3 hbel_1 (by omega) _ _ _⟩

set_option maxRecDepth 100000 in
set_option maxHeartbeats 2000000 in
theorem both_5z {w : World} {s t : Bool} {a b a' b' : Option Addr} {n c m d n' c' m' d' J K : Nat} {x y : Rat} (hx : RdQ J w s a n c b m d x) (hJ : J ≤ 300000) (hy : RdQ K w t a' n' c' b' m' d' y) (hK : K ≤ 300000) (h0 : y = 0) :
    Calls Try.prog 80 #[.int .i8 5, .agg #[.bool s, .slice a n c, .slice b m d], .agg #[.bool t, .slice a' n' c', .slice b' m' d']] w (RetQZ w) := by
  have H := hid (fun W (hx : RdQ J W s a n c b m d x) (hy : RdQ K W t a' n' c' b' m' d' y) => qdiv_z hx (by omega) hy (by omega) h0)
  have hent := ent3 w #[Value.bool s, Value.slice a n c, Value.slice b m d] #[Value.bool t, Value.slice a' n' c', Value.slice b' m' d'] #[Value.bool false, Value.slice none 0 0, Value.slice none 0 0] 28 28 28
  go_enter Try.func80, Try.ntmps80
  go_wp2_with fail
  generalize (((w.alloc (.cells #[Value.bool s, Value.slice a n c, Value.slice b m d] 28)).alloc (.cells #[Value.bool t, Value.slice a' n' c', Value.slice b' m' d'] 28)).alloc (.cells #[Value.bool false, Value.slice none 0 0, Value.slice none 0 0] 28)) = W0 at hent ⊢
  obtain ⟨X_0, Y_0, R0_0, hbel_0, hsz_0⟩ := hent
  have cX_0_0 : _ = some (Value.bool s) := X_0.cell 0
  have cX_0_1 : _ = some (Value.slice a n c) := X_0.cell 1
  have cX_0_2 : _ = some (Value.slice b m d) := X_0.cell 2
  have cY_0_0 : _ = some (Value.bool t) := Y_0.cell 0
  have cY_0_1 : _ = some (Value.slice a' n' c') := Y_0.cell 1
  have cY_0_2 : _ = some (Value.slice b' m' d') := Y_0.cell 2
  have cR0_0_0 : _ = some (Value.bool false) := R0_0.cell 0
  have fR0_0_0 := R0_0.free 0
  have cR0_0_1 : _ = some (Value.slice none 0 0) := R0_0.cell 1
  have fR0_0_1 := R0_0.free 1
  have cR0_0_2 : _ = some (Value.slice none 0 0) := R0_0.cell 2
  have fR0_0_2 := R0_0.free 2
  have hx_0 := hx.below hbel_0
  clear hx
  have hy_0 := hy.below hbel_0
  clear hy
  go_wp2_with fail
  refine (H.out _ hx_0 hy_0).mono ?_
  rintro e w1 ⟨qa, qn, qc, qb, qm, qd, rfl, hO, hO', hD, hB⟩
  have hB_1 : Below W0.heap.size W0 w1 := (bl.next hB)
  have X_1 := X_0.next hB_1
  have cX_1_0 : _ = some (Value.bool s) := X_1.cell 0
  have cX_1_1 : _ = some (Value.slice a n c) := X_1.cell 1
  have cX_1_2 : _ = some (Value.slice b m d) := X_1.cell 2
  have Y_1 := Y_0.next hB_1
  have cY_1_0 : _ = some (Value.bool t) := Y_1.cell 0
  have cY_1_1 : _ = some (Value.slice a' n' c') := Y_1.cell 1
  have cY_1_2 : _ = some (Value.slice b' m' d') := Y_1.cell 2
  have R0_1 := R0_0.next hB_1
  have cR0_1_0 : _ = some (Value.bool false) := R0_1.cell 0
  have fR0_1_0 := R0_1.free 0
  have cR0_1_1 : _ = some (Value.slice none 0 0) := R0_1.cell 1
  have fR0_1_1 := R0_1.free 1
  have cR0_1_2 : _ = some (Value.slice none 0 0) := R0_1.cell 2
  have fR0_1_2 := R0_1.free 2
  have hx_1 := hx_0.below hB_1
  have hy_1 := hy_0.below hB_1
  have hbel_1 := hbel_0.next hB_1
  have hsz_1 := hB_1.size
  clear X_0 cX_0_0 cX_0_1 cX_0_2 Y_0 cY_0_0 cY_0_1 cY_0_2 R0_0 cR0_0_0 fR0_0_0 cR0_0_1 fR0_0_1 cR0_0_2 fR0_0_2 hx_0 hy_0 hbel_0 hB_1
  have Oq_1 := hO
  have ltOq := hO.ltB
  have Pq_1 := hO'
  have ltPq := hO'.ltB
  clear hO hO'
  try clear hB
  go_wp2
  refine bodyPost_ret (v := .tuple #[.agg #[.bool false, .slice qa qn qc, .slice qb qm qd], .int .i64 11]) (by simp [results, Try.results80, go_sem, cR0_1_0, cR0_1_1, cR0_1_2]) rfl ?_
  exact ⟨qa, qn, qc, qb, qm, qd, rfl, (Oq_1.set3 (by omega) _ _ _).mono (by omega), (Pq_1.set3 (by omega) _ _ _).mono (by omega), hD, Below.set3 hbel_1 (by omega) _ _ _⟩

/-- what an operation gives, and whether there is none -/
def erB (b : Bool) : Int := if b then 11 else 0
open Classical in
noncomputable def rgtV (kind : Int) (F : LV) (q : Rat) : LV × Bool := if kind = 2 then (rgP F q, false) else if kind = 3 then (rgP F (-q), false) else if kind = 4 then (rgT F q, false) else if q = 0 then (LV.z, true) else (rgT F (1 / q), false)
open Classical in
noncomputable def lftV (kind : Int) (F : LV) (q : Rat) : LV × Bool := if kind = 2 then (rgP F q, false) else if kind = 3 then (rgP ⟨-F.a, -F.b, F.c, F.d⟩ q, false) else if kind = 4 then (rgT F q, false) else if F.a = 0 ∧ F.b = 0 then (LV.z, true) else (⟨q * F.c, q * F.d, F.a, F.b⟩, false)
open Classical in
noncomputable def bthV (kind : Int) (x y : Rat) : Rat × Bool := if kind = 2 then (x + y, false) else if kind = 3 then (x - y, false) else if kind = 4 then (x * y, false) else if y = 0 then (0, true) else (x / y, false)
/-- one of the four -/
def Kd (kind : Int) : Prop := kind = 2 ∨ kind = 3 ∨ kind = 4 ∨ kind = 5
def RetBoth (N : Nat → Prop) (w : World) (v : Rat) (b : Bool) (e : Ending) (w' : World) : Prop :=
  ∃ y : FX, e = .returned (.tuple #[.agg #[.bool y.s, .slice y.a y.n y.c, .slice y.b y.m y.d], .int .i64 (erB b)]) ∧ FA N w' y v ∧ (b = false → FN N w' y v) ∧ Below w.heap.size w w'
theorem both_ok {N : Nat → Prop} {w w' : World} {v : Rat} {e : Ending} (hN : ∀ g, w.heap.size ≤ g → N g) (h : RetQK w v e w') : RetBoth N w v false e w' := by
  obtain ⟨a, n, c, b, m, d, rfl, hO, hO', hD, hB⟩ := h
  have hn : FN N w' ⟨decide (v.num < 0), a, n, c, b, m, d⟩ v := FN.new hO hO' hD hN hN
  exact ⟨_, rfl, .inl hn, fun _ => hn, hB⟩
theorem both_zr {N : Nat → Prop} {w w' : World} {e : Ending} (hN : ∀ g, w.heap.size ≤ g → N g) (h : RetQZ w e w') : RetBoth N w 0 true e w' := by
  obtain ⟨a, n, c, b, m, d, rfl, hO, hO', hD, hB⟩ := h
  exact ⟨⟨false, a, n, c, b, m, d⟩, rfl, .inr (FE.new hO hO' hD hN hN), fun h => (by cases h), hB⟩
theorem bth_any {w : World} {N : Nat → Prop} {s t : Bool} {a b a' b' : Option Addr} {n c m d n' c' m' d' J K : Nat} {x y : Rat} {kind : Int} (hk : Kd kind) (hx : RdQ J w s a n c b m d x) (hJ : J ≤ 300000) (hy : RdQ K w t a' n' c' b' m' d' y) (hK : K ≤ 300000) (hN : ∀ g, w.heap.size ≤ g → N g) :
    Calls Try.prog 80 #[.int .i8 kind, .agg #[.bool s, .slice a n c, .slice b m d], .agg #[.bool t, .slice a' n' c', .slice b' m' d']] w (RetBoth N w (bthV kind x y).1 (bthV kind x y).2) := by
  rcases hk with rfl | rfl | rfl | rfl
  · exact (both_2 hx hJ hy hK).mono fun _ _ h => both_ok hN h
  · exact (both_3 hx hJ hy hK).mono fun _ _ h => both_ok hN h
  · exact (both_4 hx hJ hy hK).mono fun _ _ h => both_ok hN h
  · by_cases h0 : y = 0
    · have e : bthV 5 x y = (0, true) := by simp [bthV, h0]
      rw [e]
      exact (both_5z hx hJ hy hK h0).mono fun _ _ h => both_zr hN h
    · have e : bthV 5 x y = (x / y, false) := by simp [bthV, h0]
      rw [e]
      exact (both_5 hx hJ hy hK h0).mono fun _ _ h => both_ok hN h
theorem rgt_any {w : World} {N : Nat → Prop} {f : LX} {F : LV} {s : Bool} {a b : Option Addr} {n c m d J K : Nat} {q : Rat} {kind : Int} (hk : Kd kind) (hf : LineOK N w f F) (hF : LS F J) (hq : RdQ K w s a n c b m d q) (hQ : QS q K) (hJ : J ≤ 300000) (hK : K ≤ 300000) (hK1 : 1 ≤ K) (hN : ∀ g, w.heap.size ≤ g → N g) :
    Calls Try.prog 78 #[.int .i8 kind, .agg f.arr, .agg #[.bool s, .slice a n c, .slice b m d]] w (RetLine N w (rgtV kind F q).1 (erB (rgtV kind F q).2)) := by
  rcases hk with rfl | rfl | rfl | rfl
  · exact right_plus hf hF hq hQ hJ hK hN
  · exact right_minus hf hF hq hQ hJ hK hN
  · exact right_times hf hF hq hQ hJ hK hN
  · by_cases h0 : q = 0
    · have e : rgtV 5 F q = (LV.z, true) := by simp [rgtV, h0]
      rw [e]
      exact right_over0 hf hF hq hQ hJ hK hN h0
    · have e : rgtV 5 F q = (rgT F (1 / q), false) := by simp [rgtV, h0]
      rw [e]
      exact right_over hf hF hq hQ hJ hK hN h0 hK1
theorem lft_any {w : World} {N : Nat → Prop} {f : LX} {F : LV} {s : Bool} {a b : Option Addr} {n c m d J K : Nat} {q : Rat} {kind : Int} (hk : Kd kind) (hf : LineOK N w f F) (hF : LS F J) (hq : RdQ K w s a n c b m d q) (hQ : QS q K) (hJ : J ≤ 300000) (hK : K ≤ 300000) (hN : ∀ g, w.heap.size ≤ g → N g) :
    Calls Try.prog 79 #[.int .i8 kind, .agg #[.bool s, .slice a n c, .slice b m d], .agg f.arr] w (RetLine N w (lftV kind F q).1 (erB (lftV kind F q).2)) := by
  rcases hk with rfl | rfl | rfl | rfl
  · exact left_plus hf hF hq hQ hJ hK hN
  · exact left_minus hf hF hq hQ hJ hK hN
  · exact left_times hf hF hq hQ hJ hK hN
  · by_cases ha : F.a = 0
    · by_cases hb : F.b = 0
      · have e : lftV 5 F q = (LV.z, true) := by simp [lftV, ha, hb]
        rw [e]
        exact left_over0 hf hF hq hQ hJ hK hN ha hb
      · have e : lftV 5 F q = (⟨q * F.c, q * F.d, F.a, F.b⟩, false) := by simp [lftV, hb]
        rw [e]
        exact left_over_b hf hF hq hQ hJ hK hN ha hb
    · have e : lftV 5 F q = (⟨q * F.c, q * F.d, F.a, F.b⟩, false) := by simp [lftV, ha]
      rw [e]
      exact left_over_a hf hF hq hQ hJ hK hN ha

end Go.Proofs.Ytennilapmcgnbaa
