/- WALKS OF EXPRESSIONS, 5: two parts joined. -/
import Derived.Test.YtennilapmcgnbaaVh
import Derived.Deep.Cut
import Derived.Deep.CutRange
import Derived.Deep.CutBlock
import Derived.Deep.DeepCutAuto
namespace Go.Proofs.Ytennilapmcgnbaa
set_option linter.unusedVariables false
set_option linter.unusedSimpArgs false
open Go.ChangeShapes Go.WideShapes Go.ChangeAt Go.RowKit Go.NatP

section
variable {P : Program} {W w : World} {g : Nat} {C D : Array Value} {T : TypeId} {d : TypeDesc} {p : PX}
theorem part_rngL (h : Blk W g p.arr) : W.rangeAt g 7 (⟨p.A, p.B, p.C, p.D⟩ : LX).arr.toList := fun j v hv => by
  rw [h.cell (7 + j), ← hv]
  have h2 : p.arr.toList.drop 7 = (⟨p.A, p.B, p.C, p.D⟩ : LX).arr.toList := rfl
  rw [← h2, List.getElem?_drop, Array.getElem?_toList]
theorem part_thereL (h : Blk W g p.arr) : W.there g 7 12 := fun j hj => by
  refine ⟨?_, h.free (7 + j)⟩
  rw [h.cell (7 + j), Array.getElem?_eq_getElem (show 7 + j < p.arr.size by show 7 + j < 19; omega)]; rfl
/-- a load of a part's line, as it stands in a region -/
theorem exec_loadPL {o : Oper} {A : Act} (ty : TypeId) (x : Operand) (ho : o.op = .load ty x) (hx : A.eval x = .pointer (some ⟨g, 7, none⟩)) (h : Blk W g p.arr) (hu : P.underlying ty = some d) (hd : d.isRow = true) (hi : (P.info? ty).map (·.size) = some 12) :
    (execOp A.eval o).run P W = .ok (.value (.agg (⟨p.A, p.B, p.C, p.D⟩ : LX).arr)) W := by
  have := run_loadAt_mid W g 7 ty (⟨p.A, p.B, p.C, p.D⟩ : LX).arr.toList d (part_rngL h) hu hd (by rw [hi]; rfl)
  unfold execOp
  simp only [ho, hx, Sem.run_bind, this, Result.andThen_ok, Sem.run_pure]
theorem part_putL (h : Blk W g p.arr) (f : LX) : Blk (W.setCells g 7 f.arr.toList) g ({p with A := f.A, B := f.B, C := f.C, D := f.D} : PX).arr := by
  have := setCells_blk (g := g) f.arr.toList (p.arr.toList.take 7) (⟨p.A, p.B, p.C, p.D⟩ : LX).arr.toList W h rfl
  exact this
end
theorem wp_storePL {w : World} {o : Oper} {A : Act} {K : Act → World → Prop} {Q : Exit → Act → World → Prop} (x y : Operand) (ho : o.op = .store 32 x y) {g : Nat} {f : LX} {q : PX} (hx : A.eval x = .pointer (some ⟨g, 7, none⟩)) (hy : A.eval y = .agg f.arr) (hb : Blk w g q.arr)
    (h : ∀ w', Blk w' g ({q with A := f.A, B := f.B, C := f.C, D := f.D} : PX).arr → Kp (fun j => j = g) w w' → K (A.put o.dst undef) w') : o.wp Try.prog A w K Q :=
  wp_store_mid 32 x y ho g 7 f.arr hx hy (part_thereL hb) (by kernel_rfl) (by kernel_rfl) (h _ (part_putL hb f) (setCells_kp _ _ _))
theorem wp_loadPL {w : World} {o : Oper} {A : Act} {K : Act → World → Prop} {Q : Exit → Act → World → Prop} (x : Operand) (ho : o.op = .load 32 x) {g : Nat} {p : PX} (hx : A.eval x = .pointer (some ⟨g, 7, none⟩)) (hb : Blk w g p.arr)
    (h : K (A.put o.dst (.agg (⟨p.A, p.B, p.C, p.D⟩ : LX).arr)) w) : o.wp Try.prog A w K Q :=
  wp_load_mid 32 x ho g 7 hx (⟨p.A, p.B, p.C, p.D⟩ : LX).arr.toList _ (part_rngL hb) Try.underlying32 rfl (by kernel_rfl) (by simpa using h)
/-- the greater -/
def mxI (a b : Int) : Int := if b > a then b else a
theorem mxI_eq (a b : Int) : max a b = mxI a b := by unfold mxI; split <;> omega
theorem mxI_eq' (a b : Int) : max b a = mxI a b := by unfold mxI; split <;> omega
/-- how deep two parts are, joined -/
def dpJ (kind : Int) (P Q : PV) : Int := if kind = 4 ∨ kind = 5 then mxI (dpB (P.kind == 2 || P.kind == 3) P.deep) (dpB (!(Q.kind == 1 || Q.kind == 6)) Q.deep) else mxI P.deep (dpB (Q.kind == 2 || Q.kind == 3) Q.deep)
/-- two parts joined -/
noncomputable def joinV (kind : Int) (P Q : PV) : PV :=
  if P.bad || Q.bad then ⟨kind, dpJ kind P Q, 0, true, P.opn || Q.opn, LV.z⟩
  else if P.opn then ⟨kind, dpJ kind P Q, 0, (rgtV kind P.L Q.v).2, true, (rgtV kind P.L Q.v).1⟩
  else if Q.opn then ⟨kind, dpJ kind P Q, 0, (lftV kind Q.L P.v).2, true, (lftV kind Q.L P.v).1⟩
  else ⟨kind, dpJ kind P Q, (bthV kind P.v Q.v).1, (bthV kind P.v Q.v).2, false, LV.z⟩

set_option maxRecDepth 100000 in
set_option maxHeartbeats 6000000 in
theorem join_2 {w : World} {N : Nat → Prop} {p q : PX} {P Q : PV} {J : Nat} (hp : PartOK N w p P) (hq : PartOK N w q Q) (hP : PS P J) (hQ : PS Q J) (hJ : J ≤ 300000) (hJ1 : 1 ≤ J) (h0 : 0 ≤ P.deep) (h1 : P.deep ≤ 500000) (h2 : 0 ≤ Q.deep) (h3 : Q.deep ≤ 500000) (hN : ∀ g, w.heap.size ≤ g → N g) :
    Calls Try.prog 67 #[.int .i8 2, .agg p.arr, .agg q.arr] w (RetPart N w (joinV 2 P Q)) := by
  have hNN := hid hN
  have hpp := hid hp
  have hqq := hid hq
  have hPP := hid hP
  have hQQ := hid hQ
  have hp0 : 0 ≤ p.deep := by rw [hp.deep]; exact h0
  have hp1 : p.deep ≤ 500000 := by rw [hp.deep]; exact h1
  have hq0 : 0 ≤ q.deep := by rw [hq.deep]; exact h2
  have hq1 : q.deep ≤ 500000 := by rw [hq.deep]; exact h3
  skip
  obtain ⟨zb, hzb⟩ : ∃ z, (p.bad || q.bad) = z := ⟨_, rfl⟩
  obtain ⟨zo, hzo⟩ : ∃ z, (p.opn || q.opn) = z := ⟨_, rfl⟩
  obtain ⟨s1, hs1⟩ : ∃ z, (p.kind == 2 || p.kind == 3) = z := ⟨_, rfl⟩
  obtain ⟨s2, hs2⟩ : ∃ z, (q.kind == 1 || q.kind == 6) = z := ⟨_, rfl⟩
  obtain ⟨s3, hs3⟩ : ∃ z, (q.kind == 2 || q.kind == 3) = z := ⟨_, rfl⟩
  obtain ⟨d1, hd1⟩ : ∃ z, dpB s1 p.deep = z := ⟨_, rfl⟩
  obtain ⟨d2, hd2⟩ : ∃ z, dpB (!s2) q.deep = z := ⟨_, rfl⟩
  obtain ⟨d3, hd3⟩ : ∃ z, dpB s3 q.deep = z := ⟨_, rfl⟩
  have Hs1 := hid (fun w => (show Calls Try.prog 77 #[.agg p.arr] w (RetBl w s1) from hs1 ▸ sum_any p))
  have Hs2 := hid (fun w => (show Calls Try.prog 76 #[.agg q.arr] w (RetBl w s2) from hs2 ▸ single_any q))
  have Hs3 := hid (fun w => (show Calls Try.prog 77 #[.agg q.arr] w (RetBl w s3) from hs3 ▸ sum_any q))
  have Hw1 := hid (fun w => (show Calls Try.prog 75 #[.agg p.arr, .bool s1] w (RetIb w d1) from hd1 ▸ within_any p s1 hp0 (by omega)))
  have Hw2 := hid (fun w => (show Calls Try.prog 75 #[.agg q.arr, .bool (!s2)] w (RetIb w d2) from hd2 ▸ within_any q (!s2) hq0 (by omega)))
  have Hw3 := hid (fun w => (show Calls Try.prog 75 #[.agg q.arr, .bool s3] w (RetIb w d3) from hd3 ▸ within_any q s3 hq0 (by omega)))
  obtain ⟨dd, hdd⟩ : ∃ z, mxI p.deep d3 = z := ⟨_, rfl⟩
  have hdm := hid (mxI_eq p.deep d3)
  have hde := hid (show dpJ 2 P Q = dd by unfold dpJ; rw [if_neg (by decide), ← hp.deep, ← hq.deep, ← hq.kind, hs3, hd3]; exact hdd)
  have hdd1 := hid hdd
  have hzb1 := hid hzb
  have hzo1 := hid hzo
  clear hp hq hP hQ hN h0 h1 h2 h3 hdd hzb hzo hs1 hs2 hs3 hd1 hd2 hd3
  have hent := ent3 w p.arr q.arr #[Value.int .i8 0, Value.int .i64 0, Value.bool false, Value.slice none 0 0, Value.slice none 0 0, Value.bool false, Value.bool false, Value.bool false, Value.slice none 0 0, Value.slice none 0 0, Value.bool false, Value.slice none 0 0, Value.slice none 0 0, Value.bool false, Value.slice none 0 0, Value.slice none 0 0, Value.bool false, Value.slice none 0 0, Value.slice none 0 0] 67 67 67
  go_enter Try.func67, Try.ntmps67
  go_upto_region 1 with fail
  generalize (((w.alloc (.cells p.arr 67)).alloc (.cells q.arr 67)).alloc (.cells #[Value.int .i8 0, Value.int .i64 0, Value.bool false, Value.slice none 0 0, Value.slice none 0 0, Value.bool false, Value.bool false, Value.bool false, Value.slice none 0 0, Value.slice none 0 0, Value.bool false, Value.slice none 0 0, Value.slice none 0 0, Value.bool false, Value.slice none 0 0, Value.slice none 0 0, Value.bool false, Value.slice none 0 0, Value.slice none 0 0] 67)) = W0 at hent ⊢
  obtain ⟨X_0, Y_0, R0_0, hbel_0, hsz_0⟩ := hent
  have R1_0 : Blk W0 (w.heap.size + 1 + 1) PX.o.arr := R0_0
  clear R0_0
  go_cut [7] (fun s7 wx => ∃ g, s7 = .pointer (some ⟨g, 0, none⟩) ∧ Blk wx g ({PX.o with kind := 2, bad := zb, opn := zo} : PX).arr ∧ W0.heap.size ≤ g ∧ Below W0.heap.size W0 wx)
  case first =>
    have hzb2 := hzb1.out
    have hzo2 := hzo1.out
    clear Hs1 Hs2 Hs3 Hw1 Hw2 Hw3 hdm hde hdd1 hNN hpp hqq hPP hQQ
    cases hpb : p.bad <;> cases hpo : p.opn
    · rw [hpb] at hzb2; rw [hpo] at hzo2; simp only [Bool.false_or, Bool.true_or] at hzb2 hzo2
      have cX_0_5 : _ = some (Value.bool p.bad) := X_0.cell 5
      have fX_0_5 := X_0.free 5
      have cX_0_6 : _ = some (Value.bool p.opn) := X_0.cell 6
      have fX_0_6 := X_0.free 6
      rw [hpb] at cX_0_5; rw [hpo] at cX_0_6
      have cY_0_5 : _ = some (Value.bool q.bad) := Y_0.cell 5
      rw [hzb2] at cY_0_5
      have cY_0_6 : _ = some (Value.bool q.opn) := Y_0.cell 6
      rw [hzo2] at cY_0_6
      have hnew : Blk (W0.alloc (.cells #[Value.int .i8 0, Value.int .i64 0, Value.bool false, Value.slice none 0 0, Value.slice none 0 0, Value.bool false, Value.bool false, Value.bool false, Value.slice none 0 0, Value.slice none 0 0, Value.bool false, Value.slice none 0 0, Value.slice none 0 0, Value.bool false, Value.slice none 0 0, Value.slice none 0 0, Value.bool false, Value.slice none 0 0, Value.slice none 0 0] 67)) W0.heap.size PX.o.arr := blk_new _ _ _
      have hbn := (Below.refl W0.heap.size W0).alloc (Nat.le_refl _) (.cells #[Value.int .i8 0, Value.int .i64 0, Value.bool false, Value.slice none 0 0, Value.slice none 0 0, Value.bool false, Value.bool false, Value.bool false, Value.slice none 0 0, Value.slice none 0 0, Value.bool false, Value.slice none 0 0, Value.slice none 0 0, Value.bool false, Value.slice none 0 0, Value.slice none 0 0, Value.bool false, Value.slice none 0 0, Value.slice none 0 0] 67)
      go_wp2_with (refine BigFrame.wpList_want (by rfl) (fun Kq hKq => wp_storeP (p := ({PX.o with kind := 2, bad := zb, opn := zo} : PX)) (q := PX.o) _ _ rfl rfl rfl hnew (fun ws hbs hks => hKq _ _ ?_)))
      go_wp2_with fail
      go_meet
      exact ⟨_, rfl, hbs, by omega, hbn.kp hks hbn.size (fun j hj (e : j = _) => by omega)⟩
    · rw [hpb] at hzb2; rw [hpo] at hzo2; simp only [Bool.false_or, Bool.true_or] at hzb2 hzo2
      subst hzo2
      have cX_0_5 : _ = some (Value.bool p.bad) := X_0.cell 5
      have fX_0_5 := X_0.free 5
      have cX_0_6 : _ = some (Value.bool p.opn) := X_0.cell 6
      have fX_0_6 := X_0.free 6
      rw [hpb] at cX_0_5; rw [hpo] at cX_0_6
      have cY_0_5 : _ = some (Value.bool q.bad) := Y_0.cell 5
      rw [hzb2] at cY_0_5
      have hnew : Blk (W0.alloc (.cells #[Value.int .i8 0, Value.int .i64 0, Value.bool false, Value.slice none 0 0, Value.slice none 0 0, Value.bool false, Value.bool false, Value.bool false, Value.slice none 0 0, Value.slice none 0 0, Value.bool false, Value.slice none 0 0, Value.slice none 0 0, Value.bool false, Value.slice none 0 0, Value.slice none 0 0, Value.bool false, Value.slice none 0 0, Value.slice none 0 0] 67)) W0.heap.size PX.o.arr := blk_new _ _ _
      have hbn := (Below.refl W0.heap.size W0).alloc (Nat.le_refl _) (.cells #[Value.int .i8 0, Value.int .i64 0, Value.bool false, Value.slice none 0 0, Value.slice none 0 0, Value.bool false, Value.bool false, Value.bool false, Value.slice none 0 0, Value.slice none 0 0, Value.bool false, Value.slice none 0 0, Value.slice none 0 0, Value.bool false, Value.slice none 0 0, Value.slice none 0 0, Value.bool false, Value.slice none 0 0, Value.slice none 0 0] 67)
      go_wp2_with (refine BigFrame.wpList_want (by rfl) (fun Kq hKq => wp_storeP (p := ({PX.o with kind := 2, bad := zb, opn := true} : PX)) (q := PX.o) _ _ rfl rfl rfl hnew (fun ws hbs hks => hKq _ _ ?_)))
      go_wp2_with fail
      go_meet
      exact ⟨_, rfl, hbs, by omega, hbn.kp hks hbn.size (fun j hj (e : j = _) => by omega)⟩
    · rw [hpb] at hzb2; rw [hpo] at hzo2; simp only [Bool.false_or, Bool.true_or] at hzb2 hzo2
      subst hzb2
      have cX_0_5 : _ = some (Value.bool p.bad) := X_0.cell 5
      have fX_0_5 := X_0.free 5
      have cX_0_6 : _ = some (Value.bool p.opn) := X_0.cell 6
      have fX_0_6 := X_0.free 6
      rw [hpb] at cX_0_5; rw [hpo] at cX_0_6
      have cY_0_6 : _ = some (Value.bool q.opn) := Y_0.cell 6
      rw [hzo2] at cY_0_6
      have hnew : Blk (W0.alloc (.cells #[Value.int .i8 0, Value.int .i64 0, Value.bool false, Value.slice none 0 0, Value.slice none 0 0, Value.bool false, Value.bool false, Value.bool false, Value.slice none 0 0, Value.slice none 0 0, Value.bool false, Value.slice none 0 0, Value.slice none 0 0, Value.bool false, Value.slice none 0 0, Value.slice none 0 0, Value.bool false, Value.slice none 0 0, Value.slice none 0 0] 67)) W0.heap.size PX.o.arr := blk_new _ _ _
      have hbn := (Below.refl W0.heap.size W0).alloc (Nat.le_refl _) (.cells #[Value.int .i8 0, Value.int .i64 0, Value.bool false, Value.slice none 0 0, Value.slice none 0 0, Value.bool false, Value.bool false, Value.bool false, Value.slice none 0 0, Value.slice none 0 0, Value.bool false, Value.slice none 0 0, Value.slice none 0 0, Value.bool false, Value.slice none 0 0, Value.slice none 0 0, Value.bool false, Value.slice none 0 0, Value.slice none 0 0] 67)
      go_wp2_with (refine BigFrame.wpList_want (by rfl) (fun Kq hKq => wp_storeP (p := ({PX.o with kind := 2, bad := true, opn := zo} : PX)) (q := PX.o) _ _ rfl rfl rfl hnew (fun ws hbs hks => hKq _ _ ?_)))
      go_wp2_with fail
      go_meet
      exact ⟨_, rfl, hbs, by omega, hbn.kp hks hbn.size (fun j hj (e : j = _) => by omega)⟩
    · rw [hpb] at hzb2; rw [hpo] at hzo2; simp only [Bool.false_or, Bool.true_or] at hzb2 hzo2
      subst hzb2
      subst hzo2
      have cX_0_5 : _ = some (Value.bool p.bad) := X_0.cell 5
      have fX_0_5 := X_0.free 5
      have cX_0_6 : _ = some (Value.bool p.opn) := X_0.cell 6
      have fX_0_6 := X_0.free 6
      rw [hpb] at cX_0_5; rw [hpo] at cX_0_6
      have hnew : Blk (W0.alloc (.cells #[Value.int .i8 0, Value.int .i64 0, Value.bool false, Value.slice none 0 0, Value.slice none 0 0, Value.bool false, Value.bool false, Value.bool false, Value.slice none 0 0, Value.slice none 0 0, Value.bool false, Value.slice none 0 0, Value.slice none 0 0, Value.bool false, Value.slice none 0 0, Value.slice none 0 0, Value.bool false, Value.slice none 0 0, Value.slice none 0 0] 67)) W0.heap.size PX.o.arr := blk_new _ _ _
      have hbn := (Below.refl W0.heap.size W0).alloc (Nat.le_refl _) (.cells #[Value.int .i8 0, Value.int .i64 0, Value.bool false, Value.slice none 0 0, Value.slice none 0 0, Value.bool false, Value.bool false, Value.bool false, Value.slice none 0 0, Value.slice none 0 0, Value.bool false, Value.slice none 0 0, Value.slice none 0 0, Value.bool false, Value.slice none 0 0, Value.slice none 0 0, Value.bool false, Value.slice none 0 0, Value.slice none 0 0] 67)
      go_wp2_with (refine BigFrame.wpList_want (by rfl) (fun Kq hKq => wp_storeP (p := ({PX.o with kind := 2, bad := true, opn := true} : PX)) (q := PX.o) _ _ rfl rfl rfl hnew (fun ws hbs hks => hKq _ _ ?_)))
      go_wp2_with fail
      go_meet
      exact ⟨_, rfl, hbs, by omega, hbn.kp hks hbn.size (fun j hj (e : j = _) => by omega)⟩
  case rest =>
    obtain ⟨gz, rfl, hbz, hge, hBc⟩ := hcut
    have hB_1 : Below W0.heap.size W0 wc := hBc
    have X_1 := X_0.next hB_1
    have Y_1 := Y_0.next hB_1
    have R1_1 := R1_0.next hB_1
    have hbel_1 := hbel_0.next hB_1
    have hsz_1 := hB_1.size
    clear X_0 Y_0 R1_0 hbel_0 hB_1
    clear hBc
    obtain ⟨wd, hwc⟩ : ∃ y : World, y = wc := ⟨_, rfl⟩
    subst hwc
    have Z_1 := hbz
    clear hbz
    skip
    go_wp2_with fail
    go_cut [] (fun wx => Blk wx gz ({PX.o with kind := 2, bad := zb, opn := zo, deep := dd} : PX).arr ∧ Kp (fun j => j = gz) wd wx)
    case first =>
      have hbAcc_1 : Below wd.heap.size wd wd := Below.refl _ _
      go_wp2_with fail
      have hB : Below wd.heap.size wd wd.drew := (Below.refl _ _).drew
      have hB_2 : Below wd.heap.size wd wd.drew := hB
      have X_2 := X_1.next hB_2
      have Y_2 := Y_1.next hB_2
      have R1_2 := R1_1.next hB_2
      have Z_2 := Z_1.next hB_2
      have hbAcc_2 := hbAcc_1.next hB_2
      have hbel_2 := hbel_1.next hB_2
      have hsz_2 := hB_2.size
      clear X_1 Y_1 R1_1 Z_1 hbAcc_1 hbel_1 hB_2
      clear hB
      refine wp_region_noPanic ?_
      refine D_region (S := (fun w' => Blk w' (w.heap.size) p.arr ∧ Blk w' (w.heap.size + 1) q.arr)) (T := [8]) (by kernel_rfl) ⟨X_2, Y_2⟩ (fun hHeld => ?_)
      clear hHeld
      generalize wd.drew = vd2 at *
      refine D_pure (i := 0) (d := some 40) (v := (.pointer (some ⟨w.heap.size, 1, none⟩))) rfl rfl (by kernel_rfl) (by kernel_rfl) (by kernel_rfl) (fun _ _ _ h => h) (by rfl) (fun _ => by go_simp) ?_
      (try simp only [Act.put, List.setIfInBounds_toArray, List.set_cons_zero, List.set_cons_succ])
      refine D_load (i := 1) (d := some 41) (v := Value.int .i64 p.deep) [1, 2, 3] rfl rfl (by kernel_rfl) (by kernel_rfl) (by kernel_rfl) (by kernel_rfl) (by kernel_rfl) (by kernel_rfl) (fun _ _ _ h => h) (by rfl) (fun w hSw => by (obtain ⟨b0, b1⟩ := hSw); have l0 : _ = some (Value.int .i64 p.deep) := b0.cell (1); (clear b0 b1); go_simp) ⟨X_2, Y_2⟩ ?_
      (try simp only [Act.put, List.setIfInBounds_toArray, List.set_cons_zero, List.set_cons_succ])
      refine D_load (i := 2) (d := some 42) (v := (.agg q.arr)) [1, 2, 3] rfl rfl (by kernel_rfl) (by kernel_rfl) (by kernel_rfl) (by kernel_rfl) (by kernel_rfl) (by kernel_rfl) (fun _ _ _ h => h) (by rfl) (fun w hSw => by (obtain ⟨b0, b1⟩ := hSw); exact exec_loadB 67 _ rfl rfl b1 Try.underlying67 rfl (by kernel_rfl)) ⟨X_2, Y_2⟩ ?_
      (try simp only [Act.put, List.setIfInBounds_toArray, List.set_cons_zero, List.set_cons_succ])
      refine D_load (i := 3) (d := some 43) (v := (.agg q.arr)) [1, 2, 3] rfl rfl (by kernel_rfl) (by kernel_rfl) (by kernel_rfl) (by kernel_rfl) (by kernel_rfl) (by kernel_rfl) (fun _ _ _ h => h) (by rfl) (fun w hSw => by (obtain ⟨b0, b1⟩ := hSw); exact exec_loadB 67 _ rfl rfl b1 Try.underlying67 rfl (by kernel_rfl)) ⟨X_2, Y_2⟩ ?_
      (try simp only [Act.put, List.setIfInBounds_toArray, List.set_cons_zero, List.set_cons_succ])
      refine D_one (i := 4) (by kernel_rfl) rfl (fun Kq hKq => ?_)
      go_simp
      refine (Hs3.out _).mono ?_
      rintro e w3 ⟨rfl, hB⟩
      have hB_3 : Below vd2.heap.size vd2 w3 := (bl.next hB)
      have X_3 := X_2.next hB_3
      have Y_3 := Y_2.next hB_3
      have R1_3 := R1_2.next hB_3
      have Z_3 := Z_2.next hB_3
      have hbAcc_3 := hbAcc_2.next hB_3
      have hbel_3 := hbel_2.next hB_3
      have hsz_3 := hB_3.size
      clear X_2 Y_2 R1_2 Z_2 hbAcc_2 hbel_2 hB_3
      try clear hB
      (try go_wp2_with fail)
      refine hKq.out _ _ ⟨X_3, Y_3⟩ (fun hHeld => ?_)
      clear hHeld hKq Kq
      (try simp only [Act.put, List.setIfInBounds_toArray, List.set_cons_zero, List.set_cons_succ])
      refine D_one (i := 5) (by kernel_rfl) rfl (fun Kq hKq => ?_)
      go_simp
      refine (Hw3.out _).mono ?_
      rintro e w4 ⟨rfl, hB⟩
      have hB_4 : Below w3.heap.size w3 w4 := (bl.next hB)
      have X_4 := X_3.next hB_4
      have Y_4 := Y_3.next hB_4
      have R1_4 := R1_3.next hB_4
      have Z_4 := Z_3.next hB_4
      have hbAcc_4 := hbAcc_3.next hB_4
      have hbel_4 := hbel_3.next hB_4
      have hsz_4 := hB_4.size
      clear X_3 Y_3 R1_3 Z_3 hbAcc_3 hbel_3 hB_4
      try clear hB
      (try go_wp2_with fail)
      refine hKq.out _ _ ⟨X_4, Y_4⟩ (fun hHeld => ?_)
      clear hHeld hKq Kq
      (try simp only [Act.put, List.setIfInBounds_toArray, List.set_cons_zero, List.set_cons_succ])
      refine D_pure (i := 6) (d := some 46) (v := (.int .i64 dd)) rfl rfl (by kernel_rfl) (by kernel_rfl) (by kernel_rfl) (fun _ _ _ h => h) (by rfl) (fun _ => by have h9 := hdm.out; rw [hdd1.out] at h9; go_simp) ?_
      (try simp only [Act.put, List.setIfInBounds_toArray, List.set_cons_zero, List.set_cons_succ])
      refine D_pure (i := 7) (d := some 47) (v := (.pointer (some ⟨gz, 1, none⟩))) rfl rfl (by kernel_rfl) (by kernel_rfl) (by kernel_rfl) (fun _ _ _ h => h) (by rfl) (fun _ => by go_simp) ?_
      (try simp only [Act.put, List.setIfInBounds_toArray, List.set_cons_zero, List.set_cons_succ])
      have cZ_4_1 : _ = some (Value.int .i64 ({PX.o with kind := 2, bad := zb, opn := zo} : PX).deep) := Z_4.cell 1
      have fZ_4_1 := Z_4.free 1
      refine D_late (i := 8) (by kernel_rfl) rfl (by kernel_rfl) (fun Kq hKq => ?_)
      go_simp
      refine hKq.out _ _ ?_
      clear hKq Kq
      (try simp only [Act.put, List.setIfInBounds_toArray, List.set_cons_zero, List.set_cons_succ])
      refine D_done (by kernel_rfl) ?_ _
      refine NoPanic.normal ?_
      go_wp2_with fail
      go_meet
      exact ⟨part_put1 Z_4 dd, kp_put1 (q := fun j => j = gz) (kp_of_below hbAcc_4) rfl _ _⟩
    case rest =>
      obtain ⟨hbk, hks0⟩ := hcut
      have Z_2 := hbk
      have X_2 := X_1.kp hks0 (show ¬ (w.heap.size = gz) by omega)
      have Y_2 := Y_1.kp hks0 (show ¬ (w.heap.size + 1 = gz) by omega)
      have R1_2 := R1_1.kp hks0 (show ¬ (w.heap.size + 1 + 1 = gz) by omega)
      have hbel_2 := hbel_1.kp hks0 hbel_1.size (fun j hj (e : j = gz) => by omega)
      have hsz_2 := hks0.size
      clear hbk hks0 hbel_1 X_1 Y_1 R1_1 Z_1
      obtain ⟨wv, hwc⟩ : ∃ y : World, y = wc := ⟨_, rfl⟩
      subst hwc
      have cz : _ = some (Value.bool zb) := Z_2.cell 5
      cases zb
      ·
        have cx : _ = some (Value.bool p.opn) := X_2.cell 6
        cases hpo : p.opn
        case true =>
          rw [hpo] at cx
          obtain ⟨F1, hF1⟩ : ∃ z, (rgtV 2 P.L Q.v).1 = z := ⟨_, rfl⟩
          obtain ⟨bb, hbb⟩ : ∃ z, (rgtV 2 P.L Q.v).2 = z := ⟨_, rfl⟩
          have hF1 := hid hF1
          have hbb := hid hbb
          have cX_2_2 : _ = some (Value.bool p.v.s) := X_2.cell 2
          have fX_2_2 := X_2.free 2
          have cX_2_3 : _ = some (Value.slice p.v.a p.v.n p.v.c) := X_2.cell 3
          have fX_2_3 := X_2.free 3
          have cX_2_4 : _ = some (Value.slice p.v.b p.v.m p.v.d) := X_2.cell 4
          have fX_2_4 := X_2.free 4
          have cY_2_2 : _ = some (Value.bool q.v.s) := Y_2.cell 2
          have fY_2_2 := Y_2.free 2
          have cY_2_3 : _ = some (Value.slice q.v.a q.v.n q.v.c) := Y_2.cell 3
          have fY_2_3 := Y_2.free 3
          have cY_2_4 : _ = some (Value.slice q.v.b q.v.m q.v.d) := Y_2.cell 4
          have fY_2_4 := Y_2.free 4
          have hzl := Z_2.lt
          go_wp2_with (refine BigFrame.wpList_want (by rfl) (fun Kq hKq => wp_loadPL _ rfl rfl X_2 (hKq _ _ ?_)))
          refine (show Calls _ _ _ _ (RetLine (fun g => (N g ∧ g ≠ w.heap.size + 1 + 1) ∧ g ≠ gz) _ F1 (erB bb)) by (have h := rgt_any (N := (fun g => (N g ∧ g ≠ w.heap.size + 1 + 1) ∧ g ≠ gz)) (show Kd 2 by unfold Kd; omega) ((hpp.out.L.mono (M := (fun g => (N g ∧ g ≠ w.heap.size + 1 + 1) ∧ g ≠ gz)) (fun g hg hn => ⟨⟨hn, by omega⟩, by omega⟩)).below hbel_2) hPP.out.L ((hqq.out.v.below hbel_2).rdQ hQQ.out.v) hQQ.out.v hJ hJ hJ1 (fun g hg => ⟨⟨hNN.out g (by omega), by omega⟩, by omega⟩)); (rw [hF1.out, hbb.out] at h); exact h).mono ?_
          rintro e w3 ⟨f, rfl, hL, hB⟩
          have hB_3 : Below wv.heap.size wv w3 := (bl.next hB)
          have X_3 := X_2.next hB_3
          have Y_3 := Y_2.next hB_3
          have R1_3 := R1_2.next hB_3
          have Z_3 := Z_2.next hB_3
          have hbel_3 := hbel_2.next hB_3
          have hsz_3 := hB_3.size
          clear X_2 Y_2 R1_2 Z_2 hbel_2 hB_3
          clear cX_2_2 fX_2_2 cX_2_3 fX_2_3 cX_2_4 fX_2_4 cY_2_2 fY_2_2 cY_2_3 fY_2_3 cY_2_4 fY_2_4
          have hLL := hid hL
          clear hL
          try clear hB
          have he1 : (erB bb == 0) = !bb := by cases bb <;> rfl
          have he2 : (erB bb != 0) = bb := by cases bb <;> rfl
          have he3 : decide (erB bb = 0) = !bb := by cases bb <;> rfl
          clear cx cz
          go_wp2_with (first | (refine BigFrame.wpList_want (by rfl) (fun Kq hKq => wp_storePL (f := f) (q := ({PX.o with kind := 2, bad := false, opn := zo, deep := dd} : PX)) _ _ rfl rfl rfl Z_3 (fun ws hbs hks => hKq _ _ ?_)); have hbs : Blk ws gz ({PX.o with kind := 2, bad := false, opn := zo, deep := dd, A := f.A, B := f.B, C := f.C, D := f.D} : PX).arr := hbs; have cb : ws.cell? ⟨gz, 5, none⟩ = some (Value.bool false) := hbs.cell 5; have fb := hbs.free 5; have hb5 : Blk (ws.setCell ⟨gz, 5, none⟩ (.bool bb)) gz ({PX.o with kind := 2, bad := bb, opn := zo, deep := dd, A := f.A, B := f.B, C := f.C, D := f.D} : PX).arr := part_put5 hbs bb; have hk5 := hks.kp (kp_put1 (Kp.refl (fun j => j = gz) ws) rfl 5 (.bool bb)) (fun j hj e => .inl e); have hr5 := R1_3.kp hk5 (show ¬ (w.heap.size + 1 + 1 = gz) by omega); have hbl5 := hbel_3.kp hk5 hbel_3.size (fun j hj (e : j = gz) => by omega); have hL5 := hid (hLL.out.kp hk5 (fun j (e : j = gz) hn => hn.2 e))) | refine BigFrame.wpList_want (by rfl) (fun Kq hKq => wp_loadP _ rfl rfl hb5 (hKq _ _ ?_)) | refine BigFrame.wpList_want (by rfl) (fun Kq hKq => wp_storeP (p := ({PX.o with kind := 2, bad := bb, opn := zo, deep := dd, A := f.A, B := f.B, C := f.C, D := f.D} : PX)) _ _ rfl rfl rfl hr5 (fun wt hbt hkt => hKq _ _ ?_)))
          have hbl := hbl5.kp hkt hbl5.size (fun j hj (e : j = _) => by omega)
          go_wp2_with fail
          refine bodyPost_ret (res_blk Try.results67 rfl hbt Try.underlying67 rfl (by kernel_rfl)) rfl ?_
          have hjv : joinV 2 P Q = ⟨2, dd, 0, bb, true, F1⟩ := by
            unfold joinV; rw [← hpp.out.bad, ← hqq.out.bad, hzb1.out, ← hpp.out.opn, ← hqq.out.opn]
            rw [if_neg (by decide), hpo, if_pos rfl, hde.out]
            rw [hF1.out, hbb.out]
          rw [hjv]
          exact ⟨({PX.o with kind := 2, bad := bb, opn := zo, deep := dd, A := f.A, B := f.B, C := f.C, D := f.D} : PX), rfl, ⟨rfl, rfl, rfl, (show zo = true by rw [← hzo1.out, hpo]; rfl), FA.o N _, (fun _ h => by cases h), ((hL5.out.kp hkt (fun j (e : j = _) hn => hn.1.2 e)).mono (fun g _ hn => hn.1.1))⟩, hbl⟩
        case false =>
          rw [hpo] at cx
          have cy : _ = some (Value.bool q.opn) := Y_2.cell 6
          cases hqo : q.opn
          case true =>
            rw [hqo] at cy
            obtain ⟨F1, hF1⟩ : ∃ z, (lftV 2 Q.L P.v).1 = z := ⟨_, rfl⟩
            obtain ⟨bb, hbb⟩ : ∃ z, (lftV 2 Q.L P.v).2 = z := ⟨_, rfl⟩
            have hF1 := hid hF1
            have hbb := hid hbb
            have cX_2_2 : _ = some (Value.bool p.v.s) := X_2.cell 2
            have fX_2_2 := X_2.free 2
            have cX_2_3 : _ = some (Value.slice p.v.a p.v.n p.v.c) := X_2.cell 3
            have fX_2_3 := X_2.free 3
            have cX_2_4 : _ = some (Value.slice p.v.b p.v.m p.v.d) := X_2.cell 4
            have fX_2_4 := X_2.free 4
            have cY_2_2 : _ = some (Value.bool q.v.s) := Y_2.cell 2
            have fY_2_2 := Y_2.free 2
            have cY_2_3 : _ = some (Value.slice q.v.a q.v.n q.v.c) := Y_2.cell 3
            have fY_2_3 := Y_2.free 3
            have cY_2_4 : _ = some (Value.slice q.v.b q.v.m q.v.d) := Y_2.cell 4
            have fY_2_4 := Y_2.free 4
            have hzl := Z_2.lt
            go_wp2_with (refine BigFrame.wpList_want (by rfl) (fun Kq hKq => wp_loadPL _ rfl rfl Y_2 (hKq _ _ ?_)))
            refine (show Calls _ _ _ _ (RetLine (fun g => (N g ∧ g ≠ w.heap.size + 1 + 1) ∧ g ≠ gz) _ F1 (erB bb)) by (have h := lft_any (N := (fun g => (N g ∧ g ≠ w.heap.size + 1 + 1) ∧ g ≠ gz)) (show Kd 2 by unfold Kd; omega) ((hqq.out.L.mono (M := (fun g => (N g ∧ g ≠ w.heap.size + 1 + 1) ∧ g ≠ gz)) (fun g hg hn => ⟨⟨hn, by omega⟩, by omega⟩)).below hbel_2) hQQ.out.L ((hpp.out.v.below hbel_2).rdQ hPP.out.v) hPP.out.v hJ hJ (fun g hg => ⟨⟨hNN.out g (by omega), by omega⟩, by omega⟩)); (rw [hF1.out, hbb.out] at h); exact h).mono ?_
            rintro e w3 ⟨f, rfl, hL, hB⟩
            have hB_3 : Below wv.heap.size wv w3 := (bl.next hB)
            have X_3 := X_2.next hB_3
            have Y_3 := Y_2.next hB_3
            have R1_3 := R1_2.next hB_3
            have Z_3 := Z_2.next hB_3
            have hbel_3 := hbel_2.next hB_3
            have hsz_3 := hB_3.size
            clear X_2 Y_2 R1_2 Z_2 hbel_2 hB_3
            clear cX_2_2 fX_2_2 cX_2_3 fX_2_3 cX_2_4 fX_2_4 cY_2_2 fY_2_2 cY_2_3 fY_2_3 cY_2_4 fY_2_4
            have hLL := hid hL
            clear hL
            try clear hB
            have he1 : (erB bb == 0) = !bb := by cases bb <;> rfl
            have he2 : (erB bb != 0) = bb := by cases bb <;> rfl
            have he3 : decide (erB bb = 0) = !bb := by cases bb <;> rfl
            clear cx cz
            go_wp2_with (first | (refine BigFrame.wpList_want (by rfl) (fun Kq hKq => wp_storePL (f := f) (q := ({PX.o with kind := 2, bad := false, opn := zo, deep := dd} : PX)) _ _ rfl rfl rfl Z_3 (fun ws hbs hks => hKq _ _ ?_)); have hbs : Blk ws gz ({PX.o with kind := 2, bad := false, opn := zo, deep := dd, A := f.A, B := f.B, C := f.C, D := f.D} : PX).arr := hbs; have cb : ws.cell? ⟨gz, 5, none⟩ = some (Value.bool false) := hbs.cell 5; have fb := hbs.free 5; have hb5 : Blk (ws.setCell ⟨gz, 5, none⟩ (.bool bb)) gz ({PX.o with kind := 2, bad := bb, opn := zo, deep := dd, A := f.A, B := f.B, C := f.C, D := f.D} : PX).arr := part_put5 hbs bb; have hk5 := hks.kp (kp_put1 (Kp.refl (fun j => j = gz) ws) rfl 5 (.bool bb)) (fun j hj e => .inl e); have hr5 := R1_3.kp hk5 (show ¬ (w.heap.size + 1 + 1 = gz) by omega); have hbl5 := hbel_3.kp hk5 hbel_3.size (fun j hj (e : j = gz) => by omega); have hL5 := hid (hLL.out.kp hk5 (fun j (e : j = gz) hn => hn.2 e))) | refine BigFrame.wpList_want (by rfl) (fun Kq hKq => wp_loadP _ rfl rfl hb5 (hKq _ _ ?_)) | refine BigFrame.wpList_want (by rfl) (fun Kq hKq => wp_storeP (p := ({PX.o with kind := 2, bad := bb, opn := zo, deep := dd, A := f.A, B := f.B, C := f.C, D := f.D} : PX)) _ _ rfl rfl rfl hr5 (fun wt hbt hkt => hKq _ _ ?_)))
            have hbl := hbl5.kp hkt hbl5.size (fun j hj (e : j = _) => by omega)
            go_wp2_with fail
            refine bodyPost_ret (res_blk Try.results67 rfl hbt Try.underlying67 rfl (by kernel_rfl)) rfl ?_
            have hjv : joinV 2 P Q = ⟨2, dd, 0, bb, true, F1⟩ := by
              unfold joinV; rw [← hpp.out.bad, ← hqq.out.bad, hzb1.out, ← hpp.out.opn, ← hqq.out.opn]
              rw [if_neg (by decide), hpo, if_neg (by decide), hqo, if_pos rfl, hde.out]
              rw [hF1.out, hbb.out]
            rw [hjv]
            exact ⟨({PX.o with kind := 2, bad := bb, opn := zo, deep := dd, A := f.A, B := f.B, C := f.C, D := f.D} : PX), rfl, ⟨rfl, rfl, rfl, (show zo = true by rw [← hzo1.out, hpo, hqo]; rfl), FA.o N _, (fun _ h => by cases h), ((hL5.out.kp hkt (fun j (e : j = _) hn => hn.1.2 e)).mono (fun g _ hn => hn.1.1))⟩, hbl⟩
          case false =>
            rw [hqo] at cy
            obtain ⟨F1, hF1⟩ : ∃ z, (bthV 2 P.v Q.v).1 = z := ⟨_, rfl⟩
            obtain ⟨bb, hbb⟩ : ∃ z, (bthV 2 P.v Q.v).2 = z := ⟨_, rfl⟩
            have hF1 := hid hF1
            have hbb := hid hbb
            have cX_2_2 : _ = some (Value.bool p.v.s) := X_2.cell 2
            have fX_2_2 := X_2.free 2
            have cX_2_3 : _ = some (Value.slice p.v.a p.v.n p.v.c) := X_2.cell 3
            have fX_2_3 := X_2.free 3
            have cX_2_4 : _ = some (Value.slice p.v.b p.v.m p.v.d) := X_2.cell 4
            have fX_2_4 := X_2.free 4
            have cY_2_2 : _ = some (Value.bool q.v.s) := Y_2.cell 2
            have fY_2_2 := Y_2.free 2
            have cY_2_3 : _ = some (Value.slice q.v.a q.v.n q.v.c) := Y_2.cell 3
            have fY_2_3 := Y_2.free 3
            have cY_2_4 : _ = some (Value.slice q.v.b q.v.m q.v.d) := Y_2.cell 4
            have fY_2_4 := Y_2.free 4
            have hzl := Z_2.lt
            go_wp2_with (fail)
            refine (show Calls _ _ _ _ (RetBoth (fun g => (N g ∧ g ≠ w.heap.size + 1 + 1) ∧ g ≠ gz) _ F1 bb) by (have h := bth_any (N := (fun g => (N g ∧ g ≠ w.heap.size + 1 + 1) ∧ g ≠ gz)) (show Kd 2 by unfold Kd; omega) ((hpp.out.v.below hbel_2).rdQ hPP.out.v) hJ ((hqq.out.v.below hbel_2).rdQ hQQ.out.v) hJ (fun g hg => ⟨⟨hNN.out g (by omega), by omega⟩, by omega⟩)); (rw [hF1.out, hbb.out] at h); exact h).mono ?_
            rintro e w3 ⟨f, rfl, hL, hL2, hB⟩
            have hB_3 : Below wv.heap.size wv w3 := (bl.next hB)
            have X_3 := X_2.next hB_3
            have Y_3 := Y_2.next hB_3
            have R1_3 := R1_2.next hB_3
            have Z_3 := Z_2.next hB_3
            have hbel_3 := hbel_2.next hB_3
            have hsz_3 := hB_3.size
            clear X_2 Y_2 R1_2 Z_2 hbel_2 hB_3
            clear cX_2_2 fX_2_2 cX_2_3 fX_2_3 cX_2_4 fX_2_4 cY_2_2 fY_2_2 cY_2_3 fY_2_3 cY_2_4 fY_2_4
            have hLL := hid hL
            have hLN := hid hL2
            clear hL hL2
            try clear hB
            have he1 : (erB bb == 0) = !bb := by cases bb <;> rfl
            have he2 : (erB bb != 0) = bb := by cases bb <;> rfl
            have he3 : decide (erB bb = 0) = !bb := by cases bb <;> rfl
            clear cx cz
            have cZ_3_2 : _ = some (Value.bool ({PX.o with kind := 2, bad := false, opn := zo, deep := dd} : PX).v.s) := Z_3.cell 2
            have fZ_3_2 := Z_3.free 2
            have cZ_3_3 : _ = some (Value.slice ({PX.o with kind := 2, bad := false, opn := zo, deep := dd} : PX).v.a ({PX.o with kind := 2, bad := false, opn := zo, deep := dd} : PX).v.n ({PX.o with kind := 2, bad := false, opn := zo, deep := dd} : PX).v.c) := Z_3.cell 3
            have fZ_3_3 := Z_3.free 3
            have cZ_3_4 : _ = some (Value.slice ({PX.o with kind := 2, bad := false, opn := zo, deep := dd} : PX).v.b ({PX.o with kind := 2, bad := false, opn := zo, deep := dd} : PX).v.m ({PX.o with kind := 2, bad := false, opn := zo, deep := dd} : PX).v.d) := Z_3.cell 4
            have fZ_3_4 := Z_3.free 4
            have cZ_3_5 : _ = some (Value.bool ({PX.o with kind := 2, bad := false, opn := zo, deep := dd} : PX).bad) := Z_3.cell 5
            have fZ_3_5 := Z_3.free 5
            go_upto_region 13 with fail
            have hks := kp_put3v (q := fun j => j = gz) (Kp.refl (fun j => j = gz) w3) rfl 2 3 4 (Value.bool f.s) (Value.slice f.a f.n f.c) (Value.slice f.b f.m f.d)
            have hbs : Blk (((w3.setCell ⟨gz, 2, none⟩ (Value.bool f.s)).setCell ⟨gz, 3, none⟩ (Value.slice f.a f.n f.c)).setCell ⟨gz, 4, none⟩ (Value.slice f.b f.m f.d)) gz ({PX.o with kind := 2, bad := false, opn := zo, deep := dd, v := f} : PX).arr := part_putv Z_3 f
            clear cZ_3_2 fZ_3_2 cZ_3_3 fZ_3_3 cZ_3_4 fZ_3_4 cZ_3_5 fZ_3_5
            generalize (((w3.setCell ⟨gz, 2, none⟩ (Value.bool f.s)).setCell ⟨gz, 3, none⟩ (Value.slice f.a f.n f.c)).setCell ⟨gz, 4, none⟩ (Value.slice f.b f.m f.d)) = ws at *
            have cb : ws.cell? ⟨gz, 5, none⟩ = some (Value.bool false) := hbs.cell 5
            have fb := hbs.free 5
            have hb5 : Blk (ws.setCell ⟨gz, 5, none⟩ (.bool bb)) gz ({PX.o with kind := 2, bad := bb, opn := zo, deep := dd, v := f} : PX).arr := part_put5 hbs bb
            have hk5 := hks.kp (kp_put1 (Kp.refl (fun j => j = gz) ws) rfl 5 (.bool bb)) (fun j hj e => .inl e)
            have hr5 := R1_3.kp hk5 (show ¬ (w.heap.size + 1 + 1 = gz) by omega)
            have hbl5 := hbel_3.kp hk5 hbel_3.size (fun j hj (e : j = gz) => by omega)
            have hL5 := hid (hLL.out.kp hk5 (fun j (e : j = gz) hn => hn.2 e))
            have hN5 := hid (fun hb => (hLN.out hb).kp hk5 (fun j (e : j = gz) hn => hn.2 e))
            go_wp2_with (first | refine BigFrame.wpList_want (by rfl) (fun Kq hKq => wp_loadP _ rfl rfl hb5 (hKq _ _ ?_)) | refine BigFrame.wpList_want (by rfl) (fun Kq hKq => wp_storeP (p := ({PX.o with kind := 2, bad := bb, opn := zo, deep := dd, v := f} : PX)) _ _ rfl rfl rfl hr5 (fun wt hbt hkt => hKq _ _ ?_)))
            have hbl := hbl5.kp hkt hbl5.size (fun j hj (e : j = _) => by omega)
            go_wp2_with fail
            refine bodyPost_ret (res_blk Try.results67 rfl hbt Try.underlying67 rfl (by kernel_rfl)) rfl ?_
            have hjv : joinV 2 P Q = ⟨2, dd, F1, bb, false, LV.z⟩ := by
              unfold joinV; rw [← hpp.out.bad, ← hqq.out.bad, hzb1.out, ← hpp.out.opn, ← hqq.out.opn]
              rw [if_neg (by decide), hpo, if_neg (by decide), hqo, if_neg (by decide), hde.out]
              rw [hF1.out, hbb.out]
            rw [hjv]
            exact ⟨({PX.o with kind := 2, bad := bb, opn := zo, deep := dd, v := f} : PX), rfl, ⟨rfl, rfl, rfl, (show zo = false by rw [← hzo1.out, hpo, hqo]; rfl), ((hL5.out.kp hkt (fun j (e : j = _) hn => hn.1.2 e)).mono (fun g _ hn => hn.1.1)), (fun hb _ => (((hN5.out hb).kp hkt (fun j (e : j = _) hn => hn.1.2 e)).mono (fun g _ hn => hn.1.1))), LineOK.z N _⟩, hbl⟩
      ·
        go_wp2_with (first | refine BigFrame.wpList_want (by rfl) (fun Kq hKq => wp_loadP _ rfl rfl Z_2 (hKq _ _ ?_)) | refine BigFrame.wpList_want (by rfl) (fun Kq hKq => wp_storeP (p := ({PX.o with kind := 2, bad := true, opn := zo, deep := dd} : PX)) _ _ rfl rfl rfl R1_2 (fun ws hbs hks => hKq _ _ ?_)))
        have hbl := hbel_2.kp hks hbel_2.size (fun j hj (e : j = _) => by omega)
        go_wp2_with fail
        refine bodyPost_ret (res_blk Try.results67 rfl hbs Try.underlying67 rfl (by kernel_rfl)) rfl ?_
        have hjv : joinV 2 P Q = ⟨2, dd, 0, true, zo, LV.z⟩ := by
          unfold joinV; rw [← hpp.out.bad, ← hqq.out.bad, hzb1.out, ← hpp.out.opn, ← hqq.out.opn]
          rw [if_pos rfl, hde.out, hzo1.out]
        rw [hjv]
        exact ⟨({PX.o with kind := 2, bad := true, opn := zo, deep := dd} : PX), rfl, ⟨rfl, rfl, rfl, rfl, FA.o N _, (fun h => by cases h), LineOK.z N _⟩, hbl⟩

set_option maxRecDepth 100000 in
set_option maxHeartbeats 6000000 in
theorem join_3 {w : World} {N : Nat → Prop} {p q : PX} {P Q : PV} {J : Nat} (hp : PartOK N w p P) (hq : PartOK N w q Q) (hP : PS P J) (hQ : PS Q J) (hJ : J ≤ 300000) (hJ1 : 1 ≤ J) (h0 : 0 ≤ P.deep) (h1 : P.deep ≤ 500000) (h2 : 0 ≤ Q.deep) (h3 : Q.deep ≤ 500000) (hN : ∀ g, w.heap.size ≤ g → N g) :
    Calls Try.prog 67 #[.int .i8 3, .agg p.arr, .agg q.arr] w (RetPart N w (joinV 3 P Q)) := by
  have hNN := hid hN
  have hpp := hid hp
  have hqq := hid hq
  have hPP := hid hP
  have hQQ := hid hQ
  have hp0 : 0 ≤ p.deep := by rw [hp.deep]; exact h0
  have hp1 : p.deep ≤ 500000 := by rw [hp.deep]; exact h1
  have hq0 : 0 ≤ q.deep := by rw [hq.deep]; exact h2
  have hq1 : q.deep ≤ 500000 := by rw [hq.deep]; exact h3
  skip
  obtain ⟨zb, hzb⟩ : ∃ z, (p.bad || q.bad) = z := ⟨_, rfl⟩
  obtain ⟨zo, hzo⟩ : ∃ z, (p.opn || q.opn) = z := ⟨_, rfl⟩
  obtain ⟨s1, hs1⟩ : ∃ z, (p.kind == 2 || p.kind == 3) = z := ⟨_, rfl⟩
  obtain ⟨s2, hs2⟩ : ∃ z, (q.kind == 1 || q.kind == 6) = z := ⟨_, rfl⟩
  obtain ⟨s3, hs3⟩ : ∃ z, (q.kind == 2 || q.kind == 3) = z := ⟨_, rfl⟩
  obtain ⟨d1, hd1⟩ : ∃ z, dpB s1 p.deep = z := ⟨_, rfl⟩
  obtain ⟨d2, hd2⟩ : ∃ z, dpB (!s2) q.deep = z := ⟨_, rfl⟩
  obtain ⟨d3, hd3⟩ : ∃ z, dpB s3 q.deep = z := ⟨_, rfl⟩
  have Hs1 := hid (fun w => (show Calls Try.prog 77 #[.agg p.arr] w (RetBl w s1) from hs1 ▸ sum_any p))
  have Hs2 := hid (fun w => (show Calls Try.prog 76 #[.agg q.arr] w (RetBl w s2) from hs2 ▸ single_any q))
  have Hs3 := hid (fun w => (show Calls Try.prog 77 #[.agg q.arr] w (RetBl w s3) from hs3 ▸ sum_any q))
  have Hw1 := hid (fun w => (show Calls Try.prog 75 #[.agg p.arr, .bool s1] w (RetIb w d1) from hd1 ▸ within_any p s1 hp0 (by omega)))
  have Hw2 := hid (fun w => (show Calls Try.prog 75 #[.agg q.arr, .bool (!s2)] w (RetIb w d2) from hd2 ▸ within_any q (!s2) hq0 (by omega)))
  have Hw3 := hid (fun w => (show Calls Try.prog 75 #[.agg q.arr, .bool s3] w (RetIb w d3) from hd3 ▸ within_any q s3 hq0 (by omega)))
  obtain ⟨dd, hdd⟩ : ∃ z, mxI p.deep d3 = z := ⟨_, rfl⟩
  have hdm := hid (mxI_eq p.deep d3)
  have hde := hid (show dpJ 3 P Q = dd by unfold dpJ; rw [if_neg (by decide), ← hp.deep, ← hq.deep, ← hq.kind, hs3, hd3]; exact hdd)
  have hdd1 := hid hdd
  have hzb1 := hid hzb
  have hzo1 := hid hzo
  clear hp hq hP hQ hN h0 h1 h2 h3 hdd hzb hzo hs1 hs2 hs3 hd1 hd2 hd3
  have hent := ent3 w p.arr q.arr #[Value.int .i8 0, Value.int .i64 0, Value.bool false, Value.slice none 0 0, Value.slice none 0 0, Value.bool false, Value.bool false, Value.bool false, Value.slice none 0 0, Value.slice none 0 0, Value.bool false, Value.slice none 0 0, Value.slice none 0 0, Value.bool false, Value.slice none 0 0, Value.slice none 0 0, Value.bool false, Value.slice none 0 0, Value.slice none 0 0] 67 67 67
  go_enter Try.func67, Try.ntmps67
  go_upto_region 1 with fail
  generalize (((w.alloc (.cells p.arr 67)).alloc (.cells q.arr 67)).alloc (.cells #[Value.int .i8 0, Value.int .i64 0, Value.bool false, Value.slice none 0 0, Value.slice none 0 0, Value.bool false, Value.bool false, Value.bool false, Value.slice none 0 0, Value.slice none 0 0, Value.bool false, Value.slice none 0 0, Value.slice none 0 0, Value.bool false, Value.slice none 0 0, Value.slice none 0 0, Value.bool false, Value.slice none 0 0, Value.slice none 0 0] 67)) = W0 at hent ⊢
  obtain ⟨X_0, Y_0, R0_0, hbel_0, hsz_0⟩ := hent
  have R1_0 : Blk W0 (w.heap.size + 1 + 1) PX.o.arr := R0_0
  clear R0_0
  go_cut [7] (fun s7 wx => ∃ g, s7 = .pointer (some ⟨g, 0, none⟩) ∧ Blk wx g ({PX.o with kind := 3, bad := zb, opn := zo} : PX).arr ∧ W0.heap.size ≤ g ∧ Below W0.heap.size W0 wx)
  case first =>
    have hzb2 := hzb1.out
    have hzo2 := hzo1.out
    clear Hs1 Hs2 Hs3 Hw1 Hw2 Hw3 hdm hde hdd1 hNN hpp hqq hPP hQQ
    cases hpb : p.bad <;> cases hpo : p.opn
    · rw [hpb] at hzb2; rw [hpo] at hzo2; simp only [Bool.false_or, Bool.true_or] at hzb2 hzo2
      have cX_0_5 : _ = some (Value.bool p.bad) := X_0.cell 5
      have fX_0_5 := X_0.free 5
      have cX_0_6 : _ = some (Value.bool p.opn) := X_0.cell 6
      have fX_0_6 := X_0.free 6
      rw [hpb] at cX_0_5; rw [hpo] at cX_0_6
      have cY_0_5 : _ = some (Value.bool q.bad) := Y_0.cell 5
      rw [hzb2] at cY_0_5
      have cY_0_6 : _ = some (Value.bool q.opn) := Y_0.cell 6
      rw [hzo2] at cY_0_6
      have hnew : Blk (W0.alloc (.cells #[Value.int .i8 0, Value.int .i64 0, Value.bool false, Value.slice none 0 0, Value.slice none 0 0, Value.bool false, Value.bool false, Value.bool false, Value.slice none 0 0, Value.slice none 0 0, Value.bool false, Value.slice none 0 0, Value.slice none 0 0, Value.bool false, Value.slice none 0 0, Value.slice none 0 0, Value.bool false, Value.slice none 0 0, Value.slice none 0 0] 67)) W0.heap.size PX.o.arr := blk_new _ _ _
      have hbn := (Below.refl W0.heap.size W0).alloc (Nat.le_refl _) (.cells #[Value.int .i8 0, Value.int .i64 0, Value.bool false, Value.slice none 0 0, Value.slice none 0 0, Value.bool false, Value.bool false, Value.bool false, Value.slice none 0 0, Value.slice none 0 0, Value.bool false, Value.slice none 0 0, Value.slice none 0 0, Value.bool false, Value.slice none 0 0, Value.slice none 0 0, Value.bool false, Value.slice none 0 0, Value.slice none 0 0] 67)
      go_wp2_with (refine BigFrame.wpList_want (by rfl) (fun Kq hKq => wp_storeP (p := ({PX.o with kind := 3, bad := zb, opn := zo} : PX)) (q := PX.o) _ _ rfl rfl rfl hnew (fun ws hbs hks => hKq _ _ ?_)))
      go_wp2_with fail
      go_meet
      exact ⟨_, rfl, hbs, by omega, hbn.kp hks hbn.size (fun j hj (e : j = _) => by omega)⟩
    · rw [hpb] at hzb2; rw [hpo] at hzo2; simp only [Bool.false_or, Bool.true_or] at hzb2 hzo2
      subst hzo2
      have cX_0_5 : _ = some (Value.bool p.bad) := X_0.cell 5
      have fX_0_5 := X_0.free 5
      have cX_0_6 : _ = some (Value.bool p.opn) := X_0.cell 6
      have fX_0_6 := X_0.free 6
      rw [hpb] at cX_0_5; rw [hpo] at cX_0_6
      have cY_0_5 : _ = some (Value.bool q.bad) := Y_0.cell 5
      rw [hzb2] at cY_0_5
      have hnew : Blk (W0.alloc (.cells #[Value.int .i8 0, Value.int .i64 0, Value.bool false, Value.slice none 0 0, Value.slice none 0 0, Value.bool false, Value.bool false, Value.bool false, Value.slice none 0 0, Value.slice none 0 0, Value.bool false, Value.slice none 0 0, Value.slice none 0 0, Value.bool false, Value.slice none 0 0, Value.slice none 0 0, Value.bool false, Value.slice none 0 0, Value.slice none 0 0] 67)) W0.heap.size PX.o.arr := blk_new _ _ _
      have hbn := (Below.refl W0.heap.size W0).alloc (Nat.le_refl _) (.cells #[Value.int .i8 0, Value.int .i64 0, Value.bool false, Value.slice none 0 0, Value.slice none 0 0, Value.bool false, Value.bool false, Value.bool false, Value.slice none 0 0, Value.slice none 0 0, Value.bool false, Value.slice none 0 0, Value.slice none 0 0, Value.bool false, Value.slice none 0 0, Value.slice none 0 0, Value.bool false, Value.slice none 0 0, Value.slice none 0 0] 67)
      go_wp2_with (refine BigFrame.wpList_want (by rfl) (fun Kq hKq => wp_storeP (p := ({PX.o with kind := 3, bad := zb, opn := true} : PX)) (q := PX.o) _ _ rfl rfl rfl hnew (fun ws hbs hks => hKq _ _ ?_)))
      go_wp2_with fail
      go_meet
      exact ⟨_, rfl, hbs, by omega, hbn.kp hks hbn.size (fun j hj (e : j = _) => by omega)⟩
    · rw [hpb] at hzb2; rw [hpo] at hzo2; simp only [Bool.false_or, Bool.true_or] at hzb2 hzo2
      subst hzb2
      have cX_0_5 : _ = some (Value.bool p.bad) := X_0.cell 5
      have fX_0_5 := X_0.free 5
      have cX_0_6 : _ = some (Value.bool p.opn) := X_0.cell 6
      have fX_0_6 := X_0.free 6
      rw [hpb] at cX_0_5; rw [hpo] at cX_0_6
      have cY_0_6 : _ = some (Value.bool q.opn) := Y_0.cell 6
      rw [hzo2] at cY_0_6
      have hnew : Blk (W0.alloc (.cells #[Value.int .i8 0, Value.int .i64 0, Value.bool false, Value.slice none 0 0, Value.slice none 0 0, Value.bool false, Value.bool false, Value.bool false, Value.slice none 0 0, Value.slice none 0 0, Value.bool false, Value.slice none 0 0, Value.slice none 0 0, Value.bool false, Value.slice none 0 0, Value.slice none 0 0, Value.bool false, Value.slice none 0 0, Value.slice none 0 0] 67)) W0.heap.size PX.o.arr := blk_new _ _ _
      have hbn := (Below.refl W0.heap.size W0).alloc (Nat.le_refl _) (.cells #[Value.int .i8 0, Value.int .i64 0, Value.bool false, Value.slice none 0 0, Value.slice none 0 0, Value.bool false, Value.bool false, Value.bool false, Value.slice none 0 0, Value.slice none 0 0, Value.bool false, Value.slice none 0 0, Value.slice none 0 0, Value.bool false, Value.slice none 0 0, Value.slice none 0 0, Value.bool false, Value.slice none 0 0, Value.slice none 0 0] 67)
      go_wp2_with (refine BigFrame.wpList_want (by rfl) (fun Kq hKq => wp_storeP (p := ({PX.o with kind := 3, bad := true, opn := zo} : PX)) (q := PX.o) _ _ rfl rfl rfl hnew (fun ws hbs hks => hKq _ _ ?_)))
      go_wp2_with fail
      go_meet
      exact ⟨_, rfl, hbs, by omega, hbn.kp hks hbn.size (fun j hj (e : j = _) => by omega)⟩
    · rw [hpb] at hzb2; rw [hpo] at hzo2; simp only [Bool.false_or, Bool.true_or] at hzb2 hzo2
      subst hzb2
      subst hzo2
      have cX_0_5 : _ = some (Value.bool p.bad) := X_0.cell 5
      have fX_0_5 := X_0.free 5
      have cX_0_6 : _ = some (Value.bool p.opn) := X_0.cell 6
      have fX_0_6 := X_0.free 6
      rw [hpb] at cX_0_5; rw [hpo] at cX_0_6
      have hnew : Blk (W0.alloc (.cells #[Value.int .i8 0, Value.int .i64 0, Value.bool false, Value.slice none 0 0, Value.slice none 0 0, Value.bool false, Value.bool false, Value.bool false, Value.slice none 0 0, Value.slice none 0 0, Value.bool false, Value.slice none 0 0, Value.slice none 0 0, Value.bool false, Value.slice none 0 0, Value.slice none 0 0, Value.bool false, Value.slice none 0 0, Value.slice none 0 0] 67)) W0.heap.size PX.o.arr := blk_new _ _ _
      have hbn := (Below.refl W0.heap.size W0).alloc (Nat.le_refl _) (.cells #[Value.int .i8 0, Value.int .i64 0, Value.bool false, Value.slice none 0 0, Value.slice none 0 0, Value.bool false, Value.bool false, Value.bool false, Value.slice none 0 0, Value.slice none 0 0, Value.bool false, Value.slice none 0 0, Value.slice none 0 0, Value.bool false, Value.slice none 0 0, Value.slice none 0 0, Value.bool false, Value.slice none 0 0, Value.slice none 0 0] 67)
      go_wp2_with (refine BigFrame.wpList_want (by rfl) (fun Kq hKq => wp_storeP (p := ({PX.o with kind := 3, bad := true, opn := true} : PX)) (q := PX.o) _ _ rfl rfl rfl hnew (fun ws hbs hks => hKq _ _ ?_)))
      go_wp2_with fail
      go_meet
      exact ⟨_, rfl, hbs, by omega, hbn.kp hks hbn.size (fun j hj (e : j = _) => by omega)⟩
  case rest =>
    obtain ⟨gz, rfl, hbz, hge, hBc⟩ := hcut
    have hB_1 : Below W0.heap.size W0 wc := hBc
    have X_1 := X_0.next hB_1
    have Y_1 := Y_0.next hB_1
    have R1_1 := R1_0.next hB_1
    have hbel_1 := hbel_0.next hB_1
    have hsz_1 := hB_1.size
    clear X_0 Y_0 R1_0 hbel_0 hB_1
    clear hBc
    obtain ⟨wd, hwc⟩ : ∃ y : World, y = wc := ⟨_, rfl⟩
    subst hwc
    have Z_1 := hbz
    clear hbz
    skip
    go_wp2_with fail
    go_cut [] (fun wx => Blk wx gz ({PX.o with kind := 3, bad := zb, opn := zo, deep := dd} : PX).arr ∧ Kp (fun j => j = gz) wd wx)
    case first =>
      have hbAcc_1 : Below wd.heap.size wd wd := Below.refl _ _
      go_wp2_with fail
      have hB : Below wd.heap.size wd wd.drew := (Below.refl _ _).drew
      have hB_2 : Below wd.heap.size wd wd.drew := hB
      have X_2 := X_1.next hB_2
      have Y_2 := Y_1.next hB_2
      have R1_2 := R1_1.next hB_2
      have Z_2 := Z_1.next hB_2
      have hbAcc_2 := hbAcc_1.next hB_2
      have hbel_2 := hbel_1.next hB_2
      have hsz_2 := hB_2.size
      clear X_1 Y_1 R1_1 Z_1 hbAcc_1 hbel_1 hB_2
      clear hB
      refine wp_region_noPanic ?_
      refine D_region (S := (fun w' => Blk w' (w.heap.size) p.arr ∧ Blk w' (w.heap.size + 1) q.arr)) (T := [8]) (by kernel_rfl) ⟨X_2, Y_2⟩ (fun hHeld => ?_)
      clear hHeld
      generalize wd.drew = vd2 at *
      refine D_pure (i := 0) (d := some 40) (v := (.pointer (some ⟨w.heap.size, 1, none⟩))) rfl rfl (by kernel_rfl) (by kernel_rfl) (by kernel_rfl) (fun _ _ _ h => h) (by rfl) (fun _ => by go_simp) ?_
      (try simp only [Act.put, List.setIfInBounds_toArray, List.set_cons_zero, List.set_cons_succ])
      refine D_load (i := 1) (d := some 41) (v := Value.int .i64 p.deep) [1, 2, 3] rfl rfl (by kernel_rfl) (by kernel_rfl) (by kernel_rfl) (by kernel_rfl) (by kernel_rfl) (by kernel_rfl) (fun _ _ _ h => h) (by rfl) (fun w hSw => by (obtain ⟨b0, b1⟩ := hSw); have l0 : _ = some (Value.int .i64 p.deep) := b0.cell (1); (clear b0 b1); go_simp) ⟨X_2, Y_2⟩ ?_
      (try simp only [Act.put, List.setIfInBounds_toArray, List.set_cons_zero, List.set_cons_succ])
      refine D_load (i := 2) (d := some 42) (v := (.agg q.arr)) [1, 2, 3] rfl rfl (by kernel_rfl) (by kernel_rfl) (by kernel_rfl) (by kernel_rfl) (by kernel_rfl) (by kernel_rfl) (fun _ _ _ h => h) (by rfl) (fun w hSw => by (obtain ⟨b0, b1⟩ := hSw); exact exec_loadB 67 _ rfl rfl b1 Try.underlying67 rfl (by kernel_rfl)) ⟨X_2, Y_2⟩ ?_
      (try simp only [Act.put, List.setIfInBounds_toArray, List.set_cons_zero, List.set_cons_succ])
      refine D_load (i := 3) (d := some 43) (v := (.agg q.arr)) [1, 2, 3] rfl rfl (by kernel_rfl) (by kernel_rfl) (by kernel_rfl) (by kernel_rfl) (by kernel_rfl) (by kernel_rfl) (fun _ _ _ h => h) (by rfl) (fun w hSw => by (obtain ⟨b0, b1⟩ := hSw); exact exec_loadB 67 _ rfl rfl b1 Try.underlying67 rfl (by kernel_rfl)) ⟨X_2, Y_2⟩ ?_
      (try simp only [Act.put, List.setIfInBounds_toArray, List.set_cons_zero, List.set_cons_succ])
      refine D_one (i := 4) (by kernel_rfl) rfl (fun Kq hKq => ?_)
      go_simp
      refine (Hs3.out _).mono ?_
      rintro e w3 ⟨rfl, hB⟩
      have hB_3 : Below vd2.heap.size vd2 w3 := (bl.next hB)
      have X_3 := X_2.next hB_3
      have Y_3 := Y_2.next hB_3
      have R1_3 := R1_2.next hB_3
      have Z_3 := Z_2.next hB_3
      have hbAcc_3 := hbAcc_2.next hB_3
      have hbel_3 := hbel_2.next hB_3
      have hsz_3 := hB_3.size
      clear X_2 Y_2 R1_2 Z_2 hbAcc_2 hbel_2 hB_3
      try clear hB
      (try go_wp2_with fail)
      refine hKq.out _ _ ⟨X_3, Y_3⟩ (fun hHeld => ?_)
      clear hHeld hKq Kq
      (try simp only [Act.put, List.setIfInBounds_toArray, List.set_cons_zero, List.set_cons_succ])
      refine D_one (i := 5) (by kernel_rfl) rfl (fun Kq hKq => ?_)
      go_simp
      refine (Hw3.out _).mono ?_
      rintro e w4 ⟨rfl, hB⟩
      have hB_4 : Below w3.heap.size w3 w4 := (bl.next hB)
      have X_4 := X_3.next hB_4
      have Y_4 := Y_3.next hB_4
      have R1_4 := R1_3.next hB_4
      have Z_4 := Z_3.next hB_4
      have hbAcc_4 := hbAcc_3.next hB_4
      have hbel_4 := hbel_3.next hB_4
      have hsz_4 := hB_4.size
      clear X_3 Y_3 R1_3 Z_3 hbAcc_3 hbel_3 hB_4
      try clear hB
      (try go_wp2_with fail)
      refine hKq.out _ _ ⟨X_4, Y_4⟩ (fun hHeld => ?_)
      clear hHeld hKq Kq
      (try simp only [Act.put, List.setIfInBounds_toArray, List.set_cons_zero, List.set_cons_succ])
      refine D_pure (i := 6) (d := some 46) (v := (.int .i64 dd)) rfl rfl (by kernel_rfl) (by kernel_rfl) (by kernel_rfl) (fun _ _ _ h => h) (by rfl) (fun _ => by have h9 := hdm.out; rw [hdd1.out] at h9; go_simp) ?_
      (try simp only [Act.put, List.setIfInBounds_toArray, List.set_cons_zero, List.set_cons_succ])
      refine D_pure (i := 7) (d := some 47) (v := (.pointer (some ⟨gz, 1, none⟩))) rfl rfl (by kernel_rfl) (by kernel_rfl) (by kernel_rfl) (fun _ _ _ h => h) (by rfl) (fun _ => by go_simp) ?_
      (try simp only [Act.put, List.setIfInBounds_toArray, List.set_cons_zero, List.set_cons_succ])
      have cZ_4_1 : _ = some (Value.int .i64 ({PX.o with kind := 3, bad := zb, opn := zo} : PX).deep) := Z_4.cell 1
      have fZ_4_1 := Z_4.free 1
      refine D_late (i := 8) (by kernel_rfl) rfl (by kernel_rfl) (fun Kq hKq => ?_)
      go_simp
      refine hKq.out _ _ ?_
      clear hKq Kq
      (try simp only [Act.put, List.setIfInBounds_toArray, List.set_cons_zero, List.set_cons_succ])
      refine D_done (by kernel_rfl) ?_ _
      refine NoPanic.normal ?_
      go_wp2_with fail
      go_meet
      exact ⟨part_put1 Z_4 dd, kp_put1 (q := fun j => j = gz) (kp_of_below hbAcc_4) rfl _ _⟩
    case rest =>
      obtain ⟨hbk, hks0⟩ := hcut
      have Z_2 := hbk
      have X_2 := X_1.kp hks0 (show ¬ (w.heap.size = gz) by omega)
      have Y_2 := Y_1.kp hks0 (show ¬ (w.heap.size + 1 = gz) by omega)
      have R1_2 := R1_1.kp hks0 (show ¬ (w.heap.size + 1 + 1 = gz) by omega)
      have hbel_2 := hbel_1.kp hks0 hbel_1.size (fun j hj (e : j = gz) => by omega)
      have hsz_2 := hks0.size
      clear hbk hks0 hbel_1 X_1 Y_1 R1_1 Z_1
      obtain ⟨wv, hwc⟩ : ∃ y : World, y = wc := ⟨_, rfl⟩
      subst hwc
      have cz : _ = some (Value.bool zb) := Z_2.cell 5
      cases zb
      ·
        have cx : _ = some (Value.bool p.opn) := X_2.cell 6
        cases hpo : p.opn
        case true =>
          rw [hpo] at cx
          obtain ⟨F1, hF1⟩ : ∃ z, (rgtV 3 P.L Q.v).1 = z := ⟨_, rfl⟩
          obtain ⟨bb, hbb⟩ : ∃ z, (rgtV 3 P.L Q.v).2 = z := ⟨_, rfl⟩
          have hF1 := hid hF1
          have hbb := hid hbb
          have cX_2_2 : _ = some (Value.bool p.v.s) := X_2.cell 2
          have fX_2_2 := X_2.free 2
          have cX_2_3 : _ = some (Value.slice p.v.a p.v.n p.v.c) := X_2.cell 3
          have fX_2_3 := X_2.free 3
          have cX_2_4 : _ = some (Value.slice p.v.b p.v.m p.v.d) := X_2.cell 4
          have fX_2_4 := X_2.free 4
          have cY_2_2 : _ = some (Value.bool q.v.s) := Y_2.cell 2
          have fY_2_2 := Y_2.free 2
          have cY_2_3 : _ = some (Value.slice q.v.a q.v.n q.v.c) := Y_2.cell 3
          have fY_2_3 := Y_2.free 3
          have cY_2_4 : _ = some (Value.slice q.v.b q.v.m q.v.d) := Y_2.cell 4
          have fY_2_4 := Y_2.free 4
          have hzl := Z_2.lt
          go_wp2_with (refine BigFrame.wpList_want (by rfl) (fun Kq hKq => wp_loadPL _ rfl rfl X_2 (hKq _ _ ?_)))
          refine (show Calls _ _ _ _ (RetLine (fun g => (N g ∧ g ≠ w.heap.size + 1 + 1) ∧ g ≠ gz) _ F1 (erB bb)) by (have h := rgt_any (N := (fun g => (N g ∧ g ≠ w.heap.size + 1 + 1) ∧ g ≠ gz)) (show Kd 3 by unfold Kd; omega) ((hpp.out.L.mono (M := (fun g => (N g ∧ g ≠ w.heap.size + 1 + 1) ∧ g ≠ gz)) (fun g hg hn => ⟨⟨hn, by omega⟩, by omega⟩)).below hbel_2) hPP.out.L ((hqq.out.v.below hbel_2).rdQ hQQ.out.v) hQQ.out.v hJ hJ hJ1 (fun g hg => ⟨⟨hNN.out g (by omega), by omega⟩, by omega⟩)); (rw [hF1.out, hbb.out] at h); exact h).mono ?_
          rintro e w3 ⟨f, rfl, hL, hB⟩
          have hB_3 : Below wv.heap.size wv w3 := (bl.next hB)
          have X_3 := X_2.next hB_3
          have Y_3 := Y_2.next hB_3
          have R1_3 := R1_2.next hB_3
          have Z_3 := Z_2.next hB_3
          have hbel_3 := hbel_2.next hB_3
          have hsz_3 := hB_3.size
          clear X_2 Y_2 R1_2 Z_2 hbel_2 hB_3
          clear cX_2_2 fX_2_2 cX_2_3 fX_2_3 cX_2_4 fX_2_4 cY_2_2 fY_2_2 cY_2_3 fY_2_3 cY_2_4 fY_2_4
          have hLL := hid hL
          clear hL
          try clear hB
          have he1 : (erB bb == 0) = !bb := by cases bb <;> rfl
          have he2 : (erB bb != 0) = bb := by cases bb <;> rfl
          have he3 : decide (erB bb = 0) = !bb := by cases bb <;> rfl
          clear cx cz
          go_wp2_with (first | (refine BigFrame.wpList_want (by rfl) (fun Kq hKq => wp_storePL (f := f) (q := ({PX.o with kind := 3, bad := false, opn := zo, deep := dd} : PX)) _ _ rfl rfl rfl Z_3 (fun ws hbs hks => hKq _ _ ?_)); have hbs : Blk ws gz ({PX.o with kind := 3, bad := false, opn := zo, deep := dd, A := f.A, B := f.B, C := f.C, D := f.D} : PX).arr := hbs; have cb : ws.cell? ⟨gz, 5, none⟩ = some (Value.bool false) := hbs.cell 5; have fb := hbs.free 5; have hb5 : Blk (ws.setCell ⟨gz, 5, none⟩ (.bool bb)) gz ({PX.o with kind := 3, bad := bb, opn := zo, deep := dd, A := f.A, B := f.B, C := f.C, D := f.D} : PX).arr := part_put5 hbs bb; have hk5 := hks.kp (kp_put1 (Kp.refl (fun j => j = gz) ws) rfl 5 (.bool bb)) (fun j hj e => .inl e); have hr5 := R1_3.kp hk5 (show ¬ (w.heap.size + 1 + 1 = gz) by omega); have hbl5 := hbel_3.kp hk5 hbel_3.size (fun j hj (e : j = gz) => by omega); have hL5 := hid (hLL.out.kp hk5 (fun j (e : j = gz) hn => hn.2 e))) | refine BigFrame.wpList_want (by rfl) (fun Kq hKq => wp_loadP _ rfl rfl hb5 (hKq _ _ ?_)) | refine BigFrame.wpList_want (by rfl) (fun Kq hKq => wp_storeP (p := ({PX.o with kind := 3, bad := bb, opn := zo, deep := dd, A := f.A, B := f.B, C := f.C, D := f.D} : PX)) _ _ rfl rfl rfl hr5 (fun wt hbt hkt => hKq _ _ ?_)))
          have hbl := hbl5.kp hkt hbl5.size (fun j hj (e : j = _) => by omega)
          go_wp2_with fail
          refine bodyPost_ret (res_blk Try.results67 rfl hbt Try.underlying67 rfl (by kernel_rfl)) rfl ?_
          have hjv : joinV 3 P Q = ⟨3, dd, 0, bb, true, F1⟩ := by
            unfold joinV; rw [← hpp.out.bad, ← hqq.out.bad, hzb1.out, ← hpp.out.opn, ← hqq.out.opn]
            rw [if_neg (by decide), hpo, if_pos rfl, hde.out]
            rw [hF1.out, hbb.out]
          rw [hjv]
          exact ⟨({PX.o with kind := 3, bad := bb, opn := zo, deep := dd, A := f.A, B := f.B, C := f.C, D := f.D} : PX), rfl, ⟨rfl, rfl, rfl, (show zo = true by rw [← hzo1.out, hpo]; rfl), FA.o N _, (fun _ h => by cases h), ((hL5.out.kp hkt (fun j (e : j = _) hn => hn.1.2 e)).mono (fun g _ hn => hn.1.1))⟩, hbl⟩
        case false =>
          rw [hpo] at cx
          have cy : _ = some (Value.bool q.opn) := Y_2.cell 6
          cases hqo : q.opn
          case true =>
            rw [hqo] at cy
            obtain ⟨F1, hF1⟩ : ∃ z, (lftV 3 Q.L P.v).1 = z := ⟨_, rfl⟩
            obtain ⟨bb, hbb⟩ : ∃ z, (lftV 3 Q.L P.v).2 = z := ⟨_, rfl⟩
            have hF1 := hid hF1
            have hbb := hid hbb
            have cX_2_2 : _ = some (Value.bool p.v.s) := X_2.cell 2
            have fX_2_2 := X_2.free 2
            have cX_2_3 : _ = some (Value.slice p.v.a p.v.n p.v.c) := X_2.cell 3
            have fX_2_3 := X_2.free 3
            have cX_2_4 : _ = some (Value.slice p.v.b p.v.m p.v.d) := X_2.cell 4
            have fX_2_4 := X_2.free 4
            have cY_2_2 : _ = some (Value.bool q.v.s) := Y_2.cell 2
            have fY_2_2 := Y_2.free 2
            have cY_2_3 : _ = some (Value.slice q.v.a q.v.n q.v.c) := Y_2.cell 3
            have fY_2_3 := Y_2.free 3
            have cY_2_4 : _ = some (Value.slice q.v.b q.v.m q.v.d) := Y_2.cell 4
            have fY_2_4 := Y_2.free 4
            have hzl := Z_2.lt
            go_wp2_with (refine BigFrame.wpList_want (by rfl) (fun Kq hKq => wp_loadPL _ rfl rfl Y_2 (hKq _ _ ?_)))
            refine (show Calls _ _ _ _ (RetLine (fun g => (N g ∧ g ≠ w.heap.size + 1 + 1) ∧ g ≠ gz) _ F1 (erB bb)) by (have h := lft_any (N := (fun g => (N g ∧ g ≠ w.heap.size + 1 + 1) ∧ g ≠ gz)) (show Kd 3 by unfold Kd; omega) ((hqq.out.L.mono (M := (fun g => (N g ∧ g ≠ w.heap.size + 1 + 1) ∧ g ≠ gz)) (fun g hg hn => ⟨⟨hn, by omega⟩, by omega⟩)).below hbel_2) hQQ.out.L ((hpp.out.v.below hbel_2).rdQ hPP.out.v) hPP.out.v hJ hJ (fun g hg => ⟨⟨hNN.out g (by omega), by omega⟩, by omega⟩)); (rw [hF1.out, hbb.out] at h); exact h).mono ?_
            rintro e w3 ⟨f, rfl, hL, hB⟩
            have hB_3 : Below wv.heap.size wv w3 := (bl.next hB)
            have X_3 := X_2.next hB_3
            have Y_3 := Y_2.next hB_3
            have R1_3 := R1_2.next hB_3
            have Z_3 := Z_2.next hB_3
            have hbel_3 := hbel_2.next hB_3
            have hsz_3 := hB_3.size
            clear X_2 Y_2 R1_2 Z_2 hbel_2 hB_3
            clear cX_2_2 fX_2_2 cX_2_3 fX_2_3 cX_2_4 fX_2_4 cY_2_2 fY_2_2 cY_2_3 fY_2_3 cY_2_4 fY_2_4
            have hLL := hid hL
            clear hL
            try clear hB
            have he1 : (erB bb == 0) = !bb := by cases bb <;> rfl
            have he2 : (erB bb != 0) = bb := by cases bb <;> rfl
            have he3 : decide (erB bb = 0) = !bb := by cases bb <;> rfl
            clear cx cz
            go_wp2_with (first | (refine BigFrame.wpList_want (by rfl) (fun Kq hKq => wp_storePL (f := f) (q := ({PX.o with kind := 3, bad := false, opn := zo, deep := dd} : PX)) _ _ rfl rfl rfl Z_3 (fun ws hbs hks => hKq _ _ ?_)); have hbs : Blk ws gz ({PX.o with kind := 3, bad := false, opn := zo, deep := dd, A := f.A, B := f.B, C := f.C, D := f.D} : PX).arr := hbs; have cb : ws.cell? ⟨gz, 5, none⟩ = some (Value.bool false) := hbs.cell 5; have fb := hbs.free 5; have hb5 : Blk (ws.setCell ⟨gz, 5, none⟩ (.bool bb)) gz ({PX.o with kind := 3, bad := bb, opn := zo, deep := dd, A := f.A, B := f.B, C := f.C, D := f.D} : PX).arr := part_put5 hbs bb; have hk5 := hks.kp (kp_put1 (Kp.refl (fun j => j = gz) ws) rfl 5 (.bool bb)) (fun j hj e => .inl e); have hr5 := R1_3.kp hk5 (show ¬ (w.heap.size + 1 + 1 = gz) by omega); have hbl5 := hbel_3.kp hk5 hbel_3.size (fun j hj (e : j = gz) => by omega); have hL5 := hid (hLL.out.kp hk5 (fun j (e : j = gz) hn => hn.2 e))) | refine BigFrame.wpList_want (by rfl) (fun Kq hKq => wp_loadP _ rfl rfl hb5 (hKq _ _ ?_)) | refine BigFrame.wpList_want (by rfl) (fun Kq hKq => wp_storeP (p := ({PX.o with kind := 3, bad := bb, opn := zo, deep := dd, A := f.A, B := f.B, C := f.C, D := f.D} : PX)) _ _ rfl rfl rfl hr5 (fun wt hbt hkt => hKq _ _ ?_)))
            have hbl := hbl5.kp hkt hbl5.size (fun j hj (e : j = _) => by omega)
            go_wp2_with fail
            refine bodyPost_ret (res_blk Try.results67 rfl hbt Try.underlying67 rfl (by kernel_rfl)) rfl ?_
            have hjv : joinV 3 P Q = ⟨3, dd, 0, bb, true, F1⟩ := by
              unfold joinV; rw [← hpp.out.bad, ← hqq.out.bad, hzb1.out, ← hpp.out.opn, ← hqq.out.opn]
              rw [if_neg (by decide), hpo, if_neg (by decide), hqo, if_pos rfl, hde.out]
              rw [hF1.out, hbb.out]
            rw [hjv]
            exact ⟨({PX.o with kind := 3, bad := bb, opn := zo, deep := dd, A := f.A, B := f.B, C := f.C, D := f.D} : PX), rfl, ⟨rfl, rfl, rfl, (show zo = true by rw [← hzo1.out, hpo, hqo]; rfl), FA.o N _, (fun _ h => by cases h), ((hL5.out.kp hkt (fun j (e : j = _) hn => hn.1.2 e)).mono (fun g _ hn => hn.1.1))⟩, hbl⟩
          case false =>
            rw [hqo] at cy
            obtain ⟨F1, hF1⟩ : ∃ z, (bthV 3 P.v Q.v).1 = z := ⟨_, rfl⟩
            obtain ⟨bb, hbb⟩ : ∃ z, (bthV 3 P.v Q.v).2 = z := ⟨_, rfl⟩
            have hF1 := hid hF1
            have hbb := hid hbb
            have cX_2_2 : _ = some (Value.bool p.v.s) := X_2.cell 2
            have fX_2_2 := X_2.free 2
            have cX_2_3 : _ = some (Value.slice p.v.a p.v.n p.v.c) := X_2.cell 3
            have fX_2_3 := X_2.free 3
            have cX_2_4 : _ = some (Value.slice p.v.b p.v.m p.v.d) := X_2.cell 4
            have fX_2_4 := X_2.free 4
            have cY_2_2 : _ = some (Value.bool q.v.s) := Y_2.cell 2
            have fY_2_2 := Y_2.free 2
            have cY_2_3 : _ = some (Value.slice q.v.a q.v.n q.v.c) := Y_2.cell 3
            have fY_2_3 := Y_2.free 3
            have cY_2_4 : _ = some (Value.slice q.v.b q.v.m q.v.d) := Y_2.cell 4
            have fY_2_4 := Y_2.free 4
            have hzl := Z_2.lt
            go_wp2_with (fail)
            refine (show Calls _ _ _ _ (RetBoth (fun g => (N g ∧ g ≠ w.heap.size + 1 + 1) ∧ g ≠ gz) _ F1 bb) by (have h := bth_any (N := (fun g => (N g ∧ g ≠ w.heap.size + 1 + 1) ∧ g ≠ gz)) (show Kd 3 by unfold Kd; omega) ((hpp.out.v.below hbel_2).rdQ hPP.out.v) hJ ((hqq.out.v.below hbel_2).rdQ hQQ.out.v) hJ (fun g hg => ⟨⟨hNN.out g (by omega), by omega⟩, by omega⟩)); (rw [hF1.out, hbb.out] at h); exact h).mono ?_
            rintro e w3 ⟨f, rfl, hL, hL2, hB⟩
            have hB_3 : Below wv.heap.size wv w3 := (bl.next hB)
            have X_3 := X_2.next hB_3
            have Y_3 := Y_2.next hB_3
            have R1_3 := R1_2.next hB_3
            have Z_3 := Z_2.next hB_3
            have hbel_3 := hbel_2.next hB_3
            have hsz_3 := hB_3.size
            clear X_2 Y_2 R1_2 Z_2 hbel_2 hB_3
            clear cX_2_2 fX_2_2 cX_2_3 fX_2_3 cX_2_4 fX_2_4 cY_2_2 fY_2_2 cY_2_3 fY_2_3 cY_2_4 fY_2_4
            have hLL := hid hL
            have hLN := hid hL2
            clear hL hL2
            try clear hB
            have he1 : (erB bb == 0) = !bb := by cases bb <;> rfl
            have he2 : (erB bb != 0) = bb := by cases bb <;> rfl
            have he3 : decide (erB bb = 0) = !bb := by cases bb <;> rfl
            clear cx cz
            have cZ_3_2 : _ = some (Value.bool ({PX.o with kind := 3, bad := false, opn := zo, deep := dd} : PX).v.s) := Z_3.cell 2
            have fZ_3_2 := Z_3.free 2
            have cZ_3_3 : _ = some (Value.slice ({PX.o with kind := 3, bad := false, opn := zo, deep := dd} : PX).v.a ({PX.o with kind := 3, bad := false, opn := zo, deep := dd} : PX).v.n ({PX.o with kind := 3, bad := false, opn := zo, deep := dd} : PX).v.c) := Z_3.cell 3
            have fZ_3_3 := Z_3.free 3
            have cZ_3_4 : _ = some (Value.slice ({PX.o with kind := 3, bad := false, opn := zo, deep := dd} : PX).v.b ({PX.o with kind := 3, bad := false, opn := zo, deep := dd} : PX).v.m ({PX.o with kind := 3, bad := false, opn := zo, deep := dd} : PX).v.d) := Z_3.cell 4
            have fZ_3_4 := Z_3.free 4
            have cZ_3_5 : _ = some (Value.bool ({PX.o with kind := 3, bad := false, opn := zo, deep := dd} : PX).bad) := Z_3.cell 5
            have fZ_3_5 := Z_3.free 5
            go_upto_region 13 with fail
            have hks := kp_put3v (q := fun j => j = gz) (Kp.refl (fun j => j = gz) w3) rfl 2 3 4 (Value.bool f.s) (Value.slice f.a f.n f.c) (Value.slice f.b f.m f.d)
            have hbs : Blk (((w3.setCell ⟨gz, 2, none⟩ (Value.bool f.s)).setCell ⟨gz, 3, none⟩ (Value.slice f.a f.n f.c)).setCell ⟨gz, 4, none⟩ (Value.slice f.b f.m f.d)) gz ({PX.o with kind := 3, bad := false, opn := zo, deep := dd, v := f} : PX).arr := part_putv Z_3 f
            clear cZ_3_2 fZ_3_2 cZ_3_3 fZ_3_3 cZ_3_4 fZ_3_4 cZ_3_5 fZ_3_5
            generalize (((w3.setCell ⟨gz, 2, none⟩ (Value.bool f.s)).setCell ⟨gz, 3, none⟩ (Value.slice f.a f.n f.c)).setCell ⟨gz, 4, none⟩ (Value.slice f.b f.m f.d)) = ws at *
            have cb : ws.cell? ⟨gz, 5, none⟩ = some (Value.bool false) := hbs.cell 5
            have fb := hbs.free 5
            have hb5 : Blk (ws.setCell ⟨gz, 5, none⟩ (.bool bb)) gz ({PX.o with kind := 3, bad := bb, opn := zo, deep := dd, v := f} : PX).arr := part_put5 hbs bb
            have hk5 := hks.kp (kp_put1 (Kp.refl (fun j => j = gz) ws) rfl 5 (.bool bb)) (fun j hj e => .inl e)
            have hr5 := R1_3.kp hk5 (show ¬ (w.heap.size + 1 + 1 = gz) by omega)
            have hbl5 := hbel_3.kp hk5 hbel_3.size (fun j hj (e : j = gz) => by omega)
            have hL5 := hid (hLL.out.kp hk5 (fun j (e : j = gz) hn => hn.2 e))
            have hN5 := hid (fun hb => (hLN.out hb).kp hk5 (fun j (e : j = gz) hn => hn.2 e))
            go_wp2_with (first | refine BigFrame.wpList_want (by rfl) (fun Kq hKq => wp_loadP _ rfl rfl hb5 (hKq _ _ ?_)) | refine BigFrame.wpList_want (by rfl) (fun Kq hKq => wp_storeP (p := ({PX.o with kind := 3, bad := bb, opn := zo, deep := dd, v := f} : PX)) _ _ rfl rfl rfl hr5 (fun wt hbt hkt => hKq _ _ ?_)))
            have hbl := hbl5.kp hkt hbl5.size (fun j hj (e : j = _) => by omega)
            go_wp2_with fail
            refine bodyPost_ret (res_blk Try.results67 rfl hbt Try.underlying67 rfl (by kernel_rfl)) rfl ?_
            have hjv : joinV 3 P Q = ⟨3, dd, F1, bb, false, LV.z⟩ := by
              unfold joinV; rw [← hpp.out.bad, ← hqq.out.bad, hzb1.out, ← hpp.out.opn, ← hqq.out.opn]
              rw [if_neg (by decide), hpo, if_neg (by decide), hqo, if_neg (by decide), hde.out]
              rw [hF1.out, hbb.out]
            rw [hjv]
            exact ⟨({PX.o with kind := 3, bad := bb, opn := zo, deep := dd, v := f} : PX), rfl, ⟨rfl, rfl, rfl, (show zo = false by rw [← hzo1.out, hpo, hqo]; rfl), ((hL5.out.kp hkt (fun j (e : j = _) hn => hn.1.2 e)).mono (fun g _ hn => hn.1.1)), (fun hb _ => (((hN5.out hb).kp hkt (fun j (e : j = _) hn => hn.1.2 e)).mono (fun g _ hn => hn.1.1))), LineOK.z N _⟩, hbl⟩
      ·
        go_wp2_with (first | refine BigFrame.wpList_want (by rfl) (fun Kq hKq => wp_loadP _ rfl rfl Z_2 (hKq _ _ ?_)) | refine BigFrame.wpList_want (by rfl) (fun Kq hKq => wp_storeP (p := ({PX.o with kind := 3, bad := true, opn := zo, deep := dd} : PX)) _ _ rfl rfl rfl R1_2 (fun ws hbs hks => hKq _ _ ?_)))
        have hbl := hbel_2.kp hks hbel_2.size (fun j hj (e : j = _) => by omega)
        go_wp2_with fail
        refine bodyPost_ret (res_blk Try.results67 rfl hbs Try.underlying67 rfl (by kernel_rfl)) rfl ?_
        have hjv : joinV 3 P Q = ⟨3, dd, 0, true, zo, LV.z⟩ := by
          unfold joinV; rw [← hpp.out.bad, ← hqq.out.bad, hzb1.out, ← hpp.out.opn, ← hqq.out.opn]
          rw [if_pos rfl, hde.out, hzo1.out]
        rw [hjv]
        exact ⟨({PX.o with kind := 3, bad := true, opn := zo, deep := dd} : PX), rfl, ⟨rfl, rfl, rfl, rfl, FA.o N _, (fun h => by cases h), LineOK.z N _⟩, hbl⟩

set_option maxRecDepth 100000 in
set_option maxHeartbeats 6000000 in
theorem join_4 {w : World} {N : Nat → Prop} {p q : PX} {P Q : PV} {J : Nat} (hp : PartOK N w p P) (hq : PartOK N w q Q) (hP : PS P J) (hQ : PS Q J) (hJ : J ≤ 300000) (hJ1 : 1 ≤ J) (h0 : 0 ≤ P.deep) (h1 : P.deep ≤ 500000) (h2 : 0 ≤ Q.deep) (h3 : Q.deep ≤ 500000) (hN : ∀ g, w.heap.size ≤ g → N g) :
    Calls Try.prog 67 #[.int .i8 4, .agg p.arr, .agg q.arr] w (RetPart N w (joinV 4 P Q)) := by
  have hNN := hid hN
  have hpp := hid hp
  have hqq := hid hq
  have hPP := hid hP
  have hQQ := hid hQ
  have hp0 : 0 ≤ p.deep := by rw [hp.deep]; exact h0
  have hp1 : p.deep ≤ 500000 := by rw [hp.deep]; exact h1
  have hq0 : 0 ≤ q.deep := by rw [hq.deep]; exact h2
  have hq1 : q.deep ≤ 500000 := by rw [hq.deep]; exact h3
  skip
  obtain ⟨zb, hzb⟩ : ∃ z, (p.bad || q.bad) = z := ⟨_, rfl⟩
  obtain ⟨zo, hzo⟩ : ∃ z, (p.opn || q.opn) = z := ⟨_, rfl⟩
  obtain ⟨s1, hs1⟩ : ∃ z, (p.kind == 2 || p.kind == 3) = z := ⟨_, rfl⟩
  obtain ⟨s2, hs2⟩ : ∃ z, (q.kind == 1 || q.kind == 6) = z := ⟨_, rfl⟩
  obtain ⟨s3, hs3⟩ : ∃ z, (q.kind == 2 || q.kind == 3) = z := ⟨_, rfl⟩
  obtain ⟨d1, hd1⟩ : ∃ z, dpB s1 p.deep = z := ⟨_, rfl⟩
  obtain ⟨d2, hd2⟩ : ∃ z, dpB (!s2) q.deep = z := ⟨_, rfl⟩
  obtain ⟨d3, hd3⟩ : ∃ z, dpB s3 q.deep = z := ⟨_, rfl⟩
  have Hs1 := hid (fun w => (show Calls Try.prog 77 #[.agg p.arr] w (RetBl w s1) from hs1 ▸ sum_any p))
  have Hs2 := hid (fun w => (show Calls Try.prog 76 #[.agg q.arr] w (RetBl w s2) from hs2 ▸ single_any q))
  have Hs3 := hid (fun w => (show Calls Try.prog 77 #[.agg q.arr] w (RetBl w s3) from hs3 ▸ sum_any q))
  have Hw1 := hid (fun w => (show Calls Try.prog 75 #[.agg p.arr, .bool s1] w (RetIb w d1) from hd1 ▸ within_any p s1 hp0 (by omega)))
  have Hw2 := hid (fun w => (show Calls Try.prog 75 #[.agg q.arr, .bool (!s2)] w (RetIb w d2) from hd2 ▸ within_any q (!s2) hq0 (by omega)))
  have Hw3 := hid (fun w => (show Calls Try.prog 75 #[.agg q.arr, .bool s3] w (RetIb w d3) from hd3 ▸ within_any q s3 hq0 (by omega)))
  obtain ⟨dd, hdd⟩ : ∃ z, mxI d1 d2 = z := ⟨_, rfl⟩
  have hdm := hid (mxI_eq d1 d2)
  have hde := hid (show dpJ 4 P Q = dd by unfold dpJ; rw [if_pos (by decide), ← hp.deep, ← hq.deep, ← hp.kind, ← hq.kind, hs1, hs2, hd1, hd2]; exact hdd)
  have hdd1 := hid hdd
  have hzb1 := hid hzb
  have hzo1 := hid hzo
  clear hp hq hP hQ hN h0 h1 h2 h3 hdd hzb hzo hs1 hs2 hs3 hd1 hd2 hd3
  have hent := ent3 w p.arr q.arr #[Value.int .i8 0, Value.int .i64 0, Value.bool false, Value.slice none 0 0, Value.slice none 0 0, Value.bool false, Value.bool false, Value.bool false, Value.slice none 0 0, Value.slice none 0 0, Value.bool false, Value.slice none 0 0, Value.slice none 0 0, Value.bool false, Value.slice none 0 0, Value.slice none 0 0, Value.bool false, Value.slice none 0 0, Value.slice none 0 0] 67 67 67
  go_enter Try.func67, Try.ntmps67
  go_upto_region 1 with fail
  generalize (((w.alloc (.cells p.arr 67)).alloc (.cells q.arr 67)).alloc (.cells #[Value.int .i8 0, Value.int .i64 0, Value.bool false, Value.slice none 0 0, Value.slice none 0 0, Value.bool false, Value.bool false, Value.bool false, Value.slice none 0 0, Value.slice none 0 0, Value.bool false, Value.slice none 0 0, Value.slice none 0 0, Value.bool false, Value.slice none 0 0, Value.slice none 0 0, Value.bool false, Value.slice none 0 0, Value.slice none 0 0] 67)) = W0 at hent ⊢
  obtain ⟨X_0, Y_0, R0_0, hbel_0, hsz_0⟩ := hent
  have R1_0 : Blk W0 (w.heap.size + 1 + 1) PX.o.arr := R0_0
  clear R0_0
  go_cut [7] (fun s7 wx => ∃ g, s7 = .pointer (some ⟨g, 0, none⟩) ∧ Blk wx g ({PX.o with kind := 4, bad := zb, opn := zo} : PX).arr ∧ W0.heap.size ≤ g ∧ Below W0.heap.size W0 wx)
  case first =>
    have hzb2 := hzb1.out
    have hzo2 := hzo1.out
    clear Hs1 Hs2 Hs3 Hw1 Hw2 Hw3 hdm hde hdd1 hNN hpp hqq hPP hQQ
    cases hpb : p.bad <;> cases hpo : p.opn
    · rw [hpb] at hzb2; rw [hpo] at hzo2; simp only [Bool.false_or, Bool.true_or] at hzb2 hzo2
      have cX_0_5 : _ = some (Value.bool p.bad) := X_0.cell 5
      have fX_0_5 := X_0.free 5
      have cX_0_6 : _ = some (Value.bool p.opn) := X_0.cell 6
      have fX_0_6 := X_0.free 6
      rw [hpb] at cX_0_5; rw [hpo] at cX_0_6
      have cY_0_5 : _ = some (Value.bool q.bad) := Y_0.cell 5
      rw [hzb2] at cY_0_5
      have cY_0_6 : _ = some (Value.bool q.opn) := Y_0.cell 6
      rw [hzo2] at cY_0_6
      have hnew : Blk (W0.alloc (.cells #[Value.int .i8 0, Value.int .i64 0, Value.bool false, Value.slice none 0 0, Value.slice none 0 0, Value.bool false, Value.bool false, Value.bool false, Value.slice none 0 0, Value.slice none 0 0, Value.bool false, Value.slice none 0 0, Value.slice none 0 0, Value.bool false, Value.slice none 0 0, Value.slice none 0 0, Value.bool false, Value.slice none 0 0, Value.slice none 0 0] 67)) W0.heap.size PX.o.arr := blk_new _ _ _
      have hbn := (Below.refl W0.heap.size W0).alloc (Nat.le_refl _) (.cells #[Value.int .i8 0, Value.int .i64 0, Value.bool false, Value.slice none 0 0, Value.slice none 0 0, Value.bool false, Value.bool false, Value.bool false, Value.slice none 0 0, Value.slice none 0 0, Value.bool false, Value.slice none 0 0, Value.slice none 0 0, Value.bool false, Value.slice none 0 0, Value.slice none 0 0, Value.bool false, Value.slice none 0 0, Value.slice none 0 0] 67)
      go_wp2_with (refine BigFrame.wpList_want (by rfl) (fun Kq hKq => wp_storeP (p := ({PX.o with kind := 4, bad := zb, opn := zo} : PX)) (q := PX.o) _ _ rfl rfl rfl hnew (fun ws hbs hks => hKq _ _ ?_)))
      go_wp2_with fail
      go_meet
      exact ⟨_, rfl, hbs, by omega, hbn.kp hks hbn.size (fun j hj (e : j = _) => by omega)⟩
    · rw [hpb] at hzb2; rw [hpo] at hzo2; simp only [Bool.false_or, Bool.true_or] at hzb2 hzo2
      subst hzo2
      have cX_0_5 : _ = some (Value.bool p.bad) := X_0.cell 5
      have fX_0_5 := X_0.free 5
      have cX_0_6 : _ = some (Value.bool p.opn) := X_0.cell 6
      have fX_0_6 := X_0.free 6
      rw [hpb] at cX_0_5; rw [hpo] at cX_0_6
      have cY_0_5 : _ = some (Value.bool q.bad) := Y_0.cell 5
      rw [hzb2] at cY_0_5
      have hnew : Blk (W0.alloc (.cells #[Value.int .i8 0, Value.int .i64 0, Value.bool false, Value.slice none 0 0, Value.slice none 0 0, Value.bool false, Value.bool false, Value.bool false, Value.slice none 0 0, Value.slice none 0 0, Value.bool false, Value.slice none 0 0, Value.slice none 0 0, Value.bool false, Value.slice none 0 0, Value.slice none 0 0, Value.bool false, Value.slice none 0 0, Value.slice none 0 0] 67)) W0.heap.size PX.o.arr := blk_new _ _ _
      have hbn := (Below.refl W0.heap.size W0).alloc (Nat.le_refl _) (.cells #[Value.int .i8 0, Value.int .i64 0, Value.bool false, Value.slice none 0 0, Value.slice none 0 0, Value.bool false, Value.bool false, Value.bool false, Value.slice none 0 0, Value.slice none 0 0, Value.bool false, Value.slice none 0 0, Value.slice none 0 0, Value.bool false, Value.slice none 0 0, Value.slice none 0 0, Value.bool false, Value.slice none 0 0, Value.slice none 0 0] 67)
      go_wp2_with (refine BigFrame.wpList_want (by rfl) (fun Kq hKq => wp_storeP (p := ({PX.o with kind := 4, bad := zb, opn := true} : PX)) (q := PX.o) _ _ rfl rfl rfl hnew (fun ws hbs hks => hKq _ _ ?_)))
      go_wp2_with fail
      go_meet
      exact ⟨_, rfl, hbs, by omega, hbn.kp hks hbn.size (fun j hj (e : j = _) => by omega)⟩
    · rw [hpb] at hzb2; rw [hpo] at hzo2; simp only [Bool.false_or, Bool.true_or] at hzb2 hzo2
      subst hzb2
      have cX_0_5 : _ = some (Value.bool p.bad) := X_0.cell 5
      have fX_0_5 := X_0.free 5
      have cX_0_6 : _ = some (Value.bool p.opn) := X_0.cell 6
      have fX_0_6 := X_0.free 6
      rw [hpb] at cX_0_5; rw [hpo] at cX_0_6
      have cY_0_6 : _ = some (Value.bool q.opn) := Y_0.cell 6
      rw [hzo2] at cY_0_6
      have hnew : Blk (W0.alloc (.cells #[Value.int .i8 0, Value.int .i64 0, Value.bool false, Value.slice none 0 0, Value.slice none 0 0, Value.bool false, Value.bool false, Value.bool false, Value.slice none 0 0, Value.slice none 0 0, Value.bool false, Value.slice none 0 0, Value.slice none 0 0, Value.bool false, Value.slice none 0 0, Value.slice none 0 0, Value.bool false, Value.slice none 0 0, Value.slice none 0 0] 67)) W0.heap.size PX.o.arr := blk_new _ _ _
      have hbn := (Below.refl W0.heap.size W0).alloc (Nat.le_refl _) (.cells #[Value.int .i8 0, Value.int .i64 0, Value.bool false, Value.slice none 0 0, Value.slice none 0 0, Value.bool false, Value.bool false, Value.bool false, Value.slice none 0 0, Value.slice none 0 0, Value.bool false, Value.slice none 0 0, Value.slice none 0 0, Value.bool false, Value.slice none 0 0, Value.slice none 0 0, Value.bool false, Value.slice none 0 0, Value.slice none 0 0] 67)
      go_wp2_with (refine BigFrame.wpList_want (by rfl) (fun Kq hKq => wp_storeP (p := ({PX.o with kind := 4, bad := true, opn := zo} : PX)) (q := PX.o) _ _ rfl rfl rfl hnew (fun ws hbs hks => hKq _ _ ?_)))
      go_wp2_with fail
      go_meet
      exact ⟨_, rfl, hbs, by omega, hbn.kp hks hbn.size (fun j hj (e : j = _) => by omega)⟩
    · rw [hpb] at hzb2; rw [hpo] at hzo2; simp only [Bool.false_or, Bool.true_or] at hzb2 hzo2
      subst hzb2
      subst hzo2
      have cX_0_5 : _ = some (Value.bool p.bad) := X_0.cell 5
      have fX_0_5 := X_0.free 5
      have cX_0_6 : _ = some (Value.bool p.opn) := X_0.cell 6
      have fX_0_6 := X_0.free 6
      rw [hpb] at cX_0_5; rw [hpo] at cX_0_6
      have hnew : Blk (W0.alloc (.cells #[Value.int .i8 0, Value.int .i64 0, Value.bool false, Value.slice none 0 0, Value.slice none 0 0, Value.bool false, Value.bool false, Value.bool false, Value.slice none 0 0, Value.slice none 0 0, Value.bool false, Value.slice none 0 0, Value.slice none 0 0, Value.bool false, Value.slice none 0 0, Value.slice none 0 0, Value.bool false, Value.slice none 0 0, Value.slice none 0 0] 67)) W0.heap.size PX.o.arr := blk_new _ _ _
      have hbn := (Below.refl W0.heap.size W0).alloc (Nat.le_refl _) (.cells #[Value.int .i8 0, Value.int .i64 0, Value.bool false, Value.slice none 0 0, Value.slice none 0 0, Value.bool false, Value.bool false, Value.bool false, Value.slice none 0 0, Value.slice none 0 0, Value.bool false, Value.slice none 0 0, Value.slice none 0 0, Value.bool false, Value.slice none 0 0, Value.slice none 0 0, Value.bool false, Value.slice none 0 0, Value.slice none 0 0] 67)
      go_wp2_with (refine BigFrame.wpList_want (by rfl) (fun Kq hKq => wp_storeP (p := ({PX.o with kind := 4, bad := true, opn := true} : PX)) (q := PX.o) _ _ rfl rfl rfl hnew (fun ws hbs hks => hKq _ _ ?_)))
      go_wp2_with fail
      go_meet
      exact ⟨_, rfl, hbs, by omega, hbn.kp hks hbn.size (fun j hj (e : j = _) => by omega)⟩
  case rest =>
    obtain ⟨gz, rfl, hbz, hge, hBc⟩ := hcut
    have hB_1 : Below W0.heap.size W0 wc := hBc
    have X_1 := X_0.next hB_1
    have Y_1 := Y_0.next hB_1
    have R1_1 := R1_0.next hB_1
    have hbel_1 := hbel_0.next hB_1
    have hsz_1 := hB_1.size
    clear X_0 Y_0 R1_0 hbel_0 hB_1
    clear hBc
    obtain ⟨wd, hwc⟩ : ∃ y : World, y = wc := ⟨_, rfl⟩
    subst hwc
    have Z_1 := hbz
    clear hbz
    skip
    go_wp2_with fail
    go_cut [] (fun wx => Blk wx gz ({PX.o with kind := 4, bad := zb, opn := zo, deep := dd} : PX).arr ∧ Kp (fun j => j = gz) wd wx)
    case first =>
      have hbAcc_1 : Below wd.heap.size wd wd := Below.refl _ _
      go_wp2_with fail
      have hB : Below wd.heap.size wd wd.drew := (Below.refl _ _).drew
      have hB_2 : Below wd.heap.size wd wd.drew := hB
      have X_2 := X_1.next hB_2
      have Y_2 := Y_1.next hB_2
      have R1_2 := R1_1.next hB_2
      have Z_2 := Z_1.next hB_2
      have hbAcc_2 := hbAcc_1.next hB_2
      have hbel_2 := hbel_1.next hB_2
      have hsz_2 := hB_2.size
      clear X_1 Y_1 R1_1 Z_1 hbAcc_1 hbel_1 hB_2
      clear hB
      refine wp_region_noPanic ?_
      refine D_region (S := (fun w' => Blk w' (w.heap.size) p.arr ∧ Blk w' (w.heap.size + 1) q.arr)) (T := [11]) (by kernel_rfl) ⟨X_2, Y_2⟩ (fun hHeld => ?_)
      clear hHeld
      generalize wd.drew = vd2 at *
      refine D_load (i := 0) (d := some 29) (v := (.agg p.arr)) [0, 1, 4, 5] rfl rfl (by kernel_rfl) (by kernel_rfl) (by kernel_rfl) (by kernel_rfl) (by kernel_rfl) (by kernel_rfl) (fun _ _ _ h => h) (by rfl) (fun w hSw => by (obtain ⟨b0, b1⟩ := hSw); exact exec_loadB 67 _ rfl rfl b0 Try.underlying67 rfl (by kernel_rfl)) ⟨X_2, Y_2⟩ ?_
      (try simp only [Act.put, List.setIfInBounds_toArray, List.set_cons_zero, List.set_cons_succ])
      refine D_load (i := 1) (d := some 30) (v := (.agg p.arr)) [0, 1, 4, 5] rfl rfl (by kernel_rfl) (by kernel_rfl) (by kernel_rfl) (by kernel_rfl) (by kernel_rfl) (by kernel_rfl) (fun _ _ _ h => h) (by rfl) (fun w hSw => by (obtain ⟨b0, b1⟩ := hSw); exact exec_loadB 67 _ rfl rfl b0 Try.underlying67 rfl (by kernel_rfl)) ⟨X_2, Y_2⟩ ?_
      (try simp only [Act.put, List.setIfInBounds_toArray, List.set_cons_zero, List.set_cons_succ])
      refine D_load (i := 4) (d := some 33) (v := (.agg q.arr)) [0, 1, 4, 5] rfl rfl (by kernel_rfl) (by kernel_rfl) (by kernel_rfl) (by kernel_rfl) (by kernel_rfl) (by kernel_rfl) (fun _ _ _ h => h) (by rfl) (fun w hSw => by (obtain ⟨b0, b1⟩ := hSw); exact exec_loadB 67 _ rfl rfl b1 Try.underlying67 rfl (by kernel_rfl)) ⟨X_2, Y_2⟩ ?_
      (try simp only [Act.put, List.setIfInBounds_toArray, List.set_cons_zero, List.set_cons_succ])
      refine D_load (i := 5) (d := some 34) (v := (.agg q.arr)) [0, 1, 4, 5] rfl rfl (by kernel_rfl) (by kernel_rfl) (by kernel_rfl) (by kernel_rfl) (by kernel_rfl) (by kernel_rfl) (fun _ _ _ h => h) (by rfl) (fun w hSw => by (obtain ⟨b0, b1⟩ := hSw); exact exec_loadB 67 _ rfl rfl b1 Try.underlying67 rfl (by kernel_rfl)) ⟨X_2, Y_2⟩ ?_
      (try simp only [Act.put, List.setIfInBounds_toArray, List.set_cons_zero, List.set_cons_succ])
      refine D_one (i := 2) (by kernel_rfl) rfl (fun Kq hKq => ?_)
      go_simp
      refine (Hs1.out _).mono ?_
      rintro e w3 ⟨rfl, hB⟩
      have hB_3 : Below vd2.heap.size vd2 w3 := (bl.next hB)
      have X_3 := X_2.next hB_3
      have Y_3 := Y_2.next hB_3
      have R1_3 := R1_2.next hB_3
      have Z_3 := Z_2.next hB_3
      have hbAcc_3 := hbAcc_2.next hB_3
      have hbel_3 := hbel_2.next hB_3
      have hsz_3 := hB_3.size
      clear X_2 Y_2 R1_2 Z_2 hbAcc_2 hbel_2 hB_3
      try clear hB
      (try go_wp2_with fail)
      refine hKq.out _ _ ⟨X_3, Y_3⟩ (fun hHeld => ?_)
      clear hHeld hKq Kq
      (try simp only [Act.put, List.setIfInBounds_toArray, List.set_cons_zero, List.set_cons_succ])
      refine D_one (i := 3) (by kernel_rfl) rfl (fun Kq hKq => ?_)
      go_simp
      refine (Hw1.out _).mono ?_
      rintro e w4 ⟨rfl, hB⟩
      have hB_4 : Below w3.heap.size w3 w4 := (bl.next hB)
      have X_4 := X_3.next hB_4
      have Y_4 := Y_3.next hB_4
      have R1_4 := R1_3.next hB_4
      have Z_4 := Z_3.next hB_4
      have hbAcc_4 := hbAcc_3.next hB_4
      have hbel_4 := hbel_3.next hB_4
      have hsz_4 := hB_4.size
      clear X_3 Y_3 R1_3 Z_3 hbAcc_3 hbel_3 hB_4
      try clear hB
      (try go_wp2_with fail)
      refine hKq.out _ _ ⟨X_4, Y_4⟩ (fun hHeld => ?_)
      clear hHeld hKq Kq
      (try simp only [Act.put, List.setIfInBounds_toArray, List.set_cons_zero, List.set_cons_succ])
      refine D_one (i := 6) (by kernel_rfl) rfl (fun Kq hKq => ?_)
      go_simp
      refine (Hs2.out _).mono ?_
      rintro e w5 ⟨rfl, hB⟩
      have hB_5 : Below w4.heap.size w4 w5 := (bl.next hB)
      have X_5 := X_4.next hB_5
      have Y_5 := Y_4.next hB_5
      have R1_5 := R1_4.next hB_5
      have Z_5 := Z_4.next hB_5
      have hbAcc_5 := hbAcc_4.next hB_5
      have hbel_5 := hbel_4.next hB_5
      have hsz_5 := hB_5.size
      clear X_4 Y_4 R1_4 Z_4 hbAcc_4 hbel_4 hB_5
      try clear hB
      (try go_wp2_with fail)
      refine hKq.out _ _ ⟨X_5, Y_5⟩ (fun hHeld => ?_)
      clear hHeld hKq Kq
      (try simp only [Act.put, List.setIfInBounds_toArray, List.set_cons_zero, List.set_cons_succ])
      refine D_pure (i := 7) (d := some 36) (v := (.bool (!s2))) rfl rfl (by kernel_rfl) (by kernel_rfl) (by kernel_rfl) (fun _ _ _ h => h) (by rfl) (fun _ => by go_simp) ?_
      (try simp only [Act.put, List.setIfInBounds_toArray, List.set_cons_zero, List.set_cons_succ])
      refine D_one (i := 8) (by kernel_rfl) rfl (fun Kq hKq => ?_)
      go_simp
      refine (Hw2.out _).mono ?_
      rintro e w6 ⟨rfl, hB⟩
      have hB_6 : Below w5.heap.size w5 w6 := (bl.next hB)
      have X_6 := X_5.next hB_6
      have Y_6 := Y_5.next hB_6
      have R1_6 := R1_5.next hB_6
      have Z_6 := Z_5.next hB_6
      have hbAcc_6 := hbAcc_5.next hB_6
      have hbel_6 := hbel_5.next hB_6
      have hsz_6 := hB_6.size
      clear X_5 Y_5 R1_5 Z_5 hbAcc_5 hbel_5 hB_6
      try clear hB
      (try go_wp2_with fail)
      refine hKq.out _ _ ⟨X_6, Y_6⟩ (fun hHeld => ?_)
      clear hHeld hKq Kq
      (try simp only [Act.put, List.setIfInBounds_toArray, List.set_cons_zero, List.set_cons_succ])
      refine D_pure (i := 9) (d := some 38) (v := (.int .i64 dd)) rfl rfl (by kernel_rfl) (by kernel_rfl) (by kernel_rfl) (fun _ _ _ h => h) (by rfl) (fun _ => by have h9 := hdm.out; rw [hdd1.out] at h9; go_simp) ?_
      (try simp only [Act.put, List.setIfInBounds_toArray, List.set_cons_zero, List.set_cons_succ])
      refine D_pure (i := 10) (d := some 39) (v := (.pointer (some ⟨gz, 1, none⟩))) rfl rfl (by kernel_rfl) (by kernel_rfl) (by kernel_rfl) (fun _ _ _ h => h) (by rfl) (fun _ => by go_simp) ?_
      (try simp only [Act.put, List.setIfInBounds_toArray, List.set_cons_zero, List.set_cons_succ])
      have cZ_6_1 : _ = some (Value.int .i64 ({PX.o with kind := 4, bad := zb, opn := zo} : PX).deep) := Z_6.cell 1
      have fZ_6_1 := Z_6.free 1
      refine D_late (i := 11) (by kernel_rfl) rfl (by kernel_rfl) (fun Kq hKq => ?_)
      go_simp
      refine hKq.out _ _ ?_
      clear hKq Kq
      (try simp only [Act.put, List.setIfInBounds_toArray, List.set_cons_zero, List.set_cons_succ])
      refine D_done (by kernel_rfl) ?_ _
      refine NoPanic.normal ?_
      go_wp2_with fail
      go_meet
      exact ⟨part_put1 Z_6 dd, kp_put1 (q := fun j => j = gz) (kp_of_below hbAcc_6) rfl _ _⟩
    case rest =>
      obtain ⟨hbk, hks0⟩ := hcut
      have Z_2 := hbk
      have X_2 := X_1.kp hks0 (show ¬ (w.heap.size = gz) by omega)
      have Y_2 := Y_1.kp hks0 (show ¬ (w.heap.size + 1 = gz) by omega)
      have R1_2 := R1_1.kp hks0 (show ¬ (w.heap.size + 1 + 1 = gz) by omega)
      have hbel_2 := hbel_1.kp hks0 hbel_1.size (fun j hj (e : j = gz) => by omega)
      have hsz_2 := hks0.size
      clear hbk hks0 hbel_1 X_1 Y_1 R1_1 Z_1
      obtain ⟨wv, hwc⟩ : ∃ y : World, y = wc := ⟨_, rfl⟩
      subst hwc
      have cz : _ = some (Value.bool zb) := Z_2.cell 5
      cases zb
      ·
        have cx : _ = some (Value.bool p.opn) := X_2.cell 6
        cases hpo : p.opn
        case true =>
          rw [hpo] at cx
          obtain ⟨F1, hF1⟩ : ∃ z, (rgtV 4 P.L Q.v).1 = z := ⟨_, rfl⟩
          obtain ⟨bb, hbb⟩ : ∃ z, (rgtV 4 P.L Q.v).2 = z := ⟨_, rfl⟩
          have hF1 := hid hF1
          have hbb := hid hbb
          have cX_2_2 : _ = some (Value.bool p.v.s) := X_2.cell 2
          have fX_2_2 := X_2.free 2
          have cX_2_3 : _ = some (Value.slice p.v.a p.v.n p.v.c) := X_2.cell 3
          have fX_2_3 := X_2.free 3
          have cX_2_4 : _ = some (Value.slice p.v.b p.v.m p.v.d) := X_2.cell 4
          have fX_2_4 := X_2.free 4
          have cY_2_2 : _ = some (Value.bool q.v.s) := Y_2.cell 2
          have fY_2_2 := Y_2.free 2
          have cY_2_3 : _ = some (Value.slice q.v.a q.v.n q.v.c) := Y_2.cell 3
          have fY_2_3 := Y_2.free 3
          have cY_2_4 : _ = some (Value.slice q.v.b q.v.m q.v.d) := Y_2.cell 4
          have fY_2_4 := Y_2.free 4
          have hzl := Z_2.lt
          go_wp2_with (refine BigFrame.wpList_want (by rfl) (fun Kq hKq => wp_loadPL _ rfl rfl X_2 (hKq _ _ ?_)))
          refine (show Calls _ _ _ _ (RetLine (fun g => (N g ∧ g ≠ w.heap.size + 1 + 1) ∧ g ≠ gz) _ F1 (erB bb)) by (have h := rgt_any (N := (fun g => (N g ∧ g ≠ w.heap.size + 1 + 1) ∧ g ≠ gz)) (show Kd 4 by unfold Kd; omega) ((hpp.out.L.mono (M := (fun g => (N g ∧ g ≠ w.heap.size + 1 + 1) ∧ g ≠ gz)) (fun g hg hn => ⟨⟨hn, by omega⟩, by omega⟩)).below hbel_2) hPP.out.L ((hqq.out.v.below hbel_2).rdQ hQQ.out.v) hQQ.out.v hJ hJ hJ1 (fun g hg => ⟨⟨hNN.out g (by omega), by omega⟩, by omega⟩)); (rw [hF1.out, hbb.out] at h); exact h).mono ?_
          rintro e w3 ⟨f, rfl, hL, hB⟩
          have hB_3 : Below wv.heap.size wv w3 := (bl.next hB)
          have X_3 := X_2.next hB_3
          have Y_3 := Y_2.next hB_3
          have R1_3 := R1_2.next hB_3
          have Z_3 := Z_2.next hB_3
          have hbel_3 := hbel_2.next hB_3
          have hsz_3 := hB_3.size
          clear X_2 Y_2 R1_2 Z_2 hbel_2 hB_3
          clear cX_2_2 fX_2_2 cX_2_3 fX_2_3 cX_2_4 fX_2_4 cY_2_2 fY_2_2 cY_2_3 fY_2_3 cY_2_4 fY_2_4
          have hLL := hid hL
          clear hL
          try clear hB
          have he1 : (erB bb == 0) = !bb := by cases bb <;> rfl
          have he2 : (erB bb != 0) = bb := by cases bb <;> rfl
          have he3 : decide (erB bb = 0) = !bb := by cases bb <;> rfl
          clear cx cz
          go_wp2_with (first | (refine BigFrame.wpList_want (by rfl) (fun Kq hKq => wp_storePL (f := f) (q := ({PX.o with kind := 4, bad := false, opn := zo, deep := dd} : PX)) _ _ rfl rfl rfl Z_3 (fun ws hbs hks => hKq _ _ ?_)); have hbs : Blk ws gz ({PX.o with kind := 4, bad := false, opn := zo, deep := dd, A := f.A, B := f.B, C := f.C, D := f.D} : PX).arr := hbs; have cb : ws.cell? ⟨gz, 5, none⟩ = some (Value.bool false) := hbs.cell 5; have fb := hbs.free 5; have hb5 : Blk (ws.setCell ⟨gz, 5, none⟩ (.bool bb)) gz ({PX.o with kind := 4, bad := bb, opn := zo, deep := dd, A := f.A, B := f.B, C := f.C, D := f.D} : PX).arr := part_put5 hbs bb; have hk5 := hks.kp (kp_put1 (Kp.refl (fun j => j = gz) ws) rfl 5 (.bool bb)) (fun j hj e => .inl e); have hr5 := R1_3.kp hk5 (show ¬ (w.heap.size + 1 + 1 = gz) by omega); have hbl5 := hbel_3.kp hk5 hbel_3.size (fun j hj (e : j = gz) => by omega); have hL5 := hid (hLL.out.kp hk5 (fun j (e : j = gz) hn => hn.2 e))) | refine BigFrame.wpList_want (by rfl) (fun Kq hKq => wp_loadP _ rfl rfl hb5 (hKq _ _ ?_)) | refine BigFrame.wpList_want (by rfl) (fun Kq hKq => wp_storeP (p := ({PX.o with kind := 4, bad := bb, opn := zo, deep := dd, A := f.A, B := f.B, C := f.C, D := f.D} : PX)) _ _ rfl rfl rfl hr5 (fun wt hbt hkt => hKq _ _ ?_)))
          have hbl := hbl5.kp hkt hbl5.size (fun j hj (e : j = _) => by omega)
          go_wp2_with fail
          refine bodyPost_ret (res_blk Try.results67 rfl hbt Try.underlying67 rfl (by kernel_rfl)) rfl ?_
          have hjv : joinV 4 P Q = ⟨4, dd, 0, bb, true, F1⟩ := by
            unfold joinV; rw [← hpp.out.bad, ← hqq.out.bad, hzb1.out, ← hpp.out.opn, ← hqq.out.opn]
            rw [if_neg (by decide), hpo, if_pos rfl, hde.out]
            rw [hF1.out, hbb.out]
          rw [hjv]
          exact ⟨({PX.o with kind := 4, bad := bb, opn := zo, deep := dd, A := f.A, B := f.B, C := f.C, D := f.D} : PX), rfl, ⟨rfl, rfl, rfl, (show zo = true by rw [← hzo1.out, hpo]; rfl), FA.o N _, (fun _ h => by cases h), ((hL5.out.kp hkt (fun j (e : j = _) hn => hn.1.2 e)).mono (fun g _ hn => hn.1.1))⟩, hbl⟩
        case false =>
          rw [hpo] at cx
          have cy : _ = some (Value.bool q.opn) := Y_2.cell 6
          cases hqo : q.opn
          case true =>
            rw [hqo] at cy
            obtain ⟨F1, hF1⟩ : ∃ z, (lftV 4 Q.L P.v).1 = z := ⟨_, rfl⟩
            obtain ⟨bb, hbb⟩ : ∃ z, (lftV 4 Q.L P.v).2 = z := ⟨_, rfl⟩
            have hF1 := hid hF1
            have hbb := hid hbb
            have cX_2_2 : _ = some (Value.bool p.v.s) := X_2.cell 2
            have fX_2_2 := X_2.free 2
            have cX_2_3 : _ = some (Value.slice p.v.a p.v.n p.v.c) := X_2.cell 3
            have fX_2_3 := X_2.free 3
            have cX_2_4 : _ = some (Value.slice p.v.b p.v.m p.v.d) := X_2.cell 4
            have fX_2_4 := X_2.free 4
            have cY_2_2 : _ = some (Value.bool q.v.s) := Y_2.cell 2
            have fY_2_2 := Y_2.free 2
            have cY_2_3 : _ = some (Value.slice q.v.a q.v.n q.v.c) := Y_2.cell 3
            have fY_2_3 := Y_2.free 3
            have cY_2_4 : _ = some (Value.slice q.v.b q.v.m q.v.d) := Y_2.cell 4
            have fY_2_4 := Y_2.free 4
            have hzl := Z_2.lt
            go_wp2_with (refine BigFrame.wpList_want (by rfl) (fun Kq hKq => wp_loadPL _ rfl rfl Y_2 (hKq _ _ ?_)))
            refine (show Calls _ _ _ _ (RetLine (fun g => (N g ∧ g ≠ w.heap.size + 1 + 1) ∧ g ≠ gz) _ F1 (erB bb)) by (have h := lft_any (N := (fun g => (N g ∧ g ≠ w.heap.size + 1 + 1) ∧ g ≠ gz)) (show Kd 4 by unfold Kd; omega) ((hqq.out.L.mono (M := (fun g => (N g ∧ g ≠ w.heap.size + 1 + 1) ∧ g ≠ gz)) (fun g hg hn => ⟨⟨hn, by omega⟩, by omega⟩)).below hbel_2) hQQ.out.L ((hpp.out.v.below hbel_2).rdQ hPP.out.v) hPP.out.v hJ hJ (fun g hg => ⟨⟨hNN.out g (by omega), by omega⟩, by omega⟩)); (rw [hF1.out, hbb.out] at h); exact h).mono ?_
            rintro e w3 ⟨f, rfl, hL, hB⟩
            have hB_3 : Below wv.heap.size wv w3 := (bl.next hB)
            have X_3 := X_2.next hB_3
            have Y_3 := Y_2.next hB_3
            have R1_3 := R1_2.next hB_3
            have Z_3 := Z_2.next hB_3
            have hbel_3 := hbel_2.next hB_3
            have hsz_3 := hB_3.size
            clear X_2 Y_2 R1_2 Z_2 hbel_2 hB_3
            clear cX_2_2 fX_2_2 cX_2_3 fX_2_3 cX_2_4 fX_2_4 cY_2_2 fY_2_2 cY_2_3 fY_2_3 cY_2_4 fY_2_4
            have hLL := hid hL
            clear hL
            try clear hB
            have he1 : (erB bb == 0) = !bb := by cases bb <;> rfl
            have he2 : (erB bb != 0) = bb := by cases bb <;> rfl
            have he3 : decide (erB bb = 0) = !bb := by cases bb <;> rfl
            clear cx cz
            go_wp2_with (first | (refine BigFrame.wpList_want (by rfl) (fun Kq hKq => wp_storePL (f := f) (q := ({PX.o with kind := 4, bad := false, opn := zo, deep := dd} : PX)) _ _ rfl rfl rfl Z_3 (fun ws hbs hks => hKq _ _ ?_)); have hbs : Blk ws gz ({PX.o with kind := 4, bad := false, opn := zo, deep := dd, A := f.A, B := f.B, C := f.C, D := f.D} : PX).arr := hbs; have cb : ws.cell? ⟨gz, 5, none⟩ = some (Value.bool false) := hbs.cell 5; have fb := hbs.free 5; have hb5 : Blk (ws.setCell ⟨gz, 5, none⟩ (.bool bb)) gz ({PX.o with kind := 4, bad := bb, opn := zo, deep := dd, A := f.A, B := f.B, C := f.C, D := f.D} : PX).arr := part_put5 hbs bb; have hk5 := hks.kp (kp_put1 (Kp.refl (fun j => j = gz) ws) rfl 5 (.bool bb)) (fun j hj e => .inl e); have hr5 := R1_3.kp hk5 (show ¬ (w.heap.size + 1 + 1 = gz) by omega); have hbl5 := hbel_3.kp hk5 hbel_3.size (fun j hj (e : j = gz) => by omega); have hL5 := hid (hLL.out.kp hk5 (fun j (e : j = gz) hn => hn.2 e))) | refine BigFrame.wpList_want (by rfl) (fun Kq hKq => wp_loadP _ rfl rfl hb5 (hKq _ _ ?_)) | refine BigFrame.wpList_want (by rfl) (fun Kq hKq => wp_storeP (p := ({PX.o with kind := 4, bad := bb, opn := zo, deep := dd, A := f.A, B := f.B, C := f.C, D := f.D} : PX)) _ _ rfl rfl rfl hr5 (fun wt hbt hkt => hKq _ _ ?_)))
            have hbl := hbl5.kp hkt hbl5.size (fun j hj (e : j = _) => by omega)
            go_wp2_with fail
            refine bodyPost_ret (res_blk Try.results67 rfl hbt Try.underlying67 rfl (by kernel_rfl)) rfl ?_
            have hjv : joinV 4 P Q = ⟨4, dd, 0, bb, true, F1⟩ := by
              unfold joinV; rw [← hpp.out.bad, ← hqq.out.bad, hzb1.out, ← hpp.out.opn, ← hqq.out.opn]
              rw [if_neg (by decide), hpo, if_neg (by decide), hqo, if_pos rfl, hde.out]
              rw [hF1.out, hbb.out]
            rw [hjv]
            exact ⟨({PX.o with kind := 4, bad := bb, opn := zo, deep := dd, A := f.A, B := f.B, C := f.C, D := f.D} : PX), rfl, ⟨rfl, rfl, rfl, (show zo = true by rw [← hzo1.out, hpo, hqo]; rfl), FA.o N _, (fun _ h => by cases h), ((hL5.out.kp hkt (fun j (e : j = _) hn => hn.1.2 e)).mono (fun g _ hn => hn.1.1))⟩, hbl⟩
          case false =>
            rw [hqo] at cy
            obtain ⟨F1, hF1⟩ : ∃ z, (bthV 4 P.v Q.v).1 = z := ⟨_, rfl⟩
            obtain ⟨bb, hbb⟩ : ∃ z, (bthV 4 P.v Q.v).2 = z := ⟨_, rfl⟩
            have hF1 := hid hF1
            have hbb := hid hbb
            have cX_2_2 : _ = some (Value.bool p.v.s) := X_2.cell 2
            have fX_2_2 := X_2.free 2
            have cX_2_3 : _ = some (Value.slice p.v.a p.v.n p.v.c) := X_2.cell 3
            have fX_2_3 := X_2.free 3
            have cX_2_4 : _ = some (Value.slice p.v.b p.v.m p.v.d) := X_2.cell 4
            have fX_2_4 := X_2.free 4
            have cY_2_2 : _ = some (Value.bool q.v.s) := Y_2.cell 2
            have fY_2_2 := Y_2.free 2
            have cY_2_3 : _ = some (Value.slice q.v.a q.v.n q.v.c) := Y_2.cell 3
            have fY_2_3 := Y_2.free 3
            have cY_2_4 : _ = some (Value.slice q.v.b q.v.m q.v.d) := Y_2.cell 4
            have fY_2_4 := Y_2.free 4
            have hzl := Z_2.lt
            go_wp2_with (fail)
            refine (show Calls _ _ _ _ (RetBoth (fun g => (N g ∧ g ≠ w.heap.size + 1 + 1) ∧ g ≠ gz) _ F1 bb) by (have h := bth_any (N := (fun g => (N g ∧ g ≠ w.heap.size + 1 + 1) ∧ g ≠ gz)) (show Kd 4 by unfold Kd; omega) ((hpp.out.v.below hbel_2).rdQ hPP.out.v) hJ ((hqq.out.v.below hbel_2).rdQ hQQ.out.v) hJ (fun g hg => ⟨⟨hNN.out g (by omega), by omega⟩, by omega⟩)); (rw [hF1.out, hbb.out] at h); exact h).mono ?_
            rintro e w3 ⟨f, rfl, hL, hL2, hB⟩
            have hB_3 : Below wv.heap.size wv w3 := (bl.next hB)
            have X_3 := X_2.next hB_3
            have Y_3 := Y_2.next hB_3
            have R1_3 := R1_2.next hB_3
            have Z_3 := Z_2.next hB_3
            have hbel_3 := hbel_2.next hB_3
            have hsz_3 := hB_3.size
            clear X_2 Y_2 R1_2 Z_2 hbel_2 hB_3
            clear cX_2_2 fX_2_2 cX_2_3 fX_2_3 cX_2_4 fX_2_4 cY_2_2 fY_2_2 cY_2_3 fY_2_3 cY_2_4 fY_2_4
            have hLL := hid hL
            have hLN := hid hL2
            clear hL hL2
            try clear hB
            have he1 : (erB bb == 0) = !bb := by cases bb <;> rfl
            have he2 : (erB bb != 0) = bb := by cases bb <;> rfl
            have he3 : decide (erB bb = 0) = !bb := by cases bb <;> rfl
            clear cx cz
            have cZ_3_2 : _ = some (Value.bool ({PX.o with kind := 4, bad := false, opn := zo, deep := dd} : PX).v.s) := Z_3.cell 2
            have fZ_3_2 := Z_3.free 2
            have cZ_3_3 : _ = some (Value.slice ({PX.o with kind := 4, bad := false, opn := zo, deep := dd} : PX).v.a ({PX.o with kind := 4, bad := false, opn := zo, deep := dd} : PX).v.n ({PX.o with kind := 4, bad := false, opn := zo, deep := dd} : PX).v.c) := Z_3.cell 3
            have fZ_3_3 := Z_3.free 3
            have cZ_3_4 : _ = some (Value.slice ({PX.o with kind := 4, bad := false, opn := zo, deep := dd} : PX).v.b ({PX.o with kind := 4, bad := false, opn := zo, deep := dd} : PX).v.m ({PX.o with kind := 4, bad := false, opn := zo, deep := dd} : PX).v.d) := Z_3.cell 4
            have fZ_3_4 := Z_3.free 4
            have cZ_3_5 : _ = some (Value.bool ({PX.o with kind := 4, bad := false, opn := zo, deep := dd} : PX).bad) := Z_3.cell 5
            have fZ_3_5 := Z_3.free 5
            go_upto_region 13 with fail
            have hks := kp_put3v (q := fun j => j = gz) (Kp.refl (fun j => j = gz) w3) rfl 2 3 4 (Value.bool f.s) (Value.slice f.a f.n f.c) (Value.slice f.b f.m f.d)
            have hbs : Blk (((w3.setCell ⟨gz, 2, none⟩ (Value.bool f.s)).setCell ⟨gz, 3, none⟩ (Value.slice f.a f.n f.c)).setCell ⟨gz, 4, none⟩ (Value.slice f.b f.m f.d)) gz ({PX.o with kind := 4, bad := false, opn := zo, deep := dd, v := f} : PX).arr := part_putv Z_3 f
            clear cZ_3_2 fZ_3_2 cZ_3_3 fZ_3_3 cZ_3_4 fZ_3_4 cZ_3_5 fZ_3_5
            generalize (((w3.setCell ⟨gz, 2, none⟩ (Value.bool f.s)).setCell ⟨gz, 3, none⟩ (Value.slice f.a f.n f.c)).setCell ⟨gz, 4, none⟩ (Value.slice f.b f.m f.d)) = ws at *
            have cb : ws.cell? ⟨gz, 5, none⟩ = some (Value.bool false) := hbs.cell 5
            have fb := hbs.free 5
            have hb5 : Blk (ws.setCell ⟨gz, 5, none⟩ (.bool bb)) gz ({PX.o with kind := 4, bad := bb, opn := zo, deep := dd, v := f} : PX).arr := part_put5 hbs bb
            have hk5 := hks.kp (kp_put1 (Kp.refl (fun j => j = gz) ws) rfl 5 (.bool bb)) (fun j hj e => .inl e)
            have hr5 := R1_3.kp hk5 (show ¬ (w.heap.size + 1 + 1 = gz) by omega)
            have hbl5 := hbel_3.kp hk5 hbel_3.size (fun j hj (e : j = gz) => by omega)
            have hL5 := hid (hLL.out.kp hk5 (fun j (e : j = gz) hn => hn.2 e))
            have hN5 := hid (fun hb => (hLN.out hb).kp hk5 (fun j (e : j = gz) hn => hn.2 e))
            go_wp2_with (first | refine BigFrame.wpList_want (by rfl) (fun Kq hKq => wp_loadP _ rfl rfl hb5 (hKq _ _ ?_)) | refine BigFrame.wpList_want (by rfl) (fun Kq hKq => wp_storeP (p := ({PX.o with kind := 4, bad := bb, opn := zo, deep := dd, v := f} : PX)) _ _ rfl rfl rfl hr5 (fun wt hbt hkt => hKq _ _ ?_)))
            have hbl := hbl5.kp hkt hbl5.size (fun j hj (e : j = _) => by omega)
            go_wp2_with fail
            refine bodyPost_ret (res_blk Try.results67 rfl hbt Try.underlying67 rfl (by kernel_rfl)) rfl ?_
            have hjv : joinV 4 P Q = ⟨4, dd, F1, bb, false, LV.z⟩ := by
              unfold joinV; rw [← hpp.out.bad, ← hqq.out.bad, hzb1.out, ← hpp.out.opn, ← hqq.out.opn]
              rw [if_neg (by decide), hpo, if_neg (by decide), hqo, if_neg (by decide), hde.out]
              rw [hF1.out, hbb.out]
            rw [hjv]
            exact ⟨({PX.o with kind := 4, bad := bb, opn := zo, deep := dd, v := f} : PX), rfl, ⟨rfl, rfl, rfl, (show zo = false by rw [← hzo1.out, hpo, hqo]; rfl), ((hL5.out.kp hkt (fun j (e : j = _) hn => hn.1.2 e)).mono (fun g _ hn => hn.1.1)), (fun hb _ => (((hN5.out hb).kp hkt (fun j (e : j = _) hn => hn.1.2 e)).mono (fun g _ hn => hn.1.1))), LineOK.z N _⟩, hbl⟩
      ·
        go_wp2_with (first | refine BigFrame.wpList_want (by rfl) (fun Kq hKq => wp_loadP _ rfl rfl Z_2 (hKq _ _ ?_)) | refine BigFrame.wpList_want (by rfl) (fun Kq hKq => wp_storeP (p := ({PX.o with kind := 4, bad := true, opn := zo, deep := dd} : PX)) _ _ rfl rfl rfl R1_2 (fun ws hbs hks => hKq _ _ ?_)))
        have hbl := hbel_2.kp hks hbel_2.size (fun j hj (e : j = _) => by omega)
        go_wp2_with fail
        refine bodyPost_ret (res_blk Try.results67 rfl hbs Try.underlying67 rfl (by kernel_rfl)) rfl ?_
        have hjv : joinV 4 P Q = ⟨4, dd, 0, true, zo, LV.z⟩ := by
          unfold joinV; rw [← hpp.out.bad, ← hqq.out.bad, hzb1.out, ← hpp.out.opn, ← hqq.out.opn]
          rw [if_pos rfl, hde.out, hzo1.out]
        rw [hjv]
        exact ⟨({PX.o with kind := 4, bad := true, opn := zo, deep := dd} : PX), rfl, ⟨rfl, rfl, rfl, rfl, FA.o N _, (fun h => by cases h), LineOK.z N _⟩, hbl⟩

set_option maxRecDepth 100000 in
set_option maxHeartbeats 6000000 in
theorem join_5 {w : World} {N : Nat → Prop} {p q : PX} {P Q : PV} {J : Nat} (hp : PartOK N w p P) (hq : PartOK N w q Q) (hP : PS P J) (hQ : PS Q J) (hJ : J ≤ 300000) (hJ1 : 1 ≤ J) (h0 : 0 ≤ P.deep) (h1 : P.deep ≤ 500000) (h2 : 0 ≤ Q.deep) (h3 : Q.deep ≤ 500000) (hN : ∀ g, w.heap.size ≤ g → N g) :
    Calls Try.prog 67 #[.int .i8 5, .agg p.arr, .agg q.arr] w (RetPart N w (joinV 5 P Q)) := by
  have hNN := hid hN
  have hpp := hid hp
  have hqq := hid hq
  have hPP := hid hP
  have hQQ := hid hQ
  have hp0 : 0 ≤ p.deep := by rw [hp.deep]; exact h0
  have hp1 : p.deep ≤ 500000 := by rw [hp.deep]; exact h1
  have hq0 : 0 ≤ q.deep := by rw [hq.deep]; exact h2
  have hq1 : q.deep ≤ 500000 := by rw [hq.deep]; exact h3
  skip
  obtain ⟨zb, hzb⟩ : ∃ z, (p.bad || q.bad) = z := ⟨_, rfl⟩
  obtain ⟨zo, hzo⟩ : ∃ z, (p.opn || q.opn) = z := ⟨_, rfl⟩
  obtain ⟨s1, hs1⟩ : ∃ z, (p.kind == 2 || p.kind == 3) = z := ⟨_, rfl⟩
  obtain ⟨s2, hs2⟩ : ∃ z, (q.kind == 1 || q.kind == 6) = z := ⟨_, rfl⟩
  obtain ⟨s3, hs3⟩ : ∃ z, (q.kind == 2 || q.kind == 3) = z := ⟨_, rfl⟩
  obtain ⟨d1, hd1⟩ : ∃ z, dpB s1 p.deep = z := ⟨_, rfl⟩
  obtain ⟨d2, hd2⟩ : ∃ z, dpB (!s2) q.deep = z := ⟨_, rfl⟩
  obtain ⟨d3, hd3⟩ : ∃ z, dpB s3 q.deep = z := ⟨_, rfl⟩
  have Hs1 := hid (fun w => (show Calls Try.prog 77 #[.agg p.arr] w (RetBl w s1) from hs1 ▸ sum_any p))
  have Hs2 := hid (fun w => (show Calls Try.prog 76 #[.agg q.arr] w (RetBl w s2) from hs2 ▸ single_any q))
  have Hs3 := hid (fun w => (show Calls Try.prog 77 #[.agg q.arr] w (RetBl w s3) from hs3 ▸ sum_any q))
  have Hw1 := hid (fun w => (show Calls Try.prog 75 #[.agg p.arr, .bool s1] w (RetIb w d1) from hd1 ▸ within_any p s1 hp0 (by omega)))
  have Hw2 := hid (fun w => (show Calls Try.prog 75 #[.agg q.arr, .bool (!s2)] w (RetIb w d2) from hd2 ▸ within_any q (!s2) hq0 (by omega)))
  have Hw3 := hid (fun w => (show Calls Try.prog 75 #[.agg q.arr, .bool s3] w (RetIb w d3) from hd3 ▸ within_any q s3 hq0 (by omega)))
  obtain ⟨dd, hdd⟩ : ∃ z, mxI d1 d2 = z := ⟨_, rfl⟩
  have hdm := hid (mxI_eq d1 d2)
  have hde := hid (show dpJ 5 P Q = dd by unfold dpJ; rw [if_pos (by decide), ← hp.deep, ← hq.deep, ← hp.kind, ← hq.kind, hs1, hs2, hd1, hd2]; exact hdd)
  have hdd1 := hid hdd
  have hzb1 := hid hzb
  have hzo1 := hid hzo
  clear hp hq hP hQ hN h0 h1 h2 h3 hdd hzb hzo hs1 hs2 hs3 hd1 hd2 hd3
  have hent := ent3 w p.arr q.arr #[Value.int .i8 0, Value.int .i64 0, Value.bool false, Value.slice none 0 0, Value.slice none 0 0, Value.bool false, Value.bool false, Value.bool false, Value.slice none 0 0, Value.slice none 0 0, Value.bool false, Value.slice none 0 0, Value.slice none 0 0, Value.bool false, Value.slice none 0 0, Value.slice none 0 0, Value.bool false, Value.slice none 0 0, Value.slice none 0 0] 67 67 67
  go_enter Try.func67, Try.ntmps67
  go_upto_region 1 with fail
  generalize (((w.alloc (.cells p.arr 67)).alloc (.cells q.arr 67)).alloc (.cells #[Value.int .i8 0, Value.int .i64 0, Value.bool false, Value.slice none 0 0, Value.slice none 0 0, Value.bool false, Value.bool false, Value.bool false, Value.slice none 0 0, Value.slice none 0 0, Value.bool false, Value.slice none 0 0, Value.slice none 0 0, Value.bool false, Value.slice none 0 0, Value.slice none 0 0, Value.bool false, Value.slice none 0 0, Value.slice none 0 0] 67)) = W0 at hent ⊢
  obtain ⟨X_0, Y_0, R0_0, hbel_0, hsz_0⟩ := hent
  have R1_0 : Blk W0 (w.heap.size + 1 + 1) PX.o.arr := R0_0
  clear R0_0
  go_cut [7] (fun s7 wx => ∃ g, s7 = .pointer (some ⟨g, 0, none⟩) ∧ Blk wx g ({PX.o with kind := 5, bad := zb, opn := zo} : PX).arr ∧ W0.heap.size ≤ g ∧ Below W0.heap.size W0 wx)
  case first =>
    have hzb2 := hzb1.out
    have hzo2 := hzo1.out
    clear Hs1 Hs2 Hs3 Hw1 Hw2 Hw3 hdm hde hdd1 hNN hpp hqq hPP hQQ
    cases hpb : p.bad <;> cases hpo : p.opn
    · rw [hpb] at hzb2; rw [hpo] at hzo2; simp only [Bool.false_or, Bool.true_or] at hzb2 hzo2
      have cX_0_5 : _ = some (Value.bool p.bad) := X_0.cell 5
      have fX_0_5 := X_0.free 5
      have cX_0_6 : _ = some (Value.bool p.opn) := X_0.cell 6
      have fX_0_6 := X_0.free 6
      rw [hpb] at cX_0_5; rw [hpo] at cX_0_6
      have cY_0_5 : _ = some (Value.bool q.bad) := Y_0.cell 5
      rw [hzb2] at cY_0_5
      have cY_0_6 : _ = some (Value.bool q.opn) := Y_0.cell 6
      rw [hzo2] at cY_0_6
      have hnew : Blk (W0.alloc (.cells #[Value.int .i8 0, Value.int .i64 0, Value.bool false, Value.slice none 0 0, Value.slice none 0 0, Value.bool false, Value.bool false, Value.bool false, Value.slice none 0 0, Value.slice none 0 0, Value.bool false, Value.slice none 0 0, Value.slice none 0 0, Value.bool false, Value.slice none 0 0, Value.slice none 0 0, Value.bool false, Value.slice none 0 0, Value.slice none 0 0] 67)) W0.heap.size PX.o.arr := blk_new _ _ _
      have hbn := (Below.refl W0.heap.size W0).alloc (Nat.le_refl _) (.cells #[Value.int .i8 0, Value.int .i64 0, Value.bool false, Value.slice none 0 0, Value.slice none 0 0, Value.bool false, Value.bool false, Value.bool false, Value.slice none 0 0, Value.slice none 0 0, Value.bool false, Value.slice none 0 0, Value.slice none 0 0, Value.bool false, Value.slice none 0 0, Value.slice none 0 0, Value.bool false, Value.slice none 0 0, Value.slice none 0 0] 67)
      go_wp2_with (refine BigFrame.wpList_want (by rfl) (fun Kq hKq => wp_storeP (p := ({PX.o with kind := 5, bad := zb, opn := zo} : PX)) (q := PX.o) _ _ rfl rfl rfl hnew (fun ws hbs hks => hKq _ _ ?_)))
      go_wp2_with fail
      go_meet
      exact ⟨_, rfl, hbs, by omega, hbn.kp hks hbn.size (fun j hj (e : j = _) => by omega)⟩
    · rw [hpb] at hzb2; rw [hpo] at hzo2; simp only [Bool.false_or, Bool.true_or] at hzb2 hzo2
      subst hzo2
      have cX_0_5 : _ = some (Value.bool p.bad) := X_0.cell 5
      have fX_0_5 := X_0.free 5
      have cX_0_6 : _ = some (Value.bool p.opn) := X_0.cell 6
      have fX_0_6 := X_0.free 6
      rw [hpb] at cX_0_5; rw [hpo] at cX_0_6
      have cY_0_5 : _ = some (Value.bool q.bad) := Y_0.cell 5
      rw [hzb2] at cY_0_5
      have hnew : Blk (W0.alloc (.cells #[Value.int .i8 0, Value.int .i64 0, Value.bool false, Value.slice none 0 0, Value.slice none 0 0, Value.bool false, Value.bool false, Value.bool false, Value.slice none 0 0, Value.slice none 0 0, Value.bool false, Value.slice none 0 0, Value.slice none 0 0, Value.bool false, Value.slice none 0 0, Value.slice none 0 0, Value.bool false, Value.slice none 0 0, Value.slice none 0 0] 67)) W0.heap.size PX.o.arr := blk_new _ _ _
      have hbn := (Below.refl W0.heap.size W0).alloc (Nat.le_refl _) (.cells #[Value.int .i8 0, Value.int .i64 0, Value.bool false, Value.slice none 0 0, Value.slice none 0 0, Value.bool false, Value.bool false, Value.bool false, Value.slice none 0 0, Value.slice none 0 0, Value.bool false, Value.slice none 0 0, Value.slice none 0 0, Value.bool false, Value.slice none 0 0, Value.slice none 0 0, Value.bool false, Value.slice none 0 0, Value.slice none 0 0] 67)
      go_wp2_with (refine BigFrame.wpList_want (by rfl) (fun Kq hKq => wp_storeP (p := ({PX.o with kind := 5, bad := zb, opn := true} : PX)) (q := PX.o) _ _ rfl rfl rfl hnew (fun ws hbs hks => hKq _ _ ?_)))
      go_wp2_with fail
      go_meet
      exact ⟨_, rfl, hbs, by omega, hbn.kp hks hbn.size (fun j hj (e : j = _) => by omega)⟩
    · rw [hpb] at hzb2; rw [hpo] at hzo2; simp only [Bool.false_or, Bool.true_or] at hzb2 hzo2
      subst hzb2
      have cX_0_5 : _ = some (Value.bool p.bad) := X_0.cell 5
      have fX_0_5 := X_0.free 5
      have cX_0_6 : _ = some (Value.bool p.opn) := X_0.cell 6
      have fX_0_6 := X_0.free 6
      rw [hpb] at cX_0_5; rw [hpo] at cX_0_6
      have cY_0_6 : _ = some (Value.bool q.opn) := Y_0.cell 6
      rw [hzo2] at cY_0_6
      have hnew : Blk (W0.alloc (.cells #[Value.int .i8 0, Value.int .i64 0, Value.bool false, Value.slice none 0 0, Value.slice none 0 0, Value.bool false, Value.bool false, Value.bool false, Value.slice none 0 0, Value.slice none 0 0, Value.bool false, Value.slice none 0 0, Value.slice none 0 0, Value.bool false, Value.slice none 0 0, Value.slice none 0 0, Value.bool false, Value.slice none 0 0, Value.slice none 0 0] 67)) W0.heap.size PX.o.arr := blk_new _ _ _
      have hbn := (Below.refl W0.heap.size W0).alloc (Nat.le_refl _) (.cells #[Value.int .i8 0, Value.int .i64 0, Value.bool false, Value.slice none 0 0, Value.slice none 0 0, Value.bool false, Value.bool false, Value.bool false, Value.slice none 0 0, Value.slice none 0 0, Value.bool false, Value.slice none 0 0, Value.slice none 0 0, Value.bool false, Value.slice none 0 0, Value.slice none 0 0, Value.bool false, Value.slice none 0 0, Value.slice none 0 0] 67)
      go_wp2_with (refine BigFrame.wpList_want (by rfl) (fun Kq hKq => wp_storeP (p := ({PX.o with kind := 5, bad := true, opn := zo} : PX)) (q := PX.o) _ _ rfl rfl rfl hnew (fun ws hbs hks => hKq _ _ ?_)))
      go_wp2_with fail
      go_meet
      exact ⟨_, rfl, hbs, by omega, hbn.kp hks hbn.size (fun j hj (e : j = _) => by omega)⟩
    · rw [hpb] at hzb2; rw [hpo] at hzo2; simp only [Bool.false_or, Bool.true_or] at hzb2 hzo2
      subst hzb2
      subst hzo2
      have cX_0_5 : _ = some (Value.bool p.bad) := X_0.cell 5
      have fX_0_5 := X_0.free 5
      have cX_0_6 : _ = some (Value.bool p.opn) := X_0.cell 6
      have fX_0_6 := X_0.free 6
      rw [hpb] at cX_0_5; rw [hpo] at cX_0_6
      have hnew : Blk (W0.alloc (.cells #[Value.int .i8 0, Value.int .i64 0, Value.bool false, Value.slice none 0 0, Value.slice none 0 0, Value.bool false, Value.bool false, Value.bool false, Value.slice none 0 0, Value.slice none 0 0, Value.bool false, Value.slice none 0 0, Value.slice none 0 0, Value.bool false, Value.slice none 0 0, Value.slice none 0 0, Value.bool false, Value.slice none 0 0, Value.slice none 0 0] 67)) W0.heap.size PX.o.arr := blk_new _ _ _
      have hbn := (Below.refl W0.heap.size W0).alloc (Nat.le_refl _) (.cells #[Value.int .i8 0, Value.int .i64 0, Value.bool false, Value.slice none 0 0, Value.slice none 0 0, Value.bool false, Value.bool false, Value.bool false, Value.slice none 0 0, Value.slice none 0 0, Value.bool false, Value.slice none 0 0, Value.slice none 0 0, Value.bool false, Value.slice none 0 0, Value.slice none 0 0, Value.bool false, Value.slice none 0 0, Value.slice none 0 0] 67)
      go_wp2_with (refine BigFrame.wpList_want (by rfl) (fun Kq hKq => wp_storeP (p := ({PX.o with kind := 5, bad := true, opn := true} : PX)) (q := PX.o) _ _ rfl rfl rfl hnew (fun ws hbs hks => hKq _ _ ?_)))
      go_wp2_with fail
      go_meet
      exact ⟨_, rfl, hbs, by omega, hbn.kp hks hbn.size (fun j hj (e : j = _) => by omega)⟩
  case rest =>
    obtain ⟨gz, rfl, hbz, hge, hBc⟩ := hcut
    have hB_1 : Below W0.heap.size W0 wc := hBc
    have X_1 := X_0.next hB_1
    have Y_1 := Y_0.next hB_1
    have R1_1 := R1_0.next hB_1
    have hbel_1 := hbel_0.next hB_1
    have hsz_1 := hB_1.size
    clear X_0 Y_0 R1_0 hbel_0 hB_1
    clear hBc
    obtain ⟨wd, hwc⟩ : ∃ y : World, y = wc := ⟨_, rfl⟩
    subst hwc
    have Z_1 := hbz
    clear hbz
    skip
    go_wp2_with fail
    go_cut [] (fun wx => Blk wx gz ({PX.o with kind := 5, bad := zb, opn := zo, deep := dd} : PX).arr ∧ Kp (fun j => j = gz) wd wx)
    case first =>
      have hbAcc_1 : Below wd.heap.size wd wd := Below.refl _ _
      go_wp2_with fail
      have hB : Below wd.heap.size wd wd.drew := (Below.refl _ _).drew
      have hB_2 : Below wd.heap.size wd wd.drew := hB
      have X_2 := X_1.next hB_2
      have Y_2 := Y_1.next hB_2
      have R1_2 := R1_1.next hB_2
      have Z_2 := Z_1.next hB_2
      have hbAcc_2 := hbAcc_1.next hB_2
      have hbel_2 := hbel_1.next hB_2
      have hsz_2 := hB_2.size
      clear X_1 Y_1 R1_1 Z_1 hbAcc_1 hbel_1 hB_2
      clear hB
      refine wp_region_noPanic ?_
      refine D_region (S := (fun w' => Blk w' (w.heap.size) p.arr ∧ Blk w' (w.heap.size + 1) q.arr)) (T := [11]) (by kernel_rfl) ⟨X_2, Y_2⟩ (fun hHeld => ?_)
      clear hHeld
      generalize wd.drew = vd2 at *
      refine D_load (i := 0) (d := some 29) (v := (.agg p.arr)) [0, 1, 4, 5] rfl rfl (by kernel_rfl) (by kernel_rfl) (by kernel_rfl) (by kernel_rfl) (by kernel_rfl) (by kernel_rfl) (fun _ _ _ h => h) (by rfl) (fun w hSw => by (obtain ⟨b0, b1⟩ := hSw); exact exec_loadB 67 _ rfl rfl b0 Try.underlying67 rfl (by kernel_rfl)) ⟨X_2, Y_2⟩ ?_
      (try simp only [Act.put, List.setIfInBounds_toArray, List.set_cons_zero, List.set_cons_succ])
      refine D_load (i := 1) (d := some 30) (v := (.agg p.arr)) [0, 1, 4, 5] rfl rfl (by kernel_rfl) (by kernel_rfl) (by kernel_rfl) (by kernel_rfl) (by kernel_rfl) (by kernel_rfl) (fun _ _ _ h => h) (by rfl) (fun w hSw => by (obtain ⟨b0, b1⟩ := hSw); exact exec_loadB 67 _ rfl rfl b0 Try.underlying67 rfl (by kernel_rfl)) ⟨X_2, Y_2⟩ ?_
      (try simp only [Act.put, List.setIfInBounds_toArray, List.set_cons_zero, List.set_cons_succ])
      refine D_load (i := 4) (d := some 33) (v := (.agg q.arr)) [0, 1, 4, 5] rfl rfl (by kernel_rfl) (by kernel_rfl) (by kernel_rfl) (by kernel_rfl) (by kernel_rfl) (by kernel_rfl) (fun _ _ _ h => h) (by rfl) (fun w hSw => by (obtain ⟨b0, b1⟩ := hSw); exact exec_loadB 67 _ rfl rfl b1 Try.underlying67 rfl (by kernel_rfl)) ⟨X_2, Y_2⟩ ?_
      (try simp only [Act.put, List.setIfInBounds_toArray, List.set_cons_zero, List.set_cons_succ])
      refine D_load (i := 5) (d := some 34) (v := (.agg q.arr)) [0, 1, 4, 5] rfl rfl (by kernel_rfl) (by kernel_rfl) (by kernel_rfl) (by kernel_rfl) (by kernel_rfl) (by kernel_rfl) (fun _ _ _ h => h) (by rfl) (fun w hSw => by (obtain ⟨b0, b1⟩ := hSw); exact exec_loadB 67 _ rfl rfl b1 Try.underlying67 rfl (by kernel_rfl)) ⟨X_2, Y_2⟩ ?_
      (try simp only [Act.put, List.setIfInBounds_toArray, List.set_cons_zero, List.set_cons_succ])
      refine D_one (i := 2) (by kernel_rfl) rfl (fun Kq hKq => ?_)
      go_simp
      refine (Hs1.out _).mono ?_
      rintro e w3 ⟨rfl, hB⟩
      have hB_3 : Below vd2.heap.size vd2 w3 := (bl.next hB)
      have X_3 := X_2.next hB_3
      have Y_3 := Y_2.next hB_3
      have R1_3 := R1_2.next hB_3
      have Z_3 := Z_2.next hB_3
      have hbAcc_3 := hbAcc_2.next hB_3
      have hbel_3 := hbel_2.next hB_3
      have hsz_3 := hB_3.size
      clear X_2 Y_2 R1_2 Z_2 hbAcc_2 hbel_2 hB_3
      try clear hB
      (try go_wp2_with fail)
      refine hKq.out _ _ ⟨X_3, Y_3⟩ (fun hHeld => ?_)
      clear hHeld hKq Kq
      (try simp only [Act.put, List.setIfInBounds_toArray, List.set_cons_zero, List.set_cons_succ])
      refine D_one (i := 3) (by kernel_rfl) rfl (fun Kq hKq => ?_)
      go_simp
      refine (Hw1.out _).mono ?_
      rintro e w4 ⟨rfl, hB⟩
      have hB_4 : Below w3.heap.size w3 w4 := (bl.next hB)
      have X_4 := X_3.next hB_4
      have Y_4 := Y_3.next hB_4
      have R1_4 := R1_3.next hB_4
      have Z_4 := Z_3.next hB_4
      have hbAcc_4 := hbAcc_3.next hB_4
      have hbel_4 := hbel_3.next hB_4
      have hsz_4 := hB_4.size
      clear X_3 Y_3 R1_3 Z_3 hbAcc_3 hbel_3 hB_4
      try clear hB
      (try go_wp2_with fail)
      refine hKq.out _ _ ⟨X_4, Y_4⟩ (fun hHeld => ?_)
      clear hHeld hKq Kq
      (try simp only [Act.put, List.setIfInBounds_toArray, List.set_cons_zero, List.set_cons_succ])
      refine D_one (i := 6) (by kernel_rfl) rfl (fun Kq hKq => ?_)
      go_simp
      refine (Hs2.out _).mono ?_
      rintro e w5 ⟨rfl, hB⟩
      have hB_5 : Below w4.heap.size w4 w5 := (bl.next hB)
      have X_5 := X_4.next hB_5
      have Y_5 := Y_4.next hB_5
      have R1_5 := R1_4.next hB_5
      have Z_5 := Z_4.next hB_5
      have hbAcc_5 := hbAcc_4.next hB_5
      have hbel_5 := hbel_4.next hB_5
      have hsz_5 := hB_5.size
      clear X_4 Y_4 R1_4 Z_4 hbAcc_4 hbel_4 hB_5
      try clear hB
      (try go_wp2_with fail)
      refine hKq.out _ _ ⟨X_5, Y_5⟩ (fun hHeld => ?_)
      clear hHeld hKq Kq
      (try simp only [Act.put, List.setIfInBounds_toArray, List.set_cons_zero, List.set_cons_succ])
      refine D_pure (i := 7) (d := some 36) (v := (.bool (!s2))) rfl rfl (by kernel_rfl) (by kernel_rfl) (by kernel_rfl) (fun _ _ _ h => h) (by rfl) (fun _ => by go_simp) ?_
      (try simp only [Act.put, List.setIfInBounds_toArray, List.set_cons_zero, List.set_cons_succ])
      refine D_one (i := 8) (by kernel_rfl) rfl (fun Kq hKq => ?_)
      go_simp
      refine (Hw2.out _).mono ?_
      rintro e w6 ⟨rfl, hB⟩
      have hB_6 : Below w5.heap.size w5 w6 := (bl.next hB)
      have X_6 := X_5.next hB_6
      have Y_6 := Y_5.next hB_6
      have R1_6 := R1_5.next hB_6
      have Z_6 := Z_5.next hB_6
      have hbAcc_6 := hbAcc_5.next hB_6
      have hbel_6 := hbel_5.next hB_6
      have hsz_6 := hB_6.size
      clear X_5 Y_5 R1_5 Z_5 hbAcc_5 hbel_5 hB_6
      try clear hB
      (try go_wp2_with fail)
      refine hKq.out _ _ ⟨X_6, Y_6⟩ (fun hHeld => ?_)
      clear hHeld hKq Kq
      (try simp only [Act.put, List.setIfInBounds_toArray, List.set_cons_zero, List.set_cons_succ])
      refine D_pure (i := 9) (d := some 38) (v := (.int .i64 dd)) rfl rfl (by kernel_rfl) (by kernel_rfl) (by kernel_rfl) (fun _ _ _ h => h) (by rfl) (fun _ => by have h9 := hdm.out; rw [hdd1.out] at h9; go_simp) ?_
      (try simp only [Act.put, List.setIfInBounds_toArray, List.set_cons_zero, List.set_cons_succ])
      refine D_pure (i := 10) (d := some 39) (v := (.pointer (some ⟨gz, 1, none⟩))) rfl rfl (by kernel_rfl) (by kernel_rfl) (by kernel_rfl) (fun _ _ _ h => h) (by rfl) (fun _ => by go_simp) ?_
      (try simp only [Act.put, List.setIfInBounds_toArray, List.set_cons_zero, List.set_cons_succ])
      have cZ_6_1 : _ = some (Value.int .i64 ({PX.o with kind := 5, bad := zb, opn := zo} : PX).deep) := Z_6.cell 1
      have fZ_6_1 := Z_6.free 1
      refine D_late (i := 11) (by kernel_rfl) rfl (by kernel_rfl) (fun Kq hKq => ?_)
      go_simp
      refine hKq.out _ _ ?_
      clear hKq Kq
      (try simp only [Act.put, List.setIfInBounds_toArray, List.set_cons_zero, List.set_cons_succ])
      refine D_done (by kernel_rfl) ?_ _
      refine NoPanic.normal ?_
      go_wp2_with fail
      go_meet
      exact ⟨part_put1 Z_6 dd, kp_put1 (q := fun j => j = gz) (kp_of_below hbAcc_6) rfl _ _⟩
    case rest =>
      obtain ⟨hbk, hks0⟩ := hcut
      have Z_2 := hbk
      have X_2 := X_1.kp hks0 (show ¬ (w.heap.size = gz) by omega)
      have Y_2 := Y_1.kp hks0 (show ¬ (w.heap.size + 1 = gz) by omega)
      have R1_2 := R1_1.kp hks0 (show ¬ (w.heap.size + 1 + 1 = gz) by omega)
      have hbel_2 := hbel_1.kp hks0 hbel_1.size (fun j hj (e : j = gz) => by omega)
      have hsz_2 := hks0.size
      clear hbk hks0 hbel_1 X_1 Y_1 R1_1 Z_1
      obtain ⟨wv, hwc⟩ : ∃ y : World, y = wc := ⟨_, rfl⟩
      subst hwc
      have cz : _ = some (Value.bool zb) := Z_2.cell 5
      cases zb
      ·
        have cx : _ = some (Value.bool p.opn) := X_2.cell 6
        cases hpo : p.opn
        case true =>
          rw [hpo] at cx
          obtain ⟨F1, hF1⟩ : ∃ z, (rgtV 5 P.L Q.v).1 = z := ⟨_, rfl⟩
          obtain ⟨bb, hbb⟩ : ∃ z, (rgtV 5 P.L Q.v).2 = z := ⟨_, rfl⟩
          have hF1 := hid hF1
          have hbb := hid hbb
          have cX_2_2 : _ = some (Value.bool p.v.s) := X_2.cell 2
          have fX_2_2 := X_2.free 2
          have cX_2_3 : _ = some (Value.slice p.v.a p.v.n p.v.c) := X_2.cell 3
          have fX_2_3 := X_2.free 3
          have cX_2_4 : _ = some (Value.slice p.v.b p.v.m p.v.d) := X_2.cell 4
          have fX_2_4 := X_2.free 4
          have cY_2_2 : _ = some (Value.bool q.v.s) := Y_2.cell 2
          have fY_2_2 := Y_2.free 2
          have cY_2_3 : _ = some (Value.slice q.v.a q.v.n q.v.c) := Y_2.cell 3
          have fY_2_3 := Y_2.free 3
          have cY_2_4 : _ = some (Value.slice q.v.b q.v.m q.v.d) := Y_2.cell 4
          have fY_2_4 := Y_2.free 4
          have hzl := Z_2.lt
          go_wp2_with (refine BigFrame.wpList_want (by rfl) (fun Kq hKq => wp_loadPL _ rfl rfl X_2 (hKq _ _ ?_)))
          refine (show Calls _ _ _ _ (RetLine (fun g => (N g ∧ g ≠ w.heap.size + 1 + 1) ∧ g ≠ gz) _ F1 (erB bb)) by (have h := rgt_any (N := (fun g => (N g ∧ g ≠ w.heap.size + 1 + 1) ∧ g ≠ gz)) (show Kd 5 by unfold Kd; omega) ((hpp.out.L.mono (M := (fun g => (N g ∧ g ≠ w.heap.size + 1 + 1) ∧ g ≠ gz)) (fun g hg hn => ⟨⟨hn, by omega⟩, by omega⟩)).below hbel_2) hPP.out.L ((hqq.out.v.below hbel_2).rdQ hQQ.out.v) hQQ.out.v hJ hJ hJ1 (fun g hg => ⟨⟨hNN.out g (by omega), by omega⟩, by omega⟩)); (rw [hF1.out, hbb.out] at h); exact h).mono ?_
          rintro e w3 ⟨f, rfl, hL, hB⟩
          have hB_3 : Below wv.heap.size wv w3 := (bl.next hB)
          have X_3 := X_2.next hB_3
          have Y_3 := Y_2.next hB_3
          have R1_3 := R1_2.next hB_3
          have Z_3 := Z_2.next hB_3
          have hbel_3 := hbel_2.next hB_3
          have hsz_3 := hB_3.size
          clear X_2 Y_2 R1_2 Z_2 hbel_2 hB_3
          clear cX_2_2 fX_2_2 cX_2_3 fX_2_3 cX_2_4 fX_2_4 cY_2_2 fY_2_2 cY_2_3 fY_2_3 cY_2_4 fY_2_4
          have hLL := hid hL
          clear hL
          try clear hB
          have he1 : (erB bb == 0) = !bb := by cases bb <;> rfl
          have he2 : (erB bb != 0) = bb := by cases bb <;> rfl
          have he3 : decide (erB bb = 0) = !bb := by cases bb <;> rfl
          clear cx cz
          go_wp2_with (first | (refine BigFrame.wpList_want (by rfl) (fun Kq hKq => wp_storePL (f := f) (q := ({PX.o with kind := 5, bad := false, opn := zo, deep := dd} : PX)) _ _ rfl rfl rfl Z_3 (fun ws hbs hks => hKq _ _ ?_)); have hbs : Blk ws gz ({PX.o with kind := 5, bad := false, opn := zo, deep := dd, A := f.A, B := f.B, C := f.C, D := f.D} : PX).arr := hbs; have cb : ws.cell? ⟨gz, 5, none⟩ = some (Value.bool false) := hbs.cell 5; have fb := hbs.free 5; have hb5 : Blk (ws.setCell ⟨gz, 5, none⟩ (.bool bb)) gz ({PX.o with kind := 5, bad := bb, opn := zo, deep := dd, A := f.A, B := f.B, C := f.C, D := f.D} : PX).arr := part_put5 hbs bb; have hk5 := hks.kp (kp_put1 (Kp.refl (fun j => j = gz) ws) rfl 5 (.bool bb)) (fun j hj e => .inl e); have hr5 := R1_3.kp hk5 (show ¬ (w.heap.size + 1 + 1 = gz) by omega); have hbl5 := hbel_3.kp hk5 hbel_3.size (fun j hj (e : j = gz) => by omega); have hL5 := hid (hLL.out.kp hk5 (fun j (e : j = gz) hn => hn.2 e))) | refine BigFrame.wpList_want (by rfl) (fun Kq hKq => wp_loadP _ rfl rfl hb5 (hKq _ _ ?_)) | refine BigFrame.wpList_want (by rfl) (fun Kq hKq => wp_storeP (p := ({PX.o with kind := 5, bad := bb, opn := zo, deep := dd, A := f.A, B := f.B, C := f.C, D := f.D} : PX)) _ _ rfl rfl rfl hr5 (fun wt hbt hkt => hKq _ _ ?_)))
          have hbl := hbl5.kp hkt hbl5.size (fun j hj (e : j = _) => by omega)
          go_wp2_with fail
          refine bodyPost_ret (res_blk Try.results67 rfl hbt Try.underlying67 rfl (by kernel_rfl)) rfl ?_
          have hjv : joinV 5 P Q = ⟨5, dd, 0, bb, true, F1⟩ := by
            unfold joinV; rw [← hpp.out.bad, ← hqq.out.bad, hzb1.out, ← hpp.out.opn, ← hqq.out.opn]
            rw [if_neg (by decide), hpo, if_pos rfl, hde.out]
            rw [hF1.out, hbb.out]
          rw [hjv]
          exact ⟨({PX.o with kind := 5, bad := bb, opn := zo, deep := dd, A := f.A, B := f.B, C := f.C, D := f.D} : PX), rfl, ⟨rfl, rfl, rfl, (show zo = true by rw [← hzo1.out, hpo]; rfl), FA.o N _, (fun _ h => by cases h), ((hL5.out.kp hkt (fun j (e : j = _) hn => hn.1.2 e)).mono (fun g _ hn => hn.1.1))⟩, hbl⟩
        case false =>
          rw [hpo] at cx
          have cy : _ = some (Value.bool q.opn) := Y_2.cell 6
          cases hqo : q.opn
          case true =>
            rw [hqo] at cy
            obtain ⟨F1, hF1⟩ : ∃ z, (lftV 5 Q.L P.v).1 = z := ⟨_, rfl⟩
            obtain ⟨bb, hbb⟩ : ∃ z, (lftV 5 Q.L P.v).2 = z := ⟨_, rfl⟩
            have hF1 := hid hF1
            have hbb := hid hbb
            have cX_2_2 : _ = some (Value.bool p.v.s) := X_2.cell 2
            have fX_2_2 := X_2.free 2
            have cX_2_3 : _ = some (Value.slice p.v.a p.v.n p.v.c) := X_2.cell 3
            have fX_2_3 := X_2.free 3
            have cX_2_4 : _ = some (Value.slice p.v.b p.v.m p.v.d) := X_2.cell 4
            have fX_2_4 := X_2.free 4
            have cY_2_2 : _ = some (Value.bool q.v.s) := Y_2.cell 2
            have fY_2_2 := Y_2.free 2
            have cY_2_3 : _ = some (Value.slice q.v.a q.v.n q.v.c) := Y_2.cell 3
            have fY_2_3 := Y_2.free 3
            have cY_2_4 : _ = some (Value.slice q.v.b q.v.m q.v.d) := Y_2.cell 4
            have fY_2_4 := Y_2.free 4
            have hzl := Z_2.lt
            go_wp2_with (refine BigFrame.wpList_want (by rfl) (fun Kq hKq => wp_loadPL _ rfl rfl Y_2 (hKq _ _ ?_)))
            refine (show Calls _ _ _ _ (RetLine (fun g => (N g ∧ g ≠ w.heap.size + 1 + 1) ∧ g ≠ gz) _ F1 (erB bb)) by (have h := lft_any (N := (fun g => (N g ∧ g ≠ w.heap.size + 1 + 1) ∧ g ≠ gz)) (show Kd 5 by unfold Kd; omega) ((hqq.out.L.mono (M := (fun g => (N g ∧ g ≠ w.heap.size + 1 + 1) ∧ g ≠ gz)) (fun g hg hn => ⟨⟨hn, by omega⟩, by omega⟩)).below hbel_2) hQQ.out.L ((hpp.out.v.below hbel_2).rdQ hPP.out.v) hPP.out.v hJ hJ (fun g hg => ⟨⟨hNN.out g (by omega), by omega⟩, by omega⟩)); (rw [hF1.out, hbb.out] at h); exact h).mono ?_
            rintro e w3 ⟨f, rfl, hL, hB⟩
            have hB_3 : Below wv.heap.size wv w3 := (bl.next hB)
            have X_3 := X_2.next hB_3
            have Y_3 := Y_2.next hB_3
            have R1_3 := R1_2.next hB_3
            have Z_3 := Z_2.next hB_3
            have hbel_3 := hbel_2.next hB_3
            have hsz_3 := hB_3.size
            clear X_2 Y_2 R1_2 Z_2 hbel_2 hB_3
            clear cX_2_2 fX_2_2 cX_2_3 fX_2_3 cX_2_4 fX_2_4 cY_2_2 fY_2_2 cY_2_3 fY_2_3 cY_2_4 fY_2_4
            have hLL := hid hL
            clear hL
            try clear hB
            have he1 : (erB bb == 0) = !bb := by cases bb <;> rfl
            have he2 : (erB bb != 0) = bb := by cases bb <;> rfl
            have he3 : decide (erB bb = 0) = !bb := by cases bb <;> rfl
            clear cx cz
            go_wp2_with (first | (refine BigFrame.wpList_want (by rfl) (fun Kq hKq => wp_storePL (f := f) (q := ({PX.o with kind := 5, bad := false, opn := zo, deep := dd} : PX)) _ _ rfl rfl rfl Z_3 (fun ws hbs hks => hKq _ _ ?_)); have hbs : Blk ws gz ({PX.o with kind := 5, bad := false, opn := zo, deep := dd, A := f.A, B := f.B, C := f.C, D := f.D} : PX).arr := hbs; have cb : ws.cell? ⟨gz, 5, none⟩ = some (Value.bool false) := hbs.cell 5; have fb := hbs.free 5; have hb5 : Blk (ws.setCell ⟨gz, 5, none⟩ (.bool bb)) gz ({PX.o with kind := 5, bad := bb, opn := zo, deep := dd, A := f.A, B := f.B, C := f.C, D := f.D} : PX).arr := part_put5 hbs bb; have hk5 := hks.kp (kp_put1 (Kp.refl (fun j => j = gz) ws) rfl 5 (.bool bb)) (fun j hj e => .inl e); have hr5 := R1_3.kp hk5 (show ¬ (w.heap.size + 1 + 1 = gz) by omega); have hbl5 := hbel_3.kp hk5 hbel_3.size (fun j hj (e : j = gz) => by omega); have hL5 := hid (hLL.out.kp hk5 (fun j (e : j = gz) hn => hn.2 e))) | refine BigFrame.wpList_want (by rfl) (fun Kq hKq => wp_loadP _ rfl rfl hb5 (hKq _ _ ?_)) | refine BigFrame.wpList_want (by rfl) (fun Kq hKq => wp_storeP (p := ({PX.o with kind := 5, bad := bb, opn := zo, deep := dd, A := f.A, B := f.B, C := f.C, D := f.D} : PX)) _ _ rfl rfl rfl hr5 (fun wt hbt hkt => hKq _ _ ?_)))
            have hbl := hbl5.kp hkt hbl5.size (fun j hj (e : j = _) => by omega)
            go_wp2_with fail
            refine bodyPost_ret (res_blk Try.results67 rfl hbt Try.underlying67 rfl (by kernel_rfl)) rfl ?_
            have hjv : joinV 5 P Q = ⟨5, dd, 0, bb, true, F1⟩ := by
              unfold joinV; rw [← hpp.out.bad, ← hqq.out.bad, hzb1.out, ← hpp.out.opn, ← hqq.out.opn]
              rw [if_neg (by decide), hpo, if_neg (by decide), hqo, if_pos rfl, hde.out]
              rw [hF1.out, hbb.out]
            rw [hjv]
            exact ⟨({PX.o with kind := 5, bad := bb, opn := zo, deep := dd, A := f.A, B := f.B, C := f.C, D := f.D} : PX), rfl, ⟨rfl, rfl, rfl, (show zo = true by rw [← hzo1.out, hpo, hqo]; rfl), FA.o N _, (fun _ h => by cases h), ((hL5.out.kp hkt (fun j (e : j = _) hn => hn.1.2 e)).mono (fun g _ hn => hn.1.1))⟩, hbl⟩
          case false =>
            rw [hqo] at cy
            obtain ⟨F1, hF1⟩ : ∃ z, (bthV 5 P.v Q.v).1 = z := ⟨_, rfl⟩
            obtain ⟨bb, hbb⟩ : ∃ z, (bthV 5 P.v Q.v).2 = z := ⟨_, rfl⟩
            have hF1 := hid hF1
            have hbb := hid hbb
            have cX_2_2 : _ = some (Value.bool p.v.s) := X_2.cell 2
            have fX_2_2 := X_2.free 2
            have cX_2_3 : _ = some (Value.slice p.v.a p.v.n p.v.c) := X_2.cell 3
            have fX_2_3 := X_2.free 3
            have cX_2_4 : _ = some (Value.slice p.v.b p.v.m p.v.d) := X_2.cell 4
            have fX_2_4 := X_2.free 4
            have cY_2_2 : _ = some (Value.bool q.v.s) := Y_2.cell 2
            have fY_2_2 := Y_2.free 2
            have cY_2_3 : _ = some (Value.slice q.v.a q.v.n q.v.c) := Y_2.cell 3
            have fY_2_3 := Y_2.free 3
            have cY_2_4 : _ = some (Value.slice q.v.b q.v.m q.v.d) := Y_2.cell 4
            have fY_2_4 := Y_2.free 4
            have hzl := Z_2.lt
            go_wp2_with (fail)
            refine (show Calls _ _ _ _ (RetBoth (fun g => (N g ∧ g ≠ w.heap.size + 1 + 1) ∧ g ≠ gz) _ F1 bb) by (have h := bth_any (N := (fun g => (N g ∧ g ≠ w.heap.size + 1 + 1) ∧ g ≠ gz)) (show Kd 5 by unfold Kd; omega) ((hpp.out.v.below hbel_2).rdQ hPP.out.v) hJ ((hqq.out.v.below hbel_2).rdQ hQQ.out.v) hJ (fun g hg => ⟨⟨hNN.out g (by omega), by omega⟩, by omega⟩)); (rw [hF1.out, hbb.out] at h); exact h).mono ?_
            rintro e w3 ⟨f, rfl, hL, hL2, hB⟩
            have hB_3 : Below wv.heap.size wv w3 := (bl.next hB)
            have X_3 := X_2.next hB_3
            have Y_3 := Y_2.next hB_3
            have R1_3 := R1_2.next hB_3
            have Z_3 := Z_2.next hB_3
            have hbel_3 := hbel_2.next hB_3
            have hsz_3 := hB_3.size
            clear X_2 Y_2 R1_2 Z_2 hbel_2 hB_3
            clear cX_2_2 fX_2_2 cX_2_3 fX_2_3 cX_2_4 fX_2_4 cY_2_2 fY_2_2 cY_2_3 fY_2_3 cY_2_4 fY_2_4
            have hLL := hid hL
            have hLN := hid hL2
            clear hL hL2
            try clear hB
            have he1 : (erB bb == 0) = !bb := by cases bb <;> rfl
            have he2 : (erB bb != 0) = bb := by cases bb <;> rfl
            have he3 : decide (erB bb = 0) = !bb := by cases bb <;> rfl
            clear cx cz
            have cZ_3_2 : _ = some (Value.bool ({PX.o with kind := 5, bad := false, opn := zo, deep := dd} : PX).v.s) := Z_3.cell 2
            have fZ_3_2 := Z_3.free 2
            have cZ_3_3 : _ = some (Value.slice ({PX.o with kind := 5, bad := false, opn := zo, deep := dd} : PX).v.a ({PX.o with kind := 5, bad := false, opn := zo, deep := dd} : PX).v.n ({PX.o with kind := 5, bad := false, opn := zo, deep := dd} : PX).v.c) := Z_3.cell 3
            have fZ_3_3 := Z_3.free 3
            have cZ_3_4 : _ = some (Value.slice ({PX.o with kind := 5, bad := false, opn := zo, deep := dd} : PX).v.b ({PX.o with kind := 5, bad := false, opn := zo, deep := dd} : PX).v.m ({PX.o with kind := 5, bad := false, opn := zo, deep := dd} : PX).v.d) := Z_3.cell 4
            have fZ_3_4 := Z_3.free 4
            have cZ_3_5 : _ = some (Value.bool ({PX.o with kind := 5, bad := false, opn := zo, deep := dd} : PX).bad) := Z_3.cell 5
            have fZ_3_5 := Z_3.free 5
            go_upto_region 13 with fail
            have hks := kp_put3v (q := fun j => j = gz) (Kp.refl (fun j => j = gz) w3) rfl 2 3 4 (Value.bool f.s) (Value.slice f.a f.n f.c) (Value.slice f.b f.m f.d)
            have hbs : Blk (((w3.setCell ⟨gz, 2, none⟩ (Value.bool f.s)).setCell ⟨gz, 3, none⟩ (Value.slice f.a f.n f.c)).setCell ⟨gz, 4, none⟩ (Value.slice f.b f.m f.d)) gz ({PX.o with kind := 5, bad := false, opn := zo, deep := dd, v := f} : PX).arr := part_putv Z_3 f
            clear cZ_3_2 fZ_3_2 cZ_3_3 fZ_3_3 cZ_3_4 fZ_3_4 cZ_3_5 fZ_3_5
            generalize (((w3.setCell ⟨gz, 2, none⟩ (Value.bool f.s)).setCell ⟨gz, 3, none⟩ (Value.slice f.a f.n f.c)).setCell ⟨gz, 4, none⟩ (Value.slice f.b f.m f.d)) = ws at *
            have cb : ws.cell? ⟨gz, 5, none⟩ = some (Value.bool false) := hbs.cell 5
            have fb := hbs.free 5
            have hb5 : Blk (ws.setCell ⟨gz, 5, none⟩ (.bool bb)) gz ({PX.o with kind := 5, bad := bb, opn := zo, deep := dd, v := f} : PX).arr := part_put5 hbs bb
            have hk5 := hks.kp (kp_put1 (Kp.refl (fun j => j = gz) ws) rfl 5 (.bool bb)) (fun j hj e => .inl e)
            have hr5 := R1_3.kp hk5 (show ¬ (w.heap.size + 1 + 1 = gz) by omega)
            have hbl5 := hbel_3.kp hk5 hbel_3.size (fun j hj (e : j = gz) => by omega)
            have hL5 := hid (hLL.out.kp hk5 (fun j (e : j = gz) hn => hn.2 e))
            have hN5 := hid (fun hb => (hLN.out hb).kp hk5 (fun j (e : j = gz) hn => hn.2 e))
            go_wp2_with (first | refine BigFrame.wpList_want (by rfl) (fun Kq hKq => wp_loadP _ rfl rfl hb5 (hKq _ _ ?_)) | refine BigFrame.wpList_want (by rfl) (fun Kq hKq => wp_storeP (p := ({PX.o with kind := 5, bad := bb, opn := zo, deep := dd, v := f} : PX)) _ _ rfl rfl rfl hr5 (fun wt hbt hkt => hKq _ _ ?_)))
            have hbl := hbl5.kp hkt hbl5.size (fun j hj (e : j = _) => by omega)
            go_wp2_with fail
            refine bodyPost_ret (res_blk Try.results67 rfl hbt Try.underlying67 rfl (by kernel_rfl)) rfl ?_
            have hjv : joinV 5 P Q = ⟨5, dd, F1, bb, false, LV.z⟩ := by
              unfold joinV; rw [← hpp.out.bad, ← hqq.out.bad, hzb1.out, ← hpp.out.opn, ← hqq.out.opn]
              rw [if_neg (by decide), hpo, if_neg (by decide), hqo, if_neg (by decide), hde.out]
              rw [hF1.out, hbb.out]
            rw [hjv]
            exact ⟨({PX.o with kind := 5, bad := bb, opn := zo, deep := dd, v := f} : PX), rfl, ⟨rfl, rfl, rfl, (show zo = false by rw [← hzo1.out, hpo, hqo]; rfl), ((hL5.out.kp hkt (fun j (e : j = _) hn => hn.1.2 e)).mono (fun g _ hn => hn.1.1)), (fun hb _ => (((hN5.out hb).kp hkt (fun j (e : j = _) hn => hn.1.2 e)).mono (fun g _ hn => hn.1.1))), LineOK.z N _⟩, hbl⟩
      ·
        go_wp2_with (first | refine BigFrame.wpList_want (by rfl) (fun Kq hKq => wp_loadP _ rfl rfl Z_2 (hKq _ _ ?_)) | refine BigFrame.wpList_want (by rfl) (fun Kq hKq => wp_storeP (p := ({PX.o with kind := 5, bad := true, opn := zo, deep := dd} : PX)) _ _ rfl rfl rfl R1_2 (fun ws hbs hks => hKq _ _ ?_)))
        have hbl := hbel_2.kp hks hbel_2.size (fun j hj (e : j = _) => by omega)
        go_wp2_with fail
        refine bodyPost_ret (res_blk Try.results67 rfl hbs Try.underlying67 rfl (by kernel_rfl)) rfl ?_
        have hjv : joinV 5 P Q = ⟨5, dd, 0, true, zo, LV.z⟩ := by
          unfold joinV; rw [← hpp.out.bad, ← hqq.out.bad, hzb1.out, ← hpp.out.opn, ← hqq.out.opn]
          rw [if_pos rfl, hde.out, hzo1.out]
        rw [hjv]
        exact ⟨({PX.o with kind := 5, bad := true, opn := zo, deep := dd} : PX), rfl, ⟨rfl, rfl, rfl, rfl, FA.o N _, (fun h => by cases h), LineOK.z N _⟩, hbl⟩

theorem join_any {w : World} {N : Nat → Prop} {p q : PX} {P Q : PV} {J : Nat} {kind : Int} (hk : Kd kind) (hp : PartOK N w p P) (hq : PartOK N w q Q) (hP : PS P J) (hQ : PS Q J) (hJ : J ≤ 300000) (hJ1 : 1 ≤ J) (h0 : 0 ≤ P.deep) (h1 : P.deep ≤ 500000) (h2 : 0 ≤ Q.deep) (h3 : Q.deep ≤ 500000) (hN : ∀ g, w.heap.size ≤ g → N g) :
    Calls Try.prog 67 #[.int .i8 kind, .agg p.arr, .agg q.arr] w (RetPart N w (joinV kind P Q)) := by
  rcases hk with rfl | rfl | rfl | rfl
  · exact join_2 hp hq hP hQ hJ hJ1 h0 h1 h2 h3 hN
  · exact join_3 hp hq hP hQ hJ hJ1 h0 h1 h2 h3 hN
  · exact join_4 hp hq hP hQ hJ hJ1 h0 h1 h2 h3 hN
  · exact join_5 hp hq hP hQ hJ hJ1 h0 h1 h2 h3 hN

end Go.Proofs.Ytennilapmcgnbaa
