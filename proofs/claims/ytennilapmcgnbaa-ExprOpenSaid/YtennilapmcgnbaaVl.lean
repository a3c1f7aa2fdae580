/- WALKS OF EXPRESSIONS, 7: a list gone through (work). -/
import Derived.Test.YtennilapmcgnbaaVk
import Derived.Deep.Cut
import Derived.Deep.CutRange
import Derived.Deep.CutBlock
import Derived.Deep.DeepCutAuto
namespace Go.Proofs.Ytennilapmcgnbaa
set_option linter.unusedVariables false
set_option linter.unusedSimpArgs false
open Go.ChangeShapes Go.WideShapes Go.ChangeAt Go.RowKit Go.NatP

def RetWork (w : World) (r : Option PV) (e : Ending) (w' : World) : Prop :=
  Below w.heap.size w w' ∧ match r with
    | some P => ∃ p : PX, e = .returned (.tuple #[.agg p.arr, .bool true]) ∧ PartOK (fun g => w.heap.size ≤ g) w' p P
    | none => e = .returned (.tuple #[.agg PX.o.arr, .bool false])

theorem wp_loadRow {w : World} {o : Oper} {A : Act} {K : Act → World → Prop} {Q : Exit → Act → World → Prop} (x : Operand) (ho : o.op = .load 67 x) {g i : Nat} {p : PX} (hx : A.eval x = .pointer (some ⟨g, i, none⟩)) (hb : w.rangeAt g i p.arr.toList)
    (h : K (A.put o.dst (.agg p.arr)) w) : o.wp Try.prog A w K Q :=
  wp_load_mid 67 x ho g i hx p.arr.toList _ hb Try.underlying67 rfl (by kernel_rfl) (by simpa using h)

theorem sum_one {w : World} {g K n c m d : Nat} {s : Bool} {a b : Option Addr} {q : Rat} (L : Blk w g #[.bool s, .slice a n c, .slice b m d]) (h : RdQ K w s a n c b m d q) (hK : 1 ≤ K) (hK2 : K ≤ 250000) :
    Calls Try.prog 39 #[.slice (some ⟨g, 0, none⟩) 1 1] w (RetQ w q) := by
  have h2 : RdQs K w (some ⟨g, 0, none⟩) 1 1 [⟨s, a, n, c, b, m, d, q⟩] := ⟨rfl, Nat.le_refl _, (show (1 : Nat) ≤ maxLen by unfold maxLen; decide), fun i hi => by
    have h0 : i = 0 := by omega
    subst h0
    exact ⟨h, g, 0, rfl, L.cell 0, L.cell 1, L.cell 2⟩⟩
  have h3 := qsum h2 hK (by omega)
  rw [show qsm [(⟨s, a, n, c, b, m, d, q⟩ : QI)] 1 = q from Rat.zero_add q] at h3
  exact h3

theorem kzero {w : World} : Calls Try.prog 65 #[.int .i64 0] w (RetQ w 0) := knumE 0 (by decide) (by decide)
theorem wp_storeRow {w : World} {o : Oper} {A : Act} {K : Act → World → Prop} {Q : Exit → Act → World → Prop} (x y : Operand) (ho : o.op = .store 67 x y) {g B c i : Nat} {p r : PX} {P R : PV} {ps : List PX} {Ps : List PV} (hi : i = ps.length * 19) (hx : A.eval x = .pointer (some ⟨g, i, none⟩)) (hy : A.eval y = .agg r.arr)
    (hS : Stk B w (some ⟨g, 0, none⟩) c (p :: ps) (P :: Ps)) (hR : PartOK (NS (some ⟨g, 0, none⟩) B) w r R)
    (h : ∀ w', Stk B w' (some ⟨g, 0, none⟩) c (r :: ps) (R :: Ps) → Kp (fun j => j = g) w w' → K (A.put o.dst undef) w') : o.wp Try.prog A w K Q := by
  subst hi
  exact wp_store_mid 67 x y ho g (ps.length * 19) r.arr hx hy hS.there (by kernel_rfl) (by kernel_rfl) (h _ (hS.put hR) (setCells_kp _ _ _))
/-- a load of a row, as it stands in a region -/
theorem exec_loadRow {P : Program} {W : World} {d : TypeDesc} {g i : Nat} {p : PX} {o : Oper} {A : Act} (ty : TypeId) (x : Operand) (ho : o.op = .load ty x) (hx : A.eval x = .pointer (some ⟨g, i, none⟩)) (h : W.rangeAt g i p.arr.toList) (hu : P.underlying ty = some d) (hd : d.isRow = true) (hi : (P.info? ty).map (·.size) = some 19) :
    (execOp A.eval o).run P W = .ok (.value (.agg p.arr)) W := by
  have := run_loadAt_mid W g i ty p.arr.toList d h hu hd (by rw [hi]; rfl)
  unfold execOp
  simp only [ho, hx, Sem.run_bind, this, Result.andThen_ok, Sem.run_pure]
theorem wrkV_none {at_ : Int} {ts : List TI} : ∀ {n k : Nat}, wrkV at_ ts k = none → k ≤ n → wrkV at_ ts n = none
  | 0, k, h, hk => by
    have e : k = 0 := by omega
    subst e; exact h
  | n + 1, k, h, hk => by
    by_cases e : k = n + 1
    · subst e; exact h
    · rw [wrkV, wrkV_none h (by omega)]; rfl
theorem ansV_none {at_ : Int} {ts : List TI} {k : Nat} (h : wrkV at_ ts k = none) (hk : k ≤ ts.length) : ansV at_ ts = none := by
  unfold ansV; rw [wrkV_none h hk]

set_option maxRecDepth 100000 in
set_option maxHeartbeats 6000000 in
theorem work_any {w : World} {sa : Option Addr} {n c K : Nat} {xs : List TI} {at_ : Int} (hx : RdTs K w sa n c xs) (hK : 2 ≤ K) (hn : (n + 1) * K ≤ 250000) :
    Calls Try.prog 48 #[.slice sa n c, .int .i64 at_] w (RetWork w (ansV at_ xs)) := by
  have hxx := hid hx
  have hb := hx.bnd
  have hb1 := hb.1
  have hb2 := hb.2
  clear hb
  have hqs := hid (fun i (hi : i < n) => (hx.2.2.2 i hi).1.qs (by omega))
  have hlen := hid hx.1
  have hnK : n ≤ 125000 := by have := Nat.mul_le_mul_left (n + 1) hK; omega
  have hnh := hid hn
  have hK2 : K ≤ 250000 := Nat.le_trans (Nat.le_mul_of_pos_left _ (by omega)) hn
  clear hx hn
  skip
  have hent := ent1 w #[Value.int .i8 0, Value.int .i64 0, Value.bool false, Value.slice none 0 0, Value.slice none 0 0, Value.bool false, Value.bool false, Value.bool false, Value.slice none 0 0, Value.slice none 0 0, Value.bool false, Value.slice none 0 0, Value.slice none 0 0, Value.bool false, Value.slice none 0 0, Value.slice none 0 0, Value.bool false, Value.slice none 0 0, Value.slice none 0 0] 67
  go_enter Try.func48, Try.ntmps48
  go_wp2_with fail
  obtain ⟨R1, hbel0, hsz0⟩ := hent
  generalize w.alloc (.cells #[Value.int .i8 0, Value.int .i64 0, Value.bool false, Value.slice none 0 0, Value.slice none 0 0, Value.bool false, Value.bool false, Value.bool false, Value.slice none 0 0, Value.slice none 0 0, Value.bool false, Value.slice none 0 0, Value.slice none 0 0, Value.bool false, Value.slice none 0 0, Value.slice none 0 0, Value.bool false, Value.slice none 0 0, Value.slice none 0 0] 67) = W0 at R1 hbel0 hsz0 ⊢
  have R1 : Blk W0 w.heap.size PX.o.arr := R1
  go_loopw [6, 12] (fun sv iv wr => ∃ (k : Nat) (a : Option Addr) (cc : Nat) (ps : List PX) (Ps : List PV), k ≤ n ∧ iv = .int .i64 k ∧ sv = .slice a ps.length cc ∧ Stk (w.heap.size + 1) wr a cc ps Ps ∧ Hid (wrkV at_ xs k = some Ps) ∧ Blk wr w.heap.size PX.o.arr ∧ Below w.heap.size w wr ∧ ps.length ≤ k ∧ w.heap.size + 1 ≤ wr.heap.size) (fun _ iv _ => n - (intOf iv).toNat)
  case atStart => exact ⟨0, none, 0, [], [], by omega, rfl, rfl, stk_nil _ _, rfl, R1, hbel0, Nat.le_refl _, hsz0⟩
  case round =>
    clear R1 hbel0 hsz0
    obtain ⟨k, a, cc, ps, Ps, hk, rfl, rfl, hS, hW, R1, hB, hpk, hsz⟩ := hrel
    have hcc := hS.bnd
    have hcc1 := hcc.1
    have hcc2 : cc ≤ 9223372036854775807 := by have := hcc.2; unfold maxLen at this; omega
    clear hcc
    by_cases hlt : k < n
    ·
      obtain ⟨hq, g, o, hsa, c0, c1, c2, c3⟩ := (hxx.out.below hB).2.2.2 k hlt
      have hqk := hqs.out k hlt
      subst hsa
      obtain ⟨t, ht0⟩ : ∃ t, xs.getD k TI.o = t := ⟨_, rfl⟩
      rw [ht0] at hq c0 c1 c2 c3 hqk
      have ht := hid ht0
      clear ht0
      obtain ⟨tk, s, ta, tn, tc, tb, tm, td, q⟩ := t
      have hqq := hid hq
      have hqz := hid hqk
      clear hq hqk
      have hnew := blk_new wr #[Value.int .i8 tk, .bool s, .slice ta tn tc, .slice tb tm td] 38
      have hb0 := (Below.refl wr.heap.size wr).alloc (Nat.le_refl _) (.cells #[Value.int .i8 tk, .bool s, .slice ta tn tc, .slice tb tm td] 38)
      go_upto_block 2 with fail
      generalize wr.alloc (.cells #[Value.int .i8 tk, .bool s, .slice ta tn tc, .slice tb tm td] 38) = W1 at hnew hb0 ⊢
      have hl0 := hnew.lt
      have hz0 := hb0.size
      have T_0 := hnew
      have HS_0 := hS.below hb0
      have R_0 := R1.next hb0
      have hbel_0 := hB.next hb0
      have hsz_0 := hb0.size
      have hNS : ∀ g, wr.heap.size ≤ g → NS a (w.heap.size + 1) g := fun g hg => ⟨by omega, fun e => by have := row_blk hS.row g e; omega⟩
      have hNN := hid hNS
      have HQ_0 : RdQ K W1 s ta tn tc tb tm td q := hqq.out.below hb0
      have hlk : (ps.length : Nat) ≤ 125000 := by omega
      have hst := hid (show wrkV at_ xs (k + 1) = stpV at_ k tk q Ps by rw [wrkV, hW.out, ht.out]; rfl)
      have hpz := hid (wrkV_pz hK (fun i hi => hqs.out i (by omega)) hW.out)
      clear hnew hb0 hS R1 hB hNS c0 c1 c2 c3 hxx hqs
      by_cases h1 : tk = 1
      ·
        subst h1
        by_cases hat : (k : Int) = at_
        ·
          have hat2 : ((k : Int) == at_) = true := by simp [hat]
          have hath := hid hat
          clear hat
          have cT_0_0 : _ = some (Value.int .i8 1) := T_0.cell 0
          go_wp2_with fail
          clear cT_0_0
          have hB : Below W1.heap.size W1 W1.drew := (Below.refl _ _).drew
          have hB_1 : Below W1.heap.size W1 W1.drew := hB
          have T_1 := T_0.next hB_1
          have R_1 := R_0.next hB_1
          have HS_1 := HS_0.below hB_1
          have HQ_1 := HQ_0.below hB_1
          have hbel_1 := hbel_0.next hB_1
          have hsz_1 := hB_1.size
          clear T_0 R_0 HS_0 HQ_0 hbel_0 hB_1
          clear hB
          refine wp_region_noPanic ?_
          refine D_region (S := (fun w' => Blk w' (wr.heap.size) #[Value.int .i8 1, Value.bool s, Value.slice ta tn tc, Value.slice tb tm td])) (T := [10, 11]) (by kernel_rfl) T_1 (fun hHeld => ?_)
          clear hHeld
          generalize W1.drew = vd1 at *
          refine D_pure (i := 0) (d := some 29) (v := (.slice a ps.length cc)) rfl rfl (by kernel_rfl) (by kernel_rfl) (by kernel_rfl) (fun _ _ _ h => h) (by rfl) (fun _ => by go_simp) ?_
          (try simp only [Act.put, List.setIfInBounds_toArray, List.set_cons_zero, List.set_cons_succ])
          refine D_pure (i := 1) (d := some 30) (v := (.pointer (some ⟨wr.heap.size, 0, none⟩))) rfl rfl (by kernel_rfl) (by kernel_rfl) (by kernel_rfl) (fun _ _ _ h => h) (by rfl) (fun _ => by go_simp) ?_
          (try simp only [Act.put, List.setIfInBounds_toArray, List.set_cons_zero, List.set_cons_succ])
          refine D_load (i := 2) (d := some 31) (v := Value.int .i8 1) [2] rfl rfl (by kernel_rfl) (by kernel_rfl) (by kernel_rfl) (by kernel_rfl) (by kernel_rfl) (by kernel_rfl) (fun _ _ _ h => h) (by rfl) (fun w hSw => by (have b0 := hSw); have l0 : _ = some (Value.int .i8 1) := b0.cell (0); (clear b0); go_simp) T_1 ?_
          (try simp only [Act.put, List.setIfInBounds_toArray, List.set_cons_zero, List.set_cons_succ])
          refine D_one (i := 3) (by kernel_rfl) rfl (fun Kq hKq => ?_)
          go_simp
          refine (kone).mono ?_
          rintro e w2 ⟨ua, un, uc, ub, um, ud, rfl, hO, hO', hD, hB⟩
          have hB_2 : Below vd1.heap.size vd1 w2 := (bl.next hB)
          have T_2 := T_1.next hB_2
          have R_2 := R_1.next hB_2
          have HS_2 := HS_1.below hB_2
          have HQ_2 := HQ_1.below hB_2
          have hbel_2 := hbel_1.next hB_2
          have hsz_2 := hB_2.size
          clear T_1 R_1 HS_1 HQ_1 hbel_1 hB_2
          have Ou_2 := (show Own vd1.heap.size _ _ _ _ _ from hO)
          have ltOu := (show Own vd1.heap.size _ _ _ _ _ from hO).ltB
          have Pu_2 := (show Own vd1.heap.size _ _ _ _ _ from hO')
          have ltPu := (show Own vd1.heap.size _ _ _ _ _ from hO').ltB
          have Du := hid hD
          clear hO hO' hD
          try clear hB
          (try go_wp2_with fail)
          refine hKq.out _ _ T_2 (fun hHeld => ?_)
          clear hHeld hKq Kq
          (try simp only [Act.put, List.setIfInBounds_toArray, List.set_cons_zero, List.set_cons_succ])
          refine D_one (i := 4) (by kernel_rfl) rfl (fun Kq hKq => ?_)
          go_simp
          refine (kzero).mono ?_
          rintro e w3 ⟨va, vn, vc, vb, vm, vd, rfl, hO, hO', hD, hB⟩
          have hB_3 : Below w2.heap.size w2 w3 := (bl.next hB)
          have T_3 := T_2.next hB_3
          have R_3 := R_2.next hB_3
          have HS_3 := HS_2.below hB_3
          have HQ_3 := HQ_2.below hB_3
          have Ou_3 := Ou_2.below hB_3
          have Pu_3 := Pu_2.below hB_3
          have hbel_3 := hbel_2.next hB_3
          have hsz_3 := hB_3.size
          clear T_2 R_2 HS_2 HQ_2 Ou_2 Pu_2 hbel_2 hB_3
          have Ov_3 := (show Own w2.heap.size _ _ _ _ _ from hO)
          have ltOv := (show Own w2.heap.size _ _ _ _ _ from hO).ltB
          have Pv_3 := (show Own w2.heap.size _ _ _ _ _ from hO')
          have ltPv := (show Own w2.heap.size _ _ _ _ _ from hO').ltB
          have Dv := hid hD
          clear hO hO' hD
          try clear hB
          (try go_wp2_with fail)
          refine hKq.out _ _ T_3 (fun hHeld => ?_)
          clear hHeld hKq Kq
          (try simp only [Act.put, List.setIfInBounds_toArray, List.set_cons_zero, List.set_cons_succ])
          refine D_one (i := 5) (by kernel_rfl) rfl (fun Kq hKq => ?_)
          go_simp
          refine (kzero).mono ?_
          rintro e w4 ⟨ya, yn, yc, yb, ym, yd, rfl, hO, hO', hD, hB⟩
          have hB_4 : Below w3.heap.size w3 w4 := (bl.next hB)
          have T_4 := T_3.next hB_4
          have R_4 := R_3.next hB_4
          have HS_4 := HS_3.below hB_4
          have HQ_4 := HQ_3.below hB_4
          have Ou_4 := Ou_3.below hB_4
          have Pu_4 := Pu_3.below hB_4
          have Ov_4 := Ov_3.below hB_4
          have Pv_4 := Pv_3.below hB_4
          have hbel_4 := hbel_3.next hB_4
          have hsz_4 := hB_4.size
          clear T_3 R_3 HS_3 HQ_3 Ou_3 Pu_3 Ov_3 Pv_3 hbel_3 hB_4
          have Oy_4 := (show Own w3.heap.size _ _ _ _ _ from hO)
          have ltOy := (show Own w3.heap.size _ _ _ _ _ from hO).ltB
          have Py_4 := (show Own w3.heap.size _ _ _ _ _ from hO')
          have ltPy := (show Own w3.heap.size _ _ _ _ _ from hO').ltB
          have Dy := hid hD
          clear hO hO' hD
          try clear hB
          (try go_wp2_with fail)
          refine hKq.out _ _ T_4 (fun hHeld => ?_)
          clear hHeld hKq Kq
          (try simp only [Act.put, List.setIfInBounds_toArray, List.set_cons_zero, List.set_cons_succ])
          refine D_one (i := 6) (by kernel_rfl) rfl (fun Kq hKq => ?_)
          go_simp
          refine (kone).mono ?_
          rintro e w5 ⟨za, zn, zc, zb, zm, zd, rfl, hO, hO', hD, hB⟩
          have hB_5 : Below w4.heap.size w4 w5 := (bl.next hB)
          have T_5 := T_4.next hB_5
          have R_5 := R_4.next hB_5
          have HS_5 := HS_4.below hB_5
          have HQ_5 := HQ_4.below hB_5
          have Ou_5 := Ou_4.below hB_5
          have Pu_5 := Pu_4.below hB_5
          have Ov_5 := Ov_4.below hB_5
          have Pv_5 := Pv_4.below hB_5
          have Oy_5 := Oy_4.below hB_5
          have Py_5 := Py_4.below hB_5
          have hbel_5 := hbel_4.next hB_5
          have hsz_5 := hB_5.size
          clear T_4 R_4 HS_4 HQ_4 Ou_4 Pu_4 Ov_4 Pv_4 Oy_4 Py_4 hbel_4 hB_5
          have Oz_5 := (show Own w4.heap.size _ _ _ _ _ from hO)
          have ltOz := (show Own w4.heap.size _ _ _ _ _ from hO).ltB
          have Pz_5 := (show Own w4.heap.size _ _ _ _ _ from hO')
          have ltPz := (show Own w4.heap.size _ _ _ _ _ from hO').ltB
          have Dz := hid hD
          clear hO hO' hD
          try clear hB
          (try go_wp2_with fail)
          refine hKq.out _ _ T_5 (fun hHeld => ?_)
          clear hHeld hKq Kq
          (try simp only [Act.put, List.setIfInBounds_toArray, List.set_cons_zero, List.set_cons_succ])
          refine D_pure (i := 7) (d := some 36) (v := (.agg #[Value.bool (decide (((1 : Rat)).num < 0)), Value.slice ua un uc, Value.slice ub um ud, Value.bool (decide (((0 : Rat)).num < 0)), Value.slice va vn vc, Value.slice vb vm vd, Value.bool (decide (((0 : Rat)).num < 0)), Value.slice ya yn yc, Value.slice yb ym yd, Value.bool (decide (((1 : Rat)).num < 0)), Value.slice za zn zc, Value.slice zb zm zd])) rfl rfl (by kernel_rfl) (by kernel_rfl) (by kernel_rfl) (fun _ _ _ h => h) (by rfl) (fun _ => by go_simp) ?_
          (try simp only [Act.put, List.setIfInBounds_toArray, List.set_cons_zero, List.set_cons_succ])
          refine D_pure (i := 8) (d := some 37) (v := (.agg #[Value.int .i8 1, Value.int .i64 0, Value.bool false, Value.slice none 0 0, Value.slice none 0 0, Value.bool false, ((Value.bool true)), Value.bool (decide (((1 : Rat)).num < 0)), Value.slice ua un uc, Value.slice ub um ud, Value.bool (decide (((0 : Rat)).num < 0)), Value.slice va vn vc, Value.slice vb vm vd, Value.bool (decide (((0 : Rat)).num < 0)), Value.slice ya yn yc, Value.slice yb ym yd, Value.bool (decide (((1 : Rat)).num < 0)), Value.slice za zn zc, Value.slice zb zm zd])) rfl rfl (by kernel_rfl) (by kernel_rfl) (by kernel_rfl) (fun _ _ _ h => h) (by rfl) (fun _ => by go_simp) ?_
          (try simp only [Act.put, List.setIfInBounds_toArray, List.set_cons_zero, List.set_cons_succ])
          refine D_one (i := 9) (by kernel_rfl) rfl (fun Kq hKq => ?_)
          go_simp
          have hbx := blk_new w5 #[Value.int .i8 1, Value.int .i64 0, Value.bool false, Value.slice none 0 0, Value.slice none 0 0, Value.bool false, Value.bool true, Value.bool false, Value.slice ua un uc, Value.slice ub um ud, Value.bool false, Value.slice va vn vc, Value.slice vb vm vd, Value.bool false, Value.slice ya yn yc, Value.slice yb ym yd, Value.bool false, Value.slice za zn zc, Value.slice zb zm zd] 67
          have hbB := (Below.refl w5.heap.size w5).alloc (Nat.le_refl _) (.cells #[Value.int .i8 1, Value.int .i64 0, Value.bool false, Value.slice none 0 0, Value.slice none 0 0, Value.bool false, Value.bool true, Value.bool false, Value.slice ua un uc, Value.slice ub um ud, Value.bool false, Value.slice va vn vc, Value.slice vb vm vd, Value.bool false, Value.slice ya yn yc, Value.slice yb ym yd, Value.bool false, Value.slice za zn zc, Value.slice zb zm zd] 67)
          have hltLIT := hbx.lt
          have hB_6 : Below w5.heap.size w5 (w5.alloc (.cells #[Value.int .i8 1, Value.int .i64 0, Value.bool false, Value.slice none 0 0, Value.slice none 0 0, Value.bool false, Value.bool true, Value.bool false, Value.slice ua un uc, Value.slice ub um ud, Value.bool false, Value.slice va vn vc, Value.slice vb vm vd, Value.bool false, Value.slice ya yn yc, Value.slice yb ym yd, Value.bool false, Value.slice za zn zc, Value.slice zb zm zd] 67)) := hbB
          have T_6 := T_5.next hB_6
          have R_6 := R_5.next hB_6
          have HS_6 := HS_5.below hB_6
          have HQ_6 := HQ_5.below hB_6
          have Ou_6 := Ou_5.below hB_6
          have Pu_6 := Pu_5.below hB_6
          have Ov_6 := Ov_5.below hB_6
          have Pv_6 := Pv_5.below hB_6
          have Oy_6 := Oy_5.below hB_6
          have Py_6 := Py_5.below hB_6
          have Oz_6 := Oz_5.below hB_6
          have Pz_6 := Pz_5.below hB_6
          have hbel_6 := hbel_5.next hB_6
          have hsz_6 := hB_6.size
          clear T_5 R_5 HS_5 HQ_5 Ou_5 Pu_5 Ov_5 Pv_5 Oy_5 Py_5 Oz_5 Pz_5 hbel_5 hB_6
          have LIT_6 := hbx
          clear hbx hbB
          generalize (w5.alloc (.cells #[Value.int .i8 1, Value.int .i64 0, Value.bool false, Value.slice none 0 0, Value.slice none 0 0, Value.bool false, Value.bool true, Value.bool false, Value.slice ua un uc, Value.slice ub um ud, Value.bool false, Value.slice va vn vc, Value.slice vb vm vd, Value.bool false, Value.slice ya yn yc, Value.slice yb ym yd, Value.bool false, Value.slice za zn zc, Value.slice zb zm zd] 67)) = va6 at *
          refine hKq.out _ _ T_6 (fun hHeld => ?_)
          clear hHeld hKq Kq
          (try simp only [Act.put, List.setIfInBounds_toArray, List.set_cons_zero, List.set_cons_succ])
          refine D_late (i := 10) (by kernel_rfl) rfl (by kernel_rfl) (fun Kq hKq => ?_)
          rw [if_pos (by rfl)]
          refine wp_appP (p := ({PX.o with kind := 1, opn := true, A := (⟨false, ua, un, uc, ub, um, ud⟩ : FX), B := (⟨false, va, vn, vc, vb, vm, vd⟩ : FX), C := (⟨false, ya, yn, yc, yb, ym, yd⟩ : FX), D := (⟨false, za, zn, zc, zb, zm, zd⟩ : FX)} : PX)) (P := xPV) _ _ rfl HS_6 rfl rfl (w5.heap.size) 1 rfl LIT_6 ⟨rfl, rfl, rfl, rfl, FA.o _ _, (fun _ h => by cases h), ⟨.inl (FN.new Ou_6 Pu_6 Du.out (fun g hg => hNN.out g (by omega)) (fun g hg => hNN.out g (by omega))), .inl (FN.new Ov_6 Pv_6 Dv.out (fun g hg => hNN.out g (by omega)) (fun g hg => hNN.out g (by omega))), .inl (FN.new Oy_6 Py_6 Dy.out (fun g hg => hNN.out g (by omega)) (fun g hg => hNN.out g (by omega))), .inl (FN.new Oz_6 Pz_6 Dz.out (fun g hg => hNN.out g (by omega)) (fun g hg => hNN.out g (by omega)))⟩⟩ (by omega) (by omega) (fun a2 c2 w2 HS2 hk2 => ?_)
          refine hKq.out _ _ ?_
          clear hKq Kq
          (try simp only [Act.put, List.setIfInBounds_toArray, List.set_cons_zero, List.set_cons_succ])
          refine D_late (i := 11) (by kernel_rfl) rfl (by kernel_rfl) (fun Kq hKq => ?_)
          go_simp
          refine hKq.out _ _ ?_
          clear hKq Kq
          (try simp only [Act.put, List.setIfInBounds_toArray, List.set_cons_zero, List.set_cons_succ])
          refine D_done (by kernel_rfl) ?_ _
          refine NoPanic.normal ?_
          have R2 := R_6.kp hk2 (fun e => by have := row_blk HS_6.row _ e; omega)
          have hbl2 := hbel_6.kp hk2 hbel_6.size (fun j hj e => by have := row_blk HS_6.row _ e; omega)
          have hz2 := hk2.size
          go_wp2
          go_roundw
          case rel => exact ⟨k + 1, a2, c2, ({PX.o with kind := 1, opn := true, A := (⟨false, ua, un, uc, ub, um, ud⟩ : FX), B := (⟨false, va, vn, vc, vb, vm, vd⟩ : FX), C := (⟨false, ya, yn, yc, yb, ym, yd⟩ : FX), D := (⟨false, za, zn, zc, zb, zm, zd⟩ : FX)} : PX) :: ps, xPV :: Ps, by omega, by go_num, by first | rfl | (simp only [List.length_cons]; go_num), HS2, (by rw [hst.out]; show stpV at_ k 1 q Ps = _; unfold stpV; rw [if_pos rfl, if_pos hath.out]), R2, hbl2, by simp only [List.length_cons]; omega, by omega⟩
          case measure => simp [intOf]; omega
        ·
          have hat2 : ((k : Int) == at_) = false := by simp [hat]
          have hath := hid hat
          clear hat
          have cT_0_0 : _ = some (Value.int .i8 1) := T_0.cell 0
          go_wp2_with fail
          clear cT_0_0
          have hB : Below W1.heap.size W1 W1.drew := (Below.refl _ _).drew
          have hB_1 : Below W1.heap.size W1 W1.drew := hB
          have T_1 := T_0.next hB_1
          have R_1 := R_0.next hB_1
          have HS_1 := HS_0.below hB_1
          have HQ_1 := HQ_0.below hB_1
          have hbel_1 := hbel_0.next hB_1
          have hsz_1 := hB_1.size
          clear T_0 R_0 HS_0 HQ_0 hbel_0 hB_1
          clear hB
          refine wp_region_noPanic ?_
          refine D_region (S := (fun w' => Blk w' (wr.heap.size) #[Value.int .i8 1, Value.bool s, Value.slice ta tn tc, Value.slice tb tm td])) (T := [9, 10]) (by kernel_rfl) T_1 (fun hHeld => ?_)
          clear hHeld
          generalize W1.drew = vd1 at *
          refine D_pure (i := 0) (d := some 44) (v := (.slice a ps.length cc)) rfl rfl (by kernel_rfl) (by kernel_rfl) (by kernel_rfl) (fun _ _ _ h => h) (by rfl) (fun _ => by go_simp) ?_
          (try simp only [Act.put, List.setIfInBounds_toArray, List.set_cons_zero, List.set_cons_succ])
          refine D_pure (i := 1) (d := some 45) (v := (.pointer (some ⟨wr.heap.size, 0, none⟩))) rfl rfl (by kernel_rfl) (by kernel_rfl) (by kernel_rfl) (fun _ _ _ h => h) (by rfl) (fun _ => by go_simp) ?_
          (try simp only [Act.put, List.setIfInBounds_toArray, List.set_cons_zero, List.set_cons_succ])
          refine D_load (i := 2) (d := some 46) (v := Value.int .i8 1) [2, 4] rfl rfl (by kernel_rfl) (by kernel_rfl) (by kernel_rfl) (by kernel_rfl) (by kernel_rfl) (by kernel_rfl) (fun _ _ _ h => h) (by rfl) (fun w hSw => by (have b0 := hSw); have l0 : _ = some (Value.int .i8 1) := b0.cell (0); (clear b0); go_simp) T_1 ?_
          (try simp only [Act.put, List.setIfInBounds_toArray, List.set_cons_zero, List.set_cons_succ])
          refine D_pure (i := 3) (d := some 47) (v := (.pointer (some ⟨wr.heap.size, 1, none⟩))) rfl rfl (by kernel_rfl) (by kernel_rfl) (by kernel_rfl) (fun _ _ _ h => h) (by rfl) (fun _ => by go_simp) ?_
          (try simp only [Act.put, List.setIfInBounds_toArray, List.set_cons_zero, List.set_cons_succ])
          refine D_load (i := 4) (d := some 48) (v := (.agg #[Value.bool s, Value.slice ta tn tc, Value.slice tb tm td])) [2, 4] rfl rfl (by kernel_rfl) (by kernel_rfl) (by kernel_rfl) (by kernel_rfl) (by kernel_rfl) (by kernel_rfl) (fun _ _ _ h => h) (by rfl) (fun w hSw => by (have b0 := hSw); have l0 : _ = some (Value.bool s) := b0.cell (1); have l1 : _ = some (Value.slice ta tn tc) := b0.cell (2); have l2 : _ = some (Value.slice tb tm td) := b0.cell (3); (clear b0); go_simp) T_1 ?_
          (try simp only [Act.put, List.setIfInBounds_toArray, List.set_cons_zero, List.set_cons_succ])
          refine D_one (i := 5) (by kernel_rfl) rfl (fun Kq hKq => ?_)
          go_simp
          have hbx := blk_new vd1 #[Value.bool s, Value.slice ta tn tc, Value.slice tb tm td] 28
          have hbB := (Below.refl vd1.heap.size vd1).alloc (Nat.le_refl _) (.cells #[Value.bool s, Value.slice ta tn tc, Value.slice tb tm td] 28)
          have hltL := hbx.lt
          have hB_2 : Below vd1.heap.size vd1 (vd1.alloc (.cells #[Value.bool s, Value.slice ta tn tc, Value.slice tb tm td] 28)) := hbB
          have T_2 := T_1.next hB_2
          have R_2 := R_1.next hB_2
          have HS_2 := HS_1.below hB_2
          have HQ_2 := HQ_1.below hB_2
          have hbel_2 := hbel_1.next hB_2
          have hsz_2 := hB_2.size
          clear T_1 R_1 HS_1 HQ_1 hbel_1 hB_2
          have L_2 := hbx
          clear hbx hbB
          generalize (vd1.alloc (.cells #[Value.bool s, Value.slice ta tn tc, Value.slice tb tm td] 28)) = va2 at *
          refine hKq.out _ _ T_2 (fun hHeld => ?_)
          clear hHeld hKq Kq
          (try simp only [Act.put, List.setIfInBounds_toArray, List.set_cons_zero, List.set_cons_succ])
          refine D_one (i := 6) (by kernel_rfl) rfl (fun Kq hKq => ?_)
          go_simp
          refine (sum_one L_2 HQ_2 (by omega) hK2).mono ?_
          rintro e w3 ⟨ua, un, uc, ub, um, ud, rfl, hO, hO', hD, hB⟩
          have hB_3 : Below va2.heap.size va2 w3 := (bl.next hB)
          have T_3 := T_2.next hB_3
          have R_3 := R_2.next hB_3
          have L_3 := L_2.next hB_3
          have HS_3 := HS_2.below hB_3
          have HQ_3 := HQ_2.below hB_3
          have hbel_3 := hbel_2.next hB_3
          have hsz_3 := hB_3.size
          clear T_2 R_2 L_2 HS_2 HQ_2 hbel_2 hB_3
          have Ou_3 := (show Own va2.heap.size _ _ _ _ _ from hO)
          have ltOu := (show Own va2.heap.size _ _ _ _ _ from hO).ltB
          have Pu_3 := (show Own va2.heap.size _ _ _ _ _ from hO')
          have ltPu := (show Own va2.heap.size _ _ _ _ _ from hO').ltB
          have Du := hid hD
          clear hO hO' hD
          try clear hB
          (try go_wp2_with fail)
          refine hKq.out _ _ T_3 (fun hHeld => ?_)
          clear hHeld hKq Kq
          (try simp only [Act.put, List.setIfInBounds_toArray, List.set_cons_zero, List.set_cons_succ])
          refine D_pure (i := 7) (d := some 51) (v := (.agg #[Value.int .i8 1, Value.int .i64 0, Value.bool (decide ((q).num < 0)), Value.slice ua un uc, Value.slice ub um ud, Value.bool false, Value.bool false, Value.bool false, Value.slice none 0 0, Value.slice none 0 0, Value.bool false, Value.slice none 0 0, Value.slice none 0 0, Value.bool false, Value.slice none 0 0, Value.slice none 0 0, Value.bool false, Value.slice none 0 0, Value.slice none 0 0])) rfl rfl (by kernel_rfl) (by kernel_rfl) (by kernel_rfl) (fun _ _ _ h => h) (by rfl) (fun _ => by go_simp) ?_
          (try simp only [Act.put, List.setIfInBounds_toArray, List.set_cons_zero, List.set_cons_succ])
          refine D_one (i := 8) (by kernel_rfl) rfl (fun Kq hKq => ?_)
          go_simp
          have hbx := blk_new w3 #[Value.int .i8 1, Value.int .i64 0, Value.bool (decide ((q).num < 0)), Value.slice ua un uc, Value.slice ub um ud, Value.bool false, Value.bool false, Value.bool false, Value.slice none 0 0, Value.slice none 0 0, Value.bool false, Value.slice none 0 0, Value.slice none 0 0, Value.bool false, Value.slice none 0 0, Value.slice none 0 0, Value.bool false, Value.slice none 0 0, Value.slice none 0 0] 67
          have hbB := (Below.refl w3.heap.size w3).alloc (Nat.le_refl _) (.cells #[Value.int .i8 1, Value.int .i64 0, Value.bool (decide ((q).num < 0)), Value.slice ua un uc, Value.slice ub um ud, Value.bool false, Value.bool false, Value.bool false, Value.slice none 0 0, Value.slice none 0 0, Value.bool false, Value.slice none 0 0, Value.slice none 0 0, Value.bool false, Value.slice none 0 0, Value.slice none 0 0, Value.bool false, Value.slice none 0 0, Value.slice none 0 0] 67)
          have hltLIT := hbx.lt
          have hB_4 : Below w3.heap.size w3 (w3.alloc (.cells #[Value.int .i8 1, Value.int .i64 0, Value.bool (decide ((q).num < 0)), Value.slice ua un uc, Value.slice ub um ud, Value.bool false, Value.bool false, Value.bool false, Value.slice none 0 0, Value.slice none 0 0, Value.bool false, Value.slice none 0 0, Value.slice none 0 0, Value.bool false, Value.slice none 0 0, Value.slice none 0 0, Value.bool false, Value.slice none 0 0, Value.slice none 0 0] 67)) := hbB
          have T_4 := T_3.next hB_4
          have R_4 := R_3.next hB_4
          have L_4 := L_3.next hB_4
          have HS_4 := HS_3.below hB_4
          have HQ_4 := HQ_3.below hB_4
          have Ou_4 := Ou_3.below hB_4
          have Pu_4 := Pu_3.below hB_4
          have hbel_4 := hbel_3.next hB_4
          have hsz_4 := hB_4.size
          clear T_3 R_3 L_3 HS_3 HQ_3 Ou_3 Pu_3 hbel_3 hB_4
          have LIT_4 := hbx
          clear hbx hbB
          generalize (w3.alloc (.cells #[Value.int .i8 1, Value.int .i64 0, Value.bool (decide ((q).num < 0)), Value.slice ua un uc, Value.slice ub um ud, Value.bool false, Value.bool false, Value.bool false, Value.slice none 0 0, Value.slice none 0 0, Value.bool false, Value.slice none 0 0, Value.slice none 0 0, Value.bool false, Value.slice none 0 0, Value.slice none 0 0, Value.bool false, Value.slice none 0 0, Value.slice none 0 0] 67)) = va4 at *
          refine hKq.out _ _ T_4 (fun hHeld => ?_)
          clear hHeld hKq Kq
          (try simp only [Act.put, List.setIfInBounds_toArray, List.set_cons_zero, List.set_cons_succ])
          refine D_late (i := 9) (by kernel_rfl) rfl (by kernel_rfl) (fun Kq hKq => ?_)
          rw [if_pos (by rfl)]
          refine wp_appP (p := ({PX.o with kind := 1, v := (⟨decide ((q).num < 0), ua, un, uc, ub, um, ud⟩ : FX)} : PX)) (P := nPV q) _ _ rfl HS_4 rfl rfl (w3.heap.size) 1 rfl LIT_4 ⟨rfl, rfl, rfl, rfl, .inl (FN.new Ou_4 Pu_4 Du.out (fun g hg => hNN.out g (by omega)) (fun g hg => hNN.out g (by omega))), (fun _ _ => (FN.new Ou_4 Pu_4 Du.out (fun g hg => hNN.out g (by omega)) (fun g hg => hNN.out g (by omega)))), LineOK.z _ _⟩ (by omega) (by omega) (fun a2 c2 w2 HS2 hk2 => ?_)
          refine hKq.out _ _ ?_
          clear hKq Kq
          (try simp only [Act.put, List.setIfInBounds_toArray, List.set_cons_zero, List.set_cons_succ])
          refine D_late (i := 10) (by kernel_rfl) rfl (by kernel_rfl) (fun Kq hKq => ?_)
          go_simp
          refine hKq.out _ _ ?_
          clear hKq Kq
          (try simp only [Act.put, List.setIfInBounds_toArray, List.set_cons_zero, List.set_cons_succ])
          refine D_done (by kernel_rfl) ?_ _
          refine NoPanic.normal ?_
          have R2 := R_4.kp hk2 (fun e => by have := row_blk HS_4.row _ e; omega)
          have hbl2 := hbel_4.kp hk2 hbel_4.size (fun j hj e => by have := row_blk HS_4.row _ e; omega)
          have hz2 := hk2.size
          go_wp2
          go_roundw
          case rel => exact ⟨k + 1, a2, c2, ({PX.o with kind := 1, v := (⟨decide ((q).num < 0), ua, un, uc, ub, um, ud⟩ : FX)} : PX) :: ps, nPV q :: Ps, by omega, by go_num, by first | rfl | (simp only [List.length_cons]; go_num), HS2, (by rw [hst.out]; show stpV at_ k 1 q Ps = _; unfold stpV; rw [if_pos rfl, if_neg hath.out]), R2, hbl2, by simp only [List.length_cons]; omega, by omega⟩
          case measure => simp [intOf]; omega
      ·
        have hk1 : (tk == 1) = false := by simp [h1]
        have h1h := hid h1
        clear h1
        by_cases h6 : tk = 6
        ·
          subst h6
          clear hk1
          have cT_0_0 : _ = some (Value.int .i8 6) := T_0.cell 0
          rcases ps with _ | ⟨p, ps⟩
          ·
            rcases Ps with _ | ⟨P, Ps⟩
            ·
              go_wp2_with (refine BigFrame.wpList_want (by rfl) (fun Kq hKq => wp_storeP (p := PX.o) (q := PX.o) _ _ rfl rfl rfl R_0 (fun ws hbs hks => hKq _ _ ?_)))
              have hbl := hbel_0.kp hks hbel_0.size (fun j hj (e : j = _) => by omega)
              go_wp2_with fail
              refine bodyPost_ret (res_blk_tmp Try.results48 rfl rfl hbs Try.underlying67 rfl (by kernel_rfl)) rfl ?_
              have han : ansV at_ xs = none := by
                exact ansV_none (by rw [hst.out]; show stpV at_ k 6 q [] = none; unfold stpV; rw [if_neg (by decide), if_pos rfl]) (by rw [hlen.out]; omega)
              rw [han]
              exact ⟨hbl, rfl⟩
            · exact HS_0.ok.elim
          ·
            rcases Ps with _ | ⟨P, Ps⟩
            · exact HS_0.ok.elim
            obtain ⟨gs, rfl, hgs, hgl, hgc, -⟩ := HS_0.addr
            obtain ⟨m, hm⟩ : ∃ m, ps.length = m := ⟨_, rfl⟩
            have hm1 : (p :: ps).length = m + 1 := by rw [List.length_cons, hm]
            obtain ⟨M, hM⟩ : ∃ M : Int, (((p :: ps).length : Nat) : Int) = M := ⟨_, rfl⟩
            have hMm : M = (m : Int) + 1 := by omega
            rw [hM, hm1]
            have hw1 : IntKind.i64.wrap (M - 1) = (m : Int) := by rw [IntKind.wrap_i64]; omega
            have hw2 : M - 1 = (m : Int) := by omega
            have hw3 : decide (0 < M) = true := by simp; omega
            have hw4 : decide (M > 0) = true := by simp; omega
            have hw5 : (0 : Int) < M := by omega
            have htop : W1.rangeAt gs (m * 19) p.arr.toList := hm ▸ HS_0.top
            obtain ⟨mz, hpz1, hpz2, -⟩ := hpz.out
            have hmK : mz * K ≤ 250000 := Nat.le_trans (Nat.mul_le_mul_right K (by omega)) hnh.out
            have hPS := hid (hpz1.ps hmK)
            have hp0 := hid hpz1.lo
            have hp1 : Hid (P.deep ≤ 500000) := hid (by have := hpz1.hi; omega)
            clear hpz1 hmK hMm
            go_wp2_with (refine BigFrame.wpList_want (by rfl) (fun Kq hKq => wp_loadRow _ rfl rfl htop (hKq _ _ ?_)))
            refine (opp_any HS_0.ok.1 hPS.out (by omega) hp0.out hp1.out (fun g hg => hNN.out g (by omega))).mono ?_
            rintro e w1 ⟨r, rfl, hr, hB⟩
            have hB_1 : Below W1.heap.size W1 w1 := (bl.next hB)
            have T_1 := T_0.next hB_1
            have R_1 := R_0.next hB_1
            have HS_1 := HS_0.below hB_1
            have HQ_1 := HQ_0.below hB_1
            have hbel_1 := hbel_0.next hB_1
            have hsz_1 := hB_1.size
            clear T_0 R_0 HS_0 HQ_0 hbel_0 hB_1
            clear cT_0_0
            have hrr := hid hr
            clear hr
            try clear hB
            go_wp2_with (refine BigFrame.wpList_want (by rfl) (fun Kq hKq => wp_storeRow (i := m * 19) _ _ rfl (by rw [hm]) rfl rfl HS_1 hrr.out (fun w2 HS2 hk2 => hKq _ _ ?_)))
            have R2 := R_1.kp hk2 (show ¬ (_ = gs) by omega)
            have hbl2 := hbel_1.kp hk2 hbel_1.size (fun j hj (e : j = gs) => by omega)
            have hz2 := hk2.size
            go_wp2
            go_roundw
            case rel => exact ⟨k + 1, _, cc, r :: ps, oppV P :: Ps, by omega, by go_num, by first | rfl | (rw [List.length_cons, hm]), HS2, (by rw [hst.out]; show stpV at_ k 6 q (P :: Ps) = _; unfold stpV; rw [if_neg (by decide), if_pos rfl]), R2, hbl2, by simp only [List.length_cons] at *; omega, by omega⟩
            case measure => simp [intOf]; omega
        ·
          have hk6 : (tk == 6) = false := by simp [h6]
          have h6h := hid h6
          clear h6
          by_cases h25 : 2 ≤ tk ∧ tk ≤ 5
          ·
            have cT_0_0 : _ = some (Value.int .i8 tk) := T_0.cell 0
            have f1 : decide (tk ≥ 2) = true := by simp; omega
            have f2 : decide (tk ≤ 5) = true := by simp; omega
            have hkd := hid (show Kd tk by unfold Kd; omega)
            have h25h := hid h25
            clear h25
            rcases ps with _ | ⟨q0, ps⟩
            ·
              rcases Ps with _ | ⟨P, Ps⟩
              ·
                go_wp2_with (refine BigFrame.wpList_want (by rfl) (fun Kq hKq => wp_storeP (p := PX.o) (q := PX.o) _ _ rfl rfl rfl R_0 (fun ws hbs hks => hKq _ _ ?_)))
                have hbl := hbel_0.kp hks hbel_0.size (fun j hj (e : j = _) => by omega)
                go_wp2_with fail
                refine bodyPost_ret (res_blk_tmp Try.results48 rfl rfl hbs Try.underlying67 rfl (by kernel_rfl)) rfl ?_
                have han : ansV at_ xs = none := by
                  exact ansV_none (by rw [hst.out]; show stpV at_ k tk q [] = none; unfold stpV; rw [if_neg h1h.out, if_neg h6h.out, if_pos h25h.out]) (by rw [hlen.out]; omega)
                rw [han]
                exact ⟨hbl, rfl⟩
              · exact HS_0.ok.elim
            ·
              rcases Ps with _ | ⟨Q, Ps⟩
              · exact HS_0.ok.elim
              rcases ps with _ | ⟨p0, ps⟩
              ·
                rcases Ps with _ | ⟨P, Ps⟩
                ·
                  go_wp2_with (refine BigFrame.wpList_want (by rfl) (fun Kq hKq => wp_storeP (p := PX.o) (q := PX.o) _ _ rfl rfl rfl R_0 (fun ws hbs hks => hKq _ _ ?_)))
                  have hbl := hbel_0.kp hks hbel_0.size (fun j hj (e : j = _) => by omega)
                  go_wp2_with fail
                  refine bodyPost_ret (res_blk_tmp Try.results48 rfl rfl hbs Try.underlying67 rfl (by kernel_rfl)) rfl ?_
                  have han : ansV at_ xs = none := by
                    exact ansV_none (by rw [hst.out]; show stpV at_ k tk q [Q] = none; unfold stpV; rw [if_neg h1h.out, if_neg h6h.out, if_pos h25h.out]) (by rw [hlen.out]; omega)
                  rw [han]
                  exact ⟨hbl, rfl⟩
                · exact HS_0.ok.2.elim
              ·
                rcases Ps with _ | ⟨P, Ps⟩
                · exact HS_0.ok.2.elim
                obtain ⟨gs, rfl, hgs, hgl, hgc, -⟩ := HS_0.addr
                obtain ⟨m, hm⟩ : ∃ m, ps.length = m := ⟨_, rfl⟩
                obtain ⟨m1, hm1⟩ : ∃ j, j = m + 1 := ⟨_, rfl⟩
                have hml : (q0 :: p0 :: ps).length = m1 + 1 := by simp only [List.length_cons]; omega
                have hml1 : (p0 :: ps).length = m1 := by rw [List.length_cons]; omega
                obtain ⟨M, hM⟩ : ∃ M : Int, (((q0 :: p0 :: ps).length : Nat) : Int) = M := ⟨_, rfl⟩
                have hMm : M = (m : Int) + 2 := by omega
                rw [hM, hml]
                have hw1 : IntKind.i64.wrap (M - 1) = (m1 : Int) := by rw [IntKind.wrap_i64]; omega
                have hw2 : M - 1 = (m1 : Int) := by omega
                have hv1 : IntKind.i64.wrap (M - 2) = (m : Int) := by rw [IntKind.wrap_i64]; omega
                have hv2 : M - 2 = (m : Int) := by omega
                have hw4 : decide (M > 1) = true := by simp; omega
                have hw5 : (1 : Int) < M := by omega
                have hx1 : IntKind.i64.wrap (m : Int) = (m : Int) := by rw [IntKind.wrap_i64]; omega
                have hx2 : IntKind.i64.wrap (m1 : Int) = (m1 : Int) := by rw [IntKind.wrap_i64]; omega
                have hlt1 : m < m1 + 1 := by omega
                have hlt2 : m1 < m1 + 1 := by omega
                have hlt3 : m ≤ cc := by omega
                have hlt4 : m ≤ m1 + 1 := by omega
                have hn1 : ¬ ((m1 : Int) + 1 ≤ (m : Int)) := by omega
                have hn2 : ¬ ((m1 : Int) + 1 ≤ (m1 : Int)) := by omega
                have hn3 : (0 : Int) ≤ (m1 : Int) := by omega
                have hm1h := hid hm1
                clear hm1
                obtain ⟨mq, hq1, hq2, mp, hp1, hp2, -⟩ := hpz.out
                have hmK : mq * K ≤ 250000 := Nat.le_trans (Nat.mul_le_mul_right K (by omega)) hnh.out
                have hmK2 : mp * K ≤ 250000 := Nat.le_trans (Nat.mul_le_mul_right K (by omega)) hnh.out
                have hPS := hid (hp1.ps hmK2)
                have hQS := hid (hq1.ps hmK)
                have hl1 := hid hp1.lo
                have hl2 := hid hq1.lo
                have hh1 : Hid (P.deep ≤ 500000) := hid (by have := hp1.hi; omega)
                have hh2 : Hid (Q.deep ≤ 500000) := hid (by have := hq1.hi; omega)
                clear hq1 hp1 hmK hmK2 hMm
                go_wp2_with fail
                clear cT_0_0
                have hB : Below W1.heap.size W1 W1.drew := (Below.refl _ _).drew
                have hB_1 : Below W1.heap.size W1 W1.drew := hB
                have T_1 := T_0.next hB_1
                have R_1 := R_0.next hB_1
                have HS_1 := HS_0.below hB_1
                have HQ_1 := HQ_0.below hB_1
                have hbel_1 := hbel_0.next hB_1
                have hsz_1 := hB_1.size
                clear T_0 R_0 HS_0 HQ_0 hbel_0 hB_1
                clear hB
                refine wp_region_noPanic ?_
                refine D_region (S := (fun w' => Blk w' (wr.heap.size) #[Value.int .i8 tk, Value.bool s, Value.slice ta tn tc, Value.slice tb tm td] ∧ Stk (w.heap.size + 1) w' (some ⟨gs, 0, none⟩) cc (q0 :: p0 :: ps) (Q :: P :: Ps))) (T := [18, 19]) (by kernel_rfl) ⟨T_1, HS_1⟩ (fun hHeld => ?_)
                clear hHeld
                generalize W1.drew = vd1 at *
                refine D_pure (i := 0) (d := some 85) (v := (.slice (some ⟨gs, 0, none⟩) (m1 + 1) cc)) rfl rfl (by kernel_rfl) (by kernel_rfl) (by kernel_rfl) (fun _ _ _ h => h) (by rfl) (fun _ => by go_simp) ?_
                (try simp only [Act.put, List.setIfInBounds_toArray, List.set_cons_zero, List.set_cons_succ])
                refine D_pure (i := 1) (d := some 86) (v := (.int .i64 M)) rfl rfl (by kernel_rfl) (by kernel_rfl) (by kernel_rfl) (fun _ _ _ h => h) (by rfl) (fun _ => by go_simp) ?_
                (try simp only [Act.put, List.setIfInBounds_toArray, List.set_cons_zero, List.set_cons_succ])
                refine D_pure (i := 2) (d := some 87) (v := (.int .i64 m)) rfl rfl (by kernel_rfl) (by kernel_rfl) (by kernel_rfl) (fun _ _ _ h => h) (by rfl) (fun _ => by go_simp) ?_
                (try simp only [Act.put, List.setIfInBounds_toArray, List.set_cons_zero, List.set_cons_succ])
                refine D_pure (i := 3) (d := some 88) (v := (.slice (some ⟨gs, 0, none⟩) m cc)) rfl rfl (by kernel_rfl) (by kernel_rfl) (by kernel_rfl) (fun _ _ _ h => h) (by rfl) (fun _ => by go_simp) ?_
                (try simp only [Act.put, List.setIfInBounds_toArray, List.set_cons_zero, List.set_cons_succ])
                refine D_pure (i := 4) (d := some 89) (v := (.pointer (some ⟨wr.heap.size, 0, none⟩))) rfl rfl (by kernel_rfl) (by kernel_rfl) (by kernel_rfl) (fun _ _ _ h => h) (by rfl) (fun _ => by go_simp) ?_
                (try simp only [Act.put, List.setIfInBounds_toArray, List.set_cons_zero, List.set_cons_succ])
                refine D_load (i := 5) (d := some 90) (v := Value.int .i8 tk) [5, 10, 15] rfl rfl (by kernel_rfl) (by kernel_rfl) (by kernel_rfl) (by kernel_rfl) (by kernel_rfl) (by kernel_rfl) (fun _ _ _ h => h) (by rfl) (fun w hSw => by (obtain ⟨b0, b1⟩ := hSw); have l0 : _ = some (Value.int .i8 tk) := b0.cell (0); (clear b0 b1); go_simp) ⟨T_1, HS_1⟩ ?_
                (try simp only [Act.put, List.setIfInBounds_toArray, List.set_cons_zero, List.set_cons_succ])
                refine D_pure (i := 6) (d := some 91) (v := (.slice (some ⟨gs, 0, none⟩) (m1 + 1) cc)) rfl rfl (by kernel_rfl) (by kernel_rfl) (by kernel_rfl) (fun _ _ _ h => h) (by rfl) (fun _ => by go_simp) ?_
                (try simp only [Act.put, List.setIfInBounds_toArray, List.set_cons_zero, List.set_cons_succ])
                refine D_pure (i := 7) (d := some 92) (v := (.int .i64 M)) rfl rfl (by kernel_rfl) (by kernel_rfl) (by kernel_rfl) (fun _ _ _ h => h) (by rfl) (fun _ => by go_simp) ?_
                (try simp only [Act.put, List.setIfInBounds_toArray, List.set_cons_zero, List.set_cons_succ])
                refine D_pure (i := 8) (d := some 93) (v := (.int .i64 m)) rfl rfl (by kernel_rfl) (by kernel_rfl) (by kernel_rfl) (fun _ _ _ h => h) (by rfl) (fun _ => by go_simp) ?_
                (try simp only [Act.put, List.setIfInBounds_toArray, List.set_cons_zero, List.set_cons_succ])
                refine D_pure (i := 9) (d := some 94) (v := (.pointer (some ⟨gs, m * 19, none⟩))) rfl rfl (by kernel_rfl) (by kernel_rfl) (by kernel_rfl) (fun _ _ _ h => h) (by rfl) (fun _ => by go_simp) ?_
                (try simp only [Act.put, List.setIfInBounds_toArray, List.set_cons_zero, List.set_cons_succ])
                refine D_load (i := 10) (d := some 95) (v := (.agg p0.arr)) [5, 10, 15] rfl rfl (by kernel_rfl) (by kernel_rfl) (by kernel_rfl) (by kernel_rfl) (by kernel_rfl) (by kernel_rfl) (fun _ _ _ h => h) (by rfl) (fun w hSw => by (obtain ⟨b0, b1⟩ := hSw); exact exec_loadRow 67 _ rfl rfl (hm ▸ b1.pop.top) Try.underlying67 rfl (by kernel_rfl)) ⟨T_1, HS_1⟩ ?_
                (try simp only [Act.put, List.setIfInBounds_toArray, List.set_cons_zero, List.set_cons_succ])
                refine D_pure (i := 11) (d := some 96) (v := (.slice (some ⟨gs, 0, none⟩) (m1 + 1) cc)) rfl rfl (by kernel_rfl) (by kernel_rfl) (by kernel_rfl) (fun _ _ _ h => h) (by rfl) (fun _ => by go_simp) ?_
                (try simp only [Act.put, List.setIfInBounds_toArray, List.set_cons_zero, List.set_cons_succ])
                refine D_pure (i := 12) (d := some 97) (v := (.int .i64 M)) rfl rfl (by kernel_rfl) (by kernel_rfl) (by kernel_rfl) (fun _ _ _ h => h) (by rfl) (fun _ => by go_simp) ?_
                (try simp only [Act.put, List.setIfInBounds_toArray, List.set_cons_zero, List.set_cons_succ])
                refine D_pure (i := 13) (d := some 98) (v := (.int .i64 m1)) rfl rfl (by kernel_rfl) (by kernel_rfl) (by kernel_rfl) (fun _ _ _ h => h) (by rfl) (fun _ => by go_simp) ?_
                (try simp only [Act.put, List.setIfInBounds_toArray, List.set_cons_zero, List.set_cons_succ])
                refine D_pure (i := 14) (d := some 99) (v := (.pointer (some ⟨gs, m1 * 19, none⟩))) rfl rfl (by kernel_rfl) (by kernel_rfl) (by kernel_rfl) (fun _ _ _ h => h) (by rfl) (fun _ => by go_simp) ?_
                (try simp only [Act.put, List.setIfInBounds_toArray, List.set_cons_zero, List.set_cons_succ])
                refine D_load (i := 15) (d := some 100) (v := (.agg q0.arr)) [5, 10, 15] rfl rfl (by kernel_rfl) (by kernel_rfl) (by kernel_rfl) (by kernel_rfl) (by kernel_rfl) (by kernel_rfl) (fun _ _ _ h => h) (by rfl) (fun w hSw => by (obtain ⟨b0, b1⟩ := hSw); exact exec_loadRow 67 _ rfl rfl (hml1 ▸ b1.top) Try.underlying67 rfl (by kernel_rfl)) ⟨T_1, HS_1⟩ ?_
                (try simp only [Act.put, List.setIfInBounds_toArray, List.set_cons_zero, List.set_cons_succ])
                refine D_one (i := 16) (by kernel_rfl) rfl (fun Kq hKq => ?_)
                go_simp
                refine (join_any hkd.out HS_1.ok.2.1 HS_1.ok.1 hPS.out hQS.out (by omega) (by omega) hl1.out hh1.out hl2.out hh2.out (fun g hg => hNN.out g (by omega))).mono ?_
                rintro e w2 ⟨r, rfl, hr, hB⟩
                have hB_2 : Below vd1.heap.size vd1 w2 := (bl.next hB)
                have T_2 := T_1.next hB_2
                have R_2 := R_1.next hB_2
                have HS_2 := HS_1.below hB_2
                have HQ_2 := HQ_1.below hB_2
                have hbel_2 := hbel_1.next hB_2
                have hsz_2 := hB_2.size
                clear T_1 R_1 HS_1 HQ_1 hbel_1 hB_2
                have hrr := hid hr
                clear hr
                simp only [PX.arr]
                try clear hB
                (try go_wp2_with fail)
                refine hKq.out _ _ ⟨T_2, HS_2⟩ (fun hHeld => ?_)
                clear hHeld hKq Kq
                (try simp only [Act.put, List.setIfInBounds_toArray, List.set_cons_zero, List.set_cons_succ])
                have hbA := (Below.refl w2.heap.size w2).alloc (Nat.le_refl _) (.cells #[Value.int .i8 r.kind, Value.int .i64 r.deep, Value.bool r.v.s, Value.slice r.v.a r.v.n r.v.c, Value.slice r.v.b r.v.m r.v.d, Value.bool r.bad, Value.bool r.opn, Value.bool r.A.s, Value.slice r.A.a r.A.n r.A.c, Value.slice r.A.b r.A.m r.A.d, Value.bool r.B.s, Value.slice r.B.a r.B.n r.B.c, Value.slice r.B.b r.B.m r.B.d, Value.bool r.C.s, Value.slice r.C.a r.C.n r.C.c, Value.slice r.C.b r.C.m r.C.d, Value.bool r.D.s, Value.slice r.D.a r.D.n r.D.c, Value.slice r.D.b r.D.m r.D.d] 67)
                have hrr := hid (hrr.out.below hbA)
                clear hbA
                refine D_one (i := 17) (by kernel_rfl) rfl (fun Kq hKq => ?_)
                go_simp
                have hbx := blk_new w2 #[Value.int .i8 r.kind, Value.int .i64 r.deep, Value.bool r.v.s, Value.slice r.v.a r.v.n r.v.c, Value.slice r.v.b r.v.m r.v.d, Value.bool r.bad, Value.bool r.opn, Value.bool r.A.s, Value.slice r.A.a r.A.n r.A.c, Value.slice r.A.b r.A.m r.A.d, Value.bool r.B.s, Value.slice r.B.a r.B.n r.B.c, Value.slice r.B.b r.B.m r.B.d, Value.bool r.C.s, Value.slice r.C.a r.C.n r.C.c, Value.slice r.C.b r.C.m r.C.d, Value.bool r.D.s, Value.slice r.D.a r.D.n r.D.c, Value.slice r.D.b r.D.m r.D.d] 67
                have hbB := (Below.refl w2.heap.size w2).alloc (Nat.le_refl _) (.cells #[Value.int .i8 r.kind, Value.int .i64 r.deep, Value.bool r.v.s, Value.slice r.v.a r.v.n r.v.c, Value.slice r.v.b r.v.m r.v.d, Value.bool r.bad, Value.bool r.opn, Value.bool r.A.s, Value.slice r.A.a r.A.n r.A.c, Value.slice r.A.b r.A.m r.A.d, Value.bool r.B.s, Value.slice r.B.a r.B.n r.B.c, Value.slice r.B.b r.B.m r.B.d, Value.bool r.C.s, Value.slice r.C.a r.C.n r.C.c, Value.slice r.C.b r.C.m r.C.d, Value.bool r.D.s, Value.slice r.D.a r.D.n r.D.c, Value.slice r.D.b r.D.m r.D.d] 67)
                have hltLIT := hbx.lt
                have hB_3 : Below w2.heap.size w2 (w2.alloc (.cells #[Value.int .i8 r.kind, Value.int .i64 r.deep, Value.bool r.v.s, Value.slice r.v.a r.v.n r.v.c, Value.slice r.v.b r.v.m r.v.d, Value.bool r.bad, Value.bool r.opn, Value.bool r.A.s, Value.slice r.A.a r.A.n r.A.c, Value.slice r.A.b r.A.m r.A.d, Value.bool r.B.s, Value.slice r.B.a r.B.n r.B.c, Value.slice r.B.b r.B.m r.B.d, Value.bool r.C.s, Value.slice r.C.a r.C.n r.C.c, Value.slice r.C.b r.C.m r.C.d, Value.bool r.D.s, Value.slice r.D.a r.D.n r.D.c, Value.slice r.D.b r.D.m r.D.d] 67)) := hbB
                have T_3 := T_2.next hB_3
                have R_3 := R_2.next hB_3
                have HS_3 := HS_2.below hB_3
                have HQ_3 := HQ_2.below hB_3
                have hbel_3 := hbel_2.next hB_3
                have hsz_3 := hB_3.size
                clear T_2 R_2 HS_2 HQ_2 hbel_2 hB_3
                have LIT_3 := hbx
                clear hbx hbB
                generalize (w2.alloc (.cells #[Value.int .i8 r.kind, Value.int .i64 r.deep, Value.bool r.v.s, Value.slice r.v.a r.v.n r.v.c, Value.slice r.v.b r.v.m r.v.d, Value.bool r.bad, Value.bool r.opn, Value.bool r.A.s, Value.slice r.A.a r.A.n r.A.c, Value.slice r.A.b r.A.m r.A.d, Value.bool r.B.s, Value.slice r.B.a r.B.n r.B.c, Value.slice r.B.b r.B.m r.B.d, Value.bool r.C.s, Value.slice r.C.a r.C.n r.C.c, Value.slice r.C.b r.C.m r.C.d, Value.bool r.D.s, Value.slice r.D.a r.D.n r.D.c, Value.slice r.D.b r.D.m r.D.d] 67)) = va3 at *
                refine hKq.out _ _ ⟨T_3, HS_3⟩ (fun hHeld => ?_)
                clear hHeld hKq Kq
                (try simp only [Act.put, List.setIfInBounds_toArray, List.set_cons_zero, List.set_cons_succ])
                refine D_late (i := 18) (by kernel_rfl) rfl (by kernel_rfl) (fun Kq hKq => ?_)
                rw [if_pos (by rfl)]
                refine wp_appP (p := r) (P := joinV tk P Q) _ _ rfl HS_3.pop.pop hm.symm rfl (w2.heap.size) 1 rfl LIT_3 hrr.out (by omega) (by omega) (fun a2 c2 w2 HS2 hk2 => ?_)
                refine hKq.out _ _ ?_
                clear hKq Kq
                (try simp only [Act.put, List.setIfInBounds_toArray, List.set_cons_zero, List.set_cons_succ])
                refine D_late (i := 19) (by kernel_rfl) rfl (by kernel_rfl) (fun Kq hKq => ?_)
                go_simp
                refine hKq.out _ _ ?_
                clear hKq Kq
                (try simp only [Act.put, List.setIfInBounds_toArray, List.set_cons_zero, List.set_cons_succ])
                refine D_done (by kernel_rfl) ?_ _
                refine NoPanic.normal ?_
                have R2 := R_3.kp hk2 (fun e => by have := row_blk HS_3.row _ e; omega)
                have hbl2 := hbel_3.kp hk2 hbel_3.size (fun j hj e => by have := row_blk HS_3.row _ e; omega)
                have hz2 := hk2.size
                go_wp2
                go_roundw
                case rel => exact ⟨k + 1, a2, c2, r :: ps, joinV tk P Q :: Ps, by omega, by go_num, by first | rfl | (rw [List.length_cons, hm]), HS2, (by rw [hst.out]; show stpV at_ k tk q (Q :: P :: Ps) = _; unfold stpV; rw [if_neg h1h.out, if_neg h6h.out, if_pos h25h.out]), R2, hbl2, by simp only [List.length_cons] at *; omega, by omega⟩
                case measure => simp [intOf]; omega
          ·
            have cT_0_0 : _ = some (Value.int .i8 tk) := T_0.cell 0
            have hkb : (decide (tk ≥ 2) && decide (tk ≤ 5)) = false := by simp; omega
            have h5 : tk < 2 ∨ 5 < tk := by omega
            have h25h := hid h25
            clear h25
            by_cases h2 : 2 ≤ tk
            ·
              have f1 : decide (tk ≥ 2) = true := by simp; omega
              have f2 : decide (tk ≤ 5) = false := by simp; omega
              clear h2 hkb h5
              go_wp2_with (refine BigFrame.wpList_want (by rfl) (fun Kq hKq => wp_storeP (p := PX.o) (q := PX.o) _ _ rfl rfl rfl R_0 (fun ws hbs hks => hKq _ _ ?_)))
              have hbl := hbel_0.kp hks hbel_0.size (fun j hj (e : j = _) => by omega)
              go_wp2_with fail
              refine bodyPost_ret (res_blk_tmp Try.results48 rfl rfl hbs Try.underlying67 rfl (by kernel_rfl)) rfl ?_
              have han : ansV at_ xs = none := by
                exact ansV_none (by rw [hst.out]; show stpV at_ k tk q Ps = none; unfold stpV; rw [if_neg h1h.out, if_neg h6h.out, if_neg h25h.out]) (by rw [hlen.out]; omega)
              rw [han]
              exact ⟨hbl, rfl⟩
            ·
              have f1 : decide (tk ≥ 2) = false := by simp; omega
              clear h2 hkb h5
              go_wp2_with (refine BigFrame.wpList_want (by rfl) (fun Kq hKq => wp_storeP (p := PX.o) (q := PX.o) _ _ rfl rfl rfl R_0 (fun ws hbs hks => hKq _ _ ?_)))
              have hbl := hbel_0.kp hks hbel_0.size (fun j hj (e : j = _) => by omega)
              go_wp2_with fail
              refine bodyPost_ret (res_blk_tmp Try.results48 rfl rfl hbs Try.underlying67 rfl (by kernel_rfl)) rfl ?_
              have han : ansV at_ xs = none := by
                exact ansV_none (by rw [hst.out]; show stpV at_ k tk q Ps = none; unfold stpV; rw [if_neg h1h.out, if_neg h6h.out, if_neg h25h.out]) (by rw [hlen.out]; omega)
              rw [han]
              exact ⟨hbl, rfl⟩
    ·
      have hkn : k = n := by omega
      subst hkn
      rcases ps with _ | ⟨p, ps⟩
      ·
        rcases Ps with _ | ⟨P, Ps⟩
        ·
          go_wp2_with (refine BigFrame.wpList_want (by rfl) (fun Kq hKq => wp_storeP (p := PX.o) (q := PX.o) _ _ rfl rfl rfl R1 (fun ws hbs hks => hKq _ _ ?_)))
          have hbl := hB.kp hks hB.size (fun j hj (e : j = _) => by omega)
          go_wp2_with fail
          refine bodyPost_ret (res_blk_tmp Try.results48 rfl rfl hbs Try.underlying67 rfl (by kernel_rfl)) rfl ?_
          have han : ansV at_ xs = none := by
            unfold ansV; rw [hlen.out, hW.out]
          rw [han]
          exact ⟨hbl, rfl⟩
        · exact hS.ok.elim
      ·
        rcases Ps with _ | ⟨P, Ps⟩
        · exact hS.ok.elim
        obtain ⟨gs, rfl, hgs, hgl, -⟩ := hS.addr
        rcases ps with _ | ⟨r, ps⟩
        ·
          rcases Ps with _ | ⟨R, Ps⟩
          ·
            have htop : wr.rangeAt gs 0 p.arr.toList := hS.top
            go_wp2_with (first | refine BigFrame.wpList_want (by rfl) (fun Kq hKq => wp_loadRow _ rfl rfl htop (hKq _ _ ?_)) | refine BigFrame.wpList_want (by rfl) (fun Kq hKq => wp_storeP (p := p) (q := PX.o) _ _ rfl rfl rfl R1 (fun ws hbs hks => hKq _ _ ?_)))
            have hbl := hB.kp hks hB.size (fun j hj (e : j = _) => by omega)
            go_wp2_with fail
            refine bodyPost_ret (res_blk_tmp Try.results48 rfl rfl hbs Try.underlying67 rfl (by kernel_rfl)) rfl ?_
            have han : ansV at_ xs = some P := by unfold ansV; rw [hlen.out, hW.out]
            rw [han]
            exact ⟨hbl, p, rfl, (hS.ok.1.kp hks (fun j (e : j = _) hn => by have := hn.1; omega)).mono (fun g _ hn => by have := hn.1; omega)⟩
          · exact hS.ok.2.elim
        ·
          rcases Ps with _ | ⟨R, Ps⟩
          · exact hS.ok.2.elim
          have hln : (((p :: r :: ps).length : Nat) : Int) = (ps.length : Int) + 2 := by simp only [List.length_cons]; omega
          go_wp2_with (refine BigFrame.wpList_want (by rfl) (fun Kq hKq => wp_storeP (p := PX.o) (q := PX.o) _ _ rfl rfl rfl R1 (fun ws hbs hks => hKq _ _ ?_)))
          have hbl := hB.kp hks hB.size (fun j hj (e : j = _) => by omega)
          go_wp2_with fail
          refine bodyPost_ret (res_blk_tmp Try.results48 rfl rfl hbs Try.underlying67 rfl (by kernel_rfl)) rfl ?_
          have han : ansV at_ xs = none := by
            unfold ansV; rw [hlen.out, hW.out]
          rw [han]
          exact ⟨hbl, rfl⟩

end Go.Proofs.Ytennilapmcgnbaa
