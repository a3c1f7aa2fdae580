/- WALKS OF WHOLE NUMBERS, 8: quotients rounded towards 0. -/
import Derived.Test.YtennilapmcgnbaaZg
namespace Go.Proofs.Ytennilapmcgnbaa
set_option linter.unusedVariables false
set_option linter.unusedSimpArgs false
open Go.ChangeShapes Go.WideShapes Go.ChangeAt Go.RowKit Go.NatP

/-- two whole numbers, apart, and an error -/
def RetZZ (w : World) (q r er : Int) (e : Ending) (w' : World) : Prop :=
  ∃ a n c b m d, e = .returned (.tuple #[.agg #[.bool (decide (q < 0)), .slice a n c], .agg #[.bool (decide (r < 0)), .slice b m d], .int .i64 er]) ∧ Own w.heap.size w' a n c (lm q.natAbs) ∧ Own w.heap.size w' b m d (lm r.natAbs) ∧ Diff a b ∧ Below w.heap.size w w'
theorem Own.set2 {B : Nat} {w : World} {a : Option Addr} {n c : Nat} {l : List Nat} (h : Own B w a n c l) {g : Nat} (hg : g < B) (v0 v1 : Value) : Own B ((w.setCell ⟨g, 0, none⟩ v0).setCell ⟨g, 1, none⟩ v1) a n c l :=
  (h.set_other v0 (fun g' e => by have := h.lt' g' e; omega)).set_other v1 (fun g' e => by have := h.lt' g' e; omega)
theorem Below.set2 {B g : Nat} {a w : World} (h : Below B a w) (hg : B ≤ g) (v0 v1 : Value) : Below B a ((w.setCell ⟨g, 0, none⟩ v0).setCell ⟨g, 1, none⟩ v1) := (h.setCell (p := ⟨g, 0, none⟩) hg v0).setCell (p := ⟨g, 1, none⟩) hg v1
theorem retzz_set {w w2 : World} {q r er : Int} {B g g' : Nat} {a b : Option Addr} {n c m d : Nat} {v0 v1 u0 u1 : Value} (hO : Own B w2 a n c (lm q.natAbs)) (hO2 : Own B w2 b m d (lm r.natAbs)) (hD : Diff a b) (hB : Below w.heap.size w w2)
    (hg : w.heap.size ≤ g) (hgB : g < B) (hg' : w.heap.size ≤ g') (hgB' : g' < B) :
    RetZZ w q r er (.returned (.tuple #[.agg #[.bool (decide (q < 0)), .slice a n c], .agg #[.bool (decide (r < 0)), .slice b m d], .int .i64 er])) ((((w2.setCell ⟨g, 0, none⟩ v0).setCell ⟨g, 1, none⟩ v1).setCell ⟨g', 0, none⟩ u0).setCell ⟨g', 1, none⟩ u1) :=
  ⟨a, n, c, b, m, d, rfl, ((hO.set2 hgB _ _).set2 hgB' _ _).mono (by omega), ((hO2.set2 hgB _ _).set2 hgB' _ _).mono (by omega), hD, Below.set2 (Below.set2 hB hg _ _) hg' _ _⟩
theorem retzz_nil {w w2 : World} {er : Int} {g g' : Nat} {v0 v1 u0 u1 : Value} (hB : Below w.heap.size w w2) (hg : w.heap.size ≤ g) (hg' : w.heap.size ≤ g') :
    RetZZ w 0 0 er (.returned (.tuple #[.agg #[.bool false, .slice none 0 0], .agg #[.bool false, .slice none 0 0], .int .i64 er])) ((((w2.setCell ⟨g, 0, none⟩ v0).setCell ⟨g, 1, none⟩ v1).setCell ⟨g', 0, none⟩ u0).setCell ⟨g', 1, none⟩ u1) :=
  ⟨none, 0, 0, none, 0, 0, rfl, own_nil _ _, own_nil _ _, diff_nil _, Below.set2 (Below.set2 hB hg _ _) hg' _ _⟩

set_option maxRecDepth 100000 in
set_option maxHeartbeats 4000000 in
theorem zquo_zero {w : World} {a : Option Addr} {n c : Nat} {la : List Nat} {b : Option Addr} {m d : Nat} {lb : List Nat} (s t : Bool) (ha : Rd w a n c la) (hn : n ≤ 4194304) (hb : Rd w b m d lb) (hm : m ≤ 4194304) (h0 : val lb = 0) :
    Calls Try.prog 61 #[.agg #[.bool s, .slice a n c], .agg #[.bool t, .slice b m d]] w (RetZZ w 0 0 11) := by
  have hE := hid (show dvE (val lb) = 11 by unfold dvE; rw [if_pos h0])
  clear h0
  have hent := ent4 w #[Value.bool s, Value.slice a n c] #[Value.bool t, Value.slice b m d] #[Value.bool false, Value.slice none 0 0] #[Value.bool false, Value.slice none 0 0] 26 26 26 26
  go_enter Try.func61, Try.ntmps61
  go_wp2_with fail
  generalize ((((w.alloc (.cells #[Value.bool s, Value.slice a n c] 26)).alloc (.cells #[Value.bool t, Value.slice b m d] 26)).alloc (.cells #[Value.bool false, Value.slice none 0 0] 26)).alloc (.cells #[Value.bool false, Value.slice none 0 0] 26)) = W0 at hent ⊢
  obtain ⟨Xa_0, Xb_0, R0_0, R1_0, hbel, hsz⟩ := hent
  have Xa_0_0 : _ = some (Value.bool s) := Xa_0.cell 0
  have Xa_0_1 : _ = some (Value.slice a n c) := Xa_0.cell 1
  have Xb_0_0 : _ = some (Value.bool t) := Xb_0.cell 0
  have Xb_0_1 : _ = some (Value.slice b m d) := Xb_0.cell 1
  have R0_0_0 : _ = some (Value.bool false) := R0_0.cell 0
  have R0_0_f0 := R0_0.free 0
  have R0_0_1 : _ = some (Value.slice none 0 0) := R0_0.cell 1
  have R0_0_f1 := R0_0.free 1
  have R1_0_0 : _ = some (Value.bool false) := R1_0.cell 0
  have R1_0_f0 := R1_0.free 0
  have R1_0_1 : _ = some (Value.slice none 0 0) := R1_0.cell 1
  have R1_0_f1 := R1_0.free 1
  have HA := hid (fun W (h : Below W0.heap.size W0 W) => ha.below (hbel.next h))
  have hza := hid ha.szv
  have HB := hid (fun W (h : Below W0.heap.size W0 W) => hb.below (hbel.next h))
  have hzb := hid hb.szv
  clear ha hb
  go_wp2_with fail
  refine (divmod_any (HA.out _ (Below.refl _ _)) (HB.out _ (Below.refl _ _)) (by omega)).mono ?_
  rintro e w1 ⟨p, pn, pc, r, rn, rc, rfl, hO1, hO2, hDf, hB⟩
  have hB1 : Below W0.heap.size W0 w1 := (by first | exact hB | exact below_drew hB)
  have Xa_1 := Xa_0.next hB1
  have Xa_1_0 : _ = some (Value.bool s) := Xa_1.cell 0
  have Xa_1_1 : _ = some (Value.slice a n c) := Xa_1.cell 1
  have Xb_1 := Xb_0.next hB1
  have Xb_1_0 : _ = some (Value.bool t) := Xb_1.cell 0
  have Xb_1_1 : _ = some (Value.slice b m d) := Xb_1.cell 1
  have R0_1 := R0_0.next hB1
  have R0_1_0 : _ = some (Value.bool false) := R0_1.cell 0
  have R0_1_f0 := R0_1.free 0
  have R0_1_1 : _ = some (Value.slice none 0 0) := R0_1.cell 1
  have R0_1_f1 := R0_1.free 1
  have R1_1 := R1_0.next hB1
  have R1_1_0 : _ = some (Value.bool false) := R1_1.cell 0
  have R1_1_f0 := R1_1.free 0
  have R1_1_1 : _ = some (Value.slice none 0 0) := R1_1.cell 1
  have R1_1_f1 := R1_1.free 1
  have hbel1 := hbel.next hB1
  have hsz1 := hB1.size
  rw [hE.out]
  go_wp2
  refine bodyPost_ret (v := .tuple #[.agg #[.bool false, .slice none 0 0], .agg #[.bool false, .slice none 0 0], .int .i64 11]) (by simp [results, Try.results61, go_sem, R0_1_0, R0_1_1, R1_1_0, R1_1_1]) rfl ?_
  exact retzz_nil hbel1 (by omega) (by omega)

set_option maxRecDepth 100000 in
set_option maxHeartbeats 4000000 in
theorem zquo_pos {w : World} {a : Option Addr} {n c : Nat} {la : List Nat} {b : Option Addr} {m d : Nat} {lb : List Nat} (s t : Bool) (ha : Rd w a n c la) (hn : n ≤ 4194304) (hb : Rd w b m d lb) (hm : m ≤ 4194304) (h0 : val lb ≠ 0) :
    Calls Try.prog 61 #[.agg #[.bool s, .slice a n c], .agg #[.bool t, .slice b m d]] w (RetZZ w (zv (!(s == t)) (val la / val lb)) (zv s (dvR (val la) (val lb))) 0) := by
  have hE := hid (show dvE (val lb) = 0 by unfold dvE; rw [if_neg h0])
  clear h0
  have hent := ent4 w #[Value.bool s, Value.slice a n c] #[Value.bool t, Value.slice b m d] #[Value.bool false, Value.slice none 0 0] #[Value.bool false, Value.slice none 0 0] 26 26 26 26
  go_enter Try.func61, Try.ntmps61
  go_wp2_with fail
  generalize ((((w.alloc (.cells #[Value.bool s, Value.slice a n c] 26)).alloc (.cells #[Value.bool t, Value.slice b m d] 26)).alloc (.cells #[Value.bool false, Value.slice none 0 0] 26)).alloc (.cells #[Value.bool false, Value.slice none 0 0] 26)) = W0 at hent ⊢
  obtain ⟨Xa_0, Xb_0, R0_0, R1_0, hbel, hsz⟩ := hent
  have Xa_0_0 : _ = some (Value.bool s) := Xa_0.cell 0
  have Xa_0_1 : _ = some (Value.slice a n c) := Xa_0.cell 1
  have Xb_0_0 : _ = some (Value.bool t) := Xb_0.cell 0
  have Xb_0_1 : _ = some (Value.slice b m d) := Xb_0.cell 1
  have R0_0_0 : _ = some (Value.bool false) := R0_0.cell 0
  have R0_0_f0 := R0_0.free 0
  have R0_0_1 : _ = some (Value.slice none 0 0) := R0_0.cell 1
  have R0_0_f1 := R0_0.free 1
  have R1_0_0 : _ = some (Value.bool false) := R1_0.cell 0
  have R1_0_f0 := R1_0.free 0
  have R1_0_1 : _ = some (Value.slice none 0 0) := R1_0.cell 1
  have R1_0_f1 := R1_0.free 1
  have HA := hid (fun W (h : Below W0.heap.size W0 W) => ha.below (hbel.next h))
  have hza := hid ha.szv
  have HB := hid (fun W (h : Below W0.heap.size W0 W) => hb.below (hbel.next h))
  have hzb := hid hb.szv
  clear ha hb
  go_wp2_with fail
  refine (divmod_any (HA.out _ (Below.refl _ _)) (HB.out _ (Below.refl _ _)) (by omega)).mono ?_
  rintro e w1 ⟨p, pn, pc, r, rn, rc, rfl, hO1, hO2, hDf, hB⟩
  have hB1 : Below W0.heap.size W0 w1 := (by first | exact hB | exact below_drew hB)
  have Xa_1 := Xa_0.next hB1
  have Xa_1_0 : _ = some (Value.bool s) := Xa_1.cell 0
  have Xa_1_1 : _ = some (Value.slice a n c) := Xa_1.cell 1
  have Xb_1 := Xb_0.next hB1
  have Xb_1_0 : _ = some (Value.bool t) := Xb_1.cell 0
  have Xb_1_1 : _ = some (Value.slice b m d) := Xb_1.cell 1
  have R0_1 := R0_0.next hB1
  have R0_1_0 : _ = some (Value.bool false) := R0_1.cell 0
  have R0_1_f0 := R0_1.free 0
  have R0_1_1 : _ = some (Value.slice none 0 0) := R0_1.cell 1
  have R0_1_f1 := R0_1.free 1
  have R1_1 := R1_0.next hB1
  have R1_1_0 : _ = some (Value.bool false) := R1_1.cell 0
  have R1_1_f0 := R1_1.free 0
  have R1_1_1 : _ = some (Value.slice none 0 0) := R1_1.cell 1
  have R1_1_f1 := R1_1.free 1
  have hbel1 := hbel.next hB1
  have hsz1 := hB1.size
  rw [hE.out]
  have hpn : pn ≤ 4194304 := by have := len_le (l := la) hO1.len (hza.out.mono (Nat.div_le_self _ (val lb)) (Nat.le_refl _)); omega
  have hrn : rn ≤ 4194304 := by have := len_le (l := la) hO2.len (hza.out.mono (dvR_le _ (val lb)) (Nat.le_refl _)); omega
  go_wp2_with fail
  have hO1s := hO1
  have hO2s := hO2
  have HP := hid (fun W (h : Below w1.heap.size w1 W) => zof_any (!(s == t)) (hO1s.rd.below h) (show pn ≤ 16777216 by omega))
  have HQ := hid (fun W (h : Below w1.heap.size w1 W) => zof_any s (hO2s.rd.below h) (show rn ≤ 16777216 by omega))
  simp only [val_lm] at HP HQ
  clear hO1 hO2 hO1s hO2s
  go_region_held3 (fun w' => w'.cell? ⟨w.heap.size, 0, none⟩ = some (Value.bool s) ∧ w'.cell? ⟨w.heap.size, 1, none⟩ = some (Value.slice a n c) ∧ w'.cell? ⟨w.heap.size + 1, 0, none⟩ = some (Value.bool t) ∧ w'.cell? ⟨w.heap.size + 1, 1, none⟩ = some (Value.slice b m d))
    (first | exact ⟨Xa_1_0, Xa_1_1, Xb_1_0, Xb_1_1⟩ | exact ⟨Xa_2_0, Xa_2_1, Xb_2_0, Xb_2_1⟩ | exact ⟨Xa_3_0, Xa_3_1, Xb_3_0, Xb_3_1⟩ | exact ⟨(cell_set2 (by omega) _ _).trans Xa_3_0, (cell_set2 (by omega) _ _).trans Xa_3_1, (cell_set2 (by omega) _ _).trans Xb_3_0, (cell_set2 (by omega) _ _).trans Xb_3_1⟩ | exact ⟨(cell_set2 (by omega) _ _).trans ((cell_set2 (by omega) _ _).trans Xa_3_0), (cell_set2 (by omega) _ _).trans ((cell_set2 (by omega) _ _).trans Xa_3_1), (cell_set2 (by omega) _ _).trans ((cell_set2 (by omega) _ _).trans Xb_3_0), (cell_set2 (by omega) _ _).trans ((cell_set2 (by omega) _ _).trans Xb_3_1)⟩ | go_keep)
    (first
      | (go_at_call 44; ((with_reducible refine (HP.out _ (by first | exact Below.refl _ _ | exact (Below.refl _ _).drew)).mono ?_); (rintro e w2 ⟨qa, qn, qc, rfl, hO3, hB⟩; have hB2 : Below w1.heap.size w1 w2 := (by first | exact hB | exact below_drew hB); have Xa_2 := Xa_1.next hB2; have Xa_2_0 : _ = some (Value.bool s) := Xa_2.cell 0; have Xa_2_1 : _ = some (Value.slice a n c) := Xa_2.cell 1; have Xb_2 := Xb_1.next hB2; have Xb_2_0 : _ = some (Value.bool t) := Xb_2.cell 0; have Xb_2_1 : _ = some (Value.slice b m d) := Xb_2.cell 1; have R0_2 := R0_1.next hB2; have R0_2_0 : _ = some (Value.bool false) := R0_2.cell 0; have R0_2_f0 := R0_2.free 0; have R0_2_1 : _ = some (Value.slice none 0 0) := R0_2.cell 1; have R0_2_f1 := R0_2.free 1; have R1_2 := R1_1.next hB2; have R1_2_0 : _ = some (Value.bool false) := R1_2.cell 0; have R1_2_f0 := R1_2.free 0; have R1_2_1 : _ = some (Value.slice none 0 0) := R1_2.cell 1; have R1_2_f1 := R1_2.free 1; have hbel2 := hbel1.next hB2; have hsz2 := hB2.size)))
      | (go_at_call 44; ((with_reducible refine (HQ.out _ hB2).mono ?_); (skip; rintro e w3 ⟨ua, un, uc, rfl, hO4, hB⟩; have hB3 : Below w2.heap.size w2 w3 := (by first | exact hB | exact below_drew hB); have Xa_3 := Xa_2.next hB3; have Xa_3_0 : _ = some (Value.bool s) := Xa_3.cell 0; have Xa_3_1 : _ = some (Value.slice a n c) := Xa_3.cell 1; have Xb_3 := Xb_2.next hB3; have Xb_3_0 : _ = some (Value.bool t) := Xb_3.cell 0; have Xb_3_1 : _ = some (Value.slice b m d) := Xb_3.cell 1; have R0_3 := R0_2.next hB3; have R0_3_0 : _ = some (Value.bool false) := R0_3.cell 0; have R0_3_f0 := R0_3.free 0; have R0_3_1 : _ = some (Value.slice none 0 0) := R0_3.cell 1; have R0_3_f1 := R0_3.free 1; have R1_3 := R1_2.next hB3; have R1_3_0 : _ = some (Value.bool false) := R1_3.cell 0; have R1_3_f0 := R1_3.free 0; have R1_3_1 : _ = some (Value.slice none 0 0) := R1_3.cell 1; have R1_3_f1 := R1_3.free 1; have hbel3 := hbel2.next hB3; have hsz3 := hB3.size; have hO3' := hO3.below hB3; have hd34 := diff_of hO3 hO4 (Nat.le_refl _)))))
  go_wp2
  refine bodyPost_ret (v := .tuple #[.agg #[.bool (decide (zv (!(s == t)) (val la / val lb) < 0)), .slice qa qn qc], .agg #[.bool (decide (zv s (dvR (val la) (val lb)) < 0)), .slice ua un uc], .int .i64 0]) (by simp [results, Try.results61, go_sem, R0_3_0, R0_3_1, R1_3_0, R1_3_1]) rfl ?_
  exact retzz_set (B := w1.heap.size) hO3' (hO4.mono hsz2) hd34 hbel3 (by omega) (by omega) (by omega) (by omega)

set_option maxRecDepth 100000 in
set_option maxHeartbeats 4000000 in
theorem zquo_any {w : World} {a : Option Addr} {n c : Nat} {la : List Nat} {b : Option Addr} {m d : Nat} {lb : List Nat} (s t : Bool) (ha : Rd w a n c la) (hn : n ≤ 4194304) (hb : Rd w b m d lb) (hm : m ≤ 4194304) :
    Calls Try.prog 61 #[.agg #[.bool s, .slice a n c], .agg #[.bool t, .slice b m d]] w (RetZZ w (zv (!(s == t)) (val la / val lb)) (zv s (dvR (val la) (val lb))) (dvE (val lb))) := by
  by_cases h0 : val lb = 0
  · have h := zquo_zero s t ha hn hb hm h0
    rw [show zv (!(s == t)) (val la / val lb) = 0 from zv_zero _ (by rw [h0, Nat.div_zero]), show zv s (dvR (val la) (val lb)) = 0 from zv_zero _ (by rw [h0]; rfl), show dvE (val lb) = 11 by rw [h0]; rfl]
    exact h
  · rw [dvE_pos h0]
    exact zquo_pos s t ha hn hb hm h0

end Go.Proofs.Ytennilapmcgnbaa
