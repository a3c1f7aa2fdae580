/- WALKS OF WHOLE NUMBERS, 3: sums, differences, products. -/
import Derived.Test.YtennilapmcgnbaaZb
namespace Go.Proofs.Ytennilapmcgnbaa
set_option linter.unusedVariables false
set_option linter.unusedSimpArgs false
open Go.ChangeShapes Go.WideShapes Go.ChangeAt Go.RowKit Go.NatP

theorem len_le {l : List Nat} {n v : Nat} (h : (lm v).length = n) {k : Nat} (hs : Sz v k) : n ≤ k := by have := hs.len; omega
theorem Rd.szv {w : World} {a : Option Addr} {n c : Nat} {l : List Nat} (h : Rd w a n c l) : Sz (val l) n := h.lim.sz (by rw [h.len]; exact Nat.le_refl _)
theorem szAdd {m n j k : Nat} (h : Sz m j) (h' : Sz n k) : Sz (m + n) (j + k + 1) := (h.mono (Nat.le_refl _) (by omega)).add (h'.mono (Nat.le_refl _) (by omega))

set_option maxRecDepth 100000 in
set_option maxHeartbeats 4000000 in
theorem zadd_same {w : World} {a b : Option Addr} {n c m d : Nat} {la lb : List Nat} (s : Bool) (ha : Rd w a n c la) (hb : Rd w b m d lb) (hn : n ≤ 4194304) (hm : m ≤ 4194304) :
    Calls Try.prog 32 #[.agg #[.bool s, .slice a n c], .agg #[.bool s, .slice b m d]] w (RetZ w (zv s (val la) + zv s (val lb))) := by
  rw [← zv_add_same]
  have hent := ent3 w #[Value.bool s, Value.slice a n c] #[Value.bool s, Value.slice b m d] #[Value.bool false, Value.slice none 0 0] 26 26 26
  go_enter Try.func32, Try.ntmps32
  go_wp2_with fail
  generalize (((w.alloc (.cells #[Value.bool s, Value.slice a n c] 26)).alloc (.cells #[Value.bool s, Value.slice b m d] 26)).alloc (.cells #[Value.bool false, Value.slice none 0 0] 26)) = W0 at hent ⊢
  obtain ⟨Xa_0, Xb_0, R0_0, hbel, hsz⟩ := hent
  have Xa_0_0 : _ = some (Value.bool s) := Xa_0.cell 0
  have Xa_0_1 : _ = some (Value.slice a n c) := Xa_0.cell 1
  have Xb_0_0 : _ = some (Value.bool s) := Xb_0.cell 0
  have Xb_0_1 : _ = some (Value.slice b m d) := Xb_0.cell 1
  have R0_0_0 : _ = some (Value.bool false) := R0_0.cell 0
  have R0_0_f0 := R0_0.free 0
  have R0_0_1 : _ = some (Value.slice none 0 0) := R0_0.cell 1
  have R0_0_f1 := R0_0.free 1
  have HA := hid (fun W (h : Below W0.heap.size W0 W) => ha.below (hbel.next h))
  have HB := hid (fun W (h : Below W0.heap.size W0 W) => hb.below (hbel.next h))
  have hza := hid ha.szv
  have hzb := hid hb.szv
  clear ha hb
  go_region_held3 (fun w' => w'.cell? ⟨w.heap.size, 0, none⟩ = some (Value.bool s) ∧ w'.cell? ⟨w.heap.size, 1, none⟩ = some (Value.slice a n c) ∧ w'.cell? ⟨w.heap.size + 1, 0, none⟩ = some (Value.bool s) ∧ w'.cell? ⟨w.heap.size + 1, 1, none⟩ = some (Value.slice b m d))
    (first | exact ⟨Xa_0_0, Xa_0_1, Xb_0_0, Xb_0_1⟩ | exact ⟨Xa_1_0, Xa_1_1, Xb_1_0, Xb_1_1⟩ | exact ⟨Xa_2_0, Xa_2_1, Xb_2_0, Xb_2_1⟩ | exact ⟨(cell_set2 (by omega) _ _).trans Xa_2_0, (cell_set2 (by omega) _ _).trans Xa_2_1, (cell_set2 (by omega) _ _).trans Xb_2_0, (cell_set2 (by omega) _ _).trans Xb_2_1⟩ | go_keep)
    (first
      | (go_at_call 49; ((with_reducible refine (add_any (HA.out _ (by first | exact Below.refl _ _ | exact (Below.refl _ _).drew)) (HB.out _ (by first | exact Below.refl _ _ | exact (Below.refl _ _).drew)) (by omega) (by omega)).mono ?_); (rintro e w1 ⟨ra, rn, rc, rfl, hO1, hB⟩; have hB1 : Below W0.heap.size W0 w1 := (by first | exact hB | exact below_drew hB); have Xa_1 := Xa_0.next hB1; have Xa_1_0 : _ = some (Value.bool s) := Xa_1.cell 0; have Xa_1_1 : _ = some (Value.slice a n c) := Xa_1.cell 1; have Xb_1 := Xb_0.next hB1; have Xb_1_0 : _ = some (Value.bool s) := Xb_1.cell 0; have Xb_1_1 : _ = some (Value.slice b m d) := Xb_1.cell 1; have R0_1 := R0_0.next hB1; have R0_1_0 : _ = some (Value.bool false) := R0_1.cell 0; have R0_1_f0 := R0_1.free 0; have R0_1_1 : _ = some (Value.slice none 0 0) := R0_1.cell 1; have R0_1_f1 := R0_1.free 1; have hbel1 := hbel.next hB1; have hsz1 := hB1.size)))
      | (go_at_call 44; ((with_reducible refine (zof_any s hO1.rd (by have := len_le (l := la) hO1.len (szAdd hza.out hzb.out); omega)).mono ?_); (rw [val_lm]; rintro e w2 ⟨qa, qn, qc, rfl, hO2, hB⟩; have hB2 : Below w1.heap.size w1 w2 := (by first | exact hB | exact below_drew hB); have Xa_2 := Xa_1.next hB2; have Xa_2_0 : _ = some (Value.bool s) := Xa_2.cell 0; have Xa_2_1 : _ = some (Value.slice a n c) := Xa_2.cell 1; have Xb_2 := Xb_1.next hB2; have Xb_2_0 : _ = some (Value.bool s) := Xb_2.cell 0; have Xb_2_1 : _ = some (Value.slice b m d) := Xb_2.cell 1; have R0_2 := R0_1.next hB2; have R0_2_0 : _ = some (Value.bool false) := R0_2.cell 0; have R0_2_f0 := R0_2.free 0; have R0_2_1 : _ = some (Value.slice none 0 0) := R0_2.cell 1; have R0_2_f1 := R0_2.free 1; have hbel2 := hbel1.next hB2; have hsz2 := hB2.size))))
  go_wp2
  refine bodyPost_ret (v := .agg #[.bool (decide (zv s (val la + val lb) < 0)), .slice qa qn qc]) (by simp [results, Try.results32, go_sem, R0_2_0, R0_2_1]) rfl ?_
  exact retz_set hO2 hbel2 (by omega) (by omega)

set_option maxRecDepth 100000 in
set_option maxHeartbeats 4000000 in
theorem zadd_ge {w : World} {a b : Option Addr} {n c m d : Nat} {la lb : List Nat} (s t : Bool) (ha : Rd w a n c la) (hb : Rd w b m d lb) (hn : n ≤ 4194304) (hm : m ≤ 4194304) (hst : (s == t) = false) (hle : val lb ≤ val la) :
    Calls Try.prog 32 #[.agg #[.bool s, .slice a n c], .agg #[.bool t, .slice b m d]] w (RetZ w (zv s (val la) + zv t (val lb))) := by
  have hts : t = (!s) := by cases s <;> cases t <;> simp at hst ⊢
  have hgoal := hid (zv_sub s hle)
  rw [← hts] at hgoal
  rw [← hgoal.out]
  have hd : decide (val lb ≤ val la) = true := decide_eq_true hle
  have hd' := hid hd
  clear hts hle hd
  have hent := ent3 w #[Value.bool s, Value.slice a n c] #[Value.bool t, Value.slice b m d] #[Value.bool false, Value.slice none 0 0] 26 26 26
  go_enter Try.func32, Try.ntmps32
  go_wp2_with fail
  generalize (((w.alloc (.cells #[Value.bool s, Value.slice a n c] 26)).alloc (.cells #[Value.bool t, Value.slice b m d] 26)).alloc (.cells #[Value.bool false, Value.slice none 0 0] 26)) = W0 at hent ⊢
  obtain ⟨Xa_0, Xb_0, R0_0, hbel, hsz⟩ := hent
  have Xa_0_0 : _ = some (Value.bool s) := Xa_0.cell 0
  have Xa_0_1 : _ = some (Value.slice a n c) := Xa_0.cell 1
  have Xb_0_0 : _ = some (Value.bool t) := Xb_0.cell 0
  have Xb_0_1 : _ = some (Value.slice b m d) := Xb_0.cell 1
  have R0_0_0 : _ = some (Value.bool false) := R0_0.cell 0
  have R0_0_f0 := R0_0.free 0
  have R0_0_1 : _ = some (Value.slice none 0 0) := R0_0.cell 1
  have R0_0_f1 := R0_0.free 1
  have HA := hid (fun W (h : Below W0.heap.size W0 W) => ha.below (hbel.next h))
  have HB := hid (fun W (h : Below W0.heap.size W0 W) => hb.below (hbel.next h))
  have hza := hid ha.szv
  have hzb := hid hb.szv
  clear ha hb
  go_wp2_with fail
  refine (sub_any (HA.out _ (Below.refl _ _)) (HB.out _ (Below.refl _ _)) (by omega)).mono ?_
  rintro e w1 ⟨ra, rn, rc, rfl, hO1, hB⟩
  have hB1 : Below W0.heap.size W0 w1 := (by first | exact hB | exact below_drew hB)
  have Xa_1 := Xa_0.next hB1
  have Xa_1_0 : _ = some (Value.bool s) := Xa_1.cell 0
  have Xa_1_1 : _ = some (Value.slice a n c) := Xa_1.cell 1
  have Xb_1 := Xb_0.next hB1
  have Xb_1_0 : _ = some (Value.bool t) := Xb_1.cell 0
  have Xb_1_1 : _ = some (Value.slice b m d) := Xb_1.cell 1
  have R0_1 := R0_0.next hB1
  have R0_1_0 : _ = some (Value.bool false) := R0_1.cell 0
  have R0_1_f0 := R0_1.free 0
  have R0_1_1 : _ = some (Value.slice none 0 0) := R0_1.cell 1
  have R0_1_f1 := R0_1.free 1
  have hbel1 := hbel.next hB1
  have hsz1 := hB1.size
  rw [hd'.out]
  go_wp2_with fail
  refine (zof_any s hO1.rd (by have := len_le (l := la) hO1.len (hza.out.mono (Nat.sub_le _ (val lb)) (Nat.le_refl _)); omega)).mono ?_
  rw [val_lm]
  rintro e w2 ⟨qa, qn, qc, rfl, hO2, hB⟩
  have hB2 : Below w1.heap.size w1 w2 := (by first | exact hB | exact below_drew hB)
  have Xa_2 := Xa_1.next hB2
  have Xa_2_0 : _ = some (Value.bool s) := Xa_2.cell 0
  have Xa_2_1 : _ = some (Value.slice a n c) := Xa_2.cell 1
  have Xb_2 := Xb_1.next hB2
  have Xb_2_0 : _ = some (Value.bool t) := Xb_2.cell 0
  have Xb_2_1 : _ = some (Value.slice b m d) := Xb_2.cell 1
  have R0_2 := R0_1.next hB2
  have R0_2_0 : _ = some (Value.bool false) := R0_2.cell 0
  have R0_2_f0 := R0_2.free 0
  have R0_2_1 : _ = some (Value.slice none 0 0) := R0_2.cell 1
  have R0_2_f1 := R0_2.free 1
  have hbel2 := hbel1.next hB2
  have hsz2 := hB2.size
  go_wp2
  refine bodyPost_ret (v := .agg #[.bool (decide (zv s (val la - val lb) < 0)), .slice qa qn qc]) (by simp [results, Try.results32, go_sem, R0_2_0, R0_2_1]) rfl ?_
  exact retz_set hO2 hbel2 (by omega) (by omega)

set_option maxRecDepth 100000 in
set_option maxHeartbeats 4000000 in
theorem zadd_lt {w : World} {a b : Option Addr} {n c m d : Nat} {la lb : List Nat} (s t : Bool) (ha : Rd w a n c la) (hb : Rd w b m d lb) (hn : n ≤ 4194304) (hm : m ≤ 4194304) (hst : (s == t) = false) (hle : ¬ val lb ≤ val la) :
    Calls Try.prog 32 #[.agg #[.bool s, .slice a n c], .agg #[.bool t, .slice b m d]] w (RetZ w (zv s (val la) + zv t (val lb))) := by
  have hts : t = (!s) := by cases s <;> cases t <;> simp at hst ⊢
  have hst2 : s = (!t) := by rw [hts]; simp
  have hgoal := hid (zv_sub t (show val la ≤ val lb by omega))
  rw [← hst2] at hgoal
  rw [Int.add_comm, ← hgoal.out]
  have hd : decide (val lb ≤ val la) = false := decide_eq_false hle
  clear hst2
  have hd' := hid hd
  clear hts hle hd
  have hent := ent3 w #[Value.bool s, Value.slice a n c] #[Value.bool t, Value.slice b m d] #[Value.bool false, Value.slice none 0 0] 26 26 26
  go_enter Try.func32, Try.ntmps32
  go_wp2_with fail
  generalize (((w.alloc (.cells #[Value.bool s, Value.slice a n c] 26)).alloc (.cells #[Value.bool t, Value.slice b m d] 26)).alloc (.cells #[Value.bool false, Value.slice none 0 0] 26)) = W0 at hent ⊢
  obtain ⟨Xa_0, Xb_0, R0_0, hbel, hsz⟩ := hent
  have Xa_0_0 : _ = some (Value.bool s) := Xa_0.cell 0
  have Xa_0_1 : _ = some (Value.slice a n c) := Xa_0.cell 1
  have Xb_0_0 : _ = some (Value.bool t) := Xb_0.cell 0
  have Xb_0_1 : _ = some (Value.slice b m d) := Xb_0.cell 1
  have R0_0_0 : _ = some (Value.bool false) := R0_0.cell 0
  have R0_0_f0 := R0_0.free 0
  have R0_0_1 : _ = some (Value.slice none 0 0) := R0_0.cell 1
  have R0_0_f1 := R0_0.free 1
  have HA := hid (fun W (h : Below W0.heap.size W0 W) => ha.below (hbel.next h))
  have HB := hid (fun W (h : Below W0.heap.size W0 W) => hb.below (hbel.next h))
  have hza := hid ha.szv
  have hzb := hid hb.szv
  clear ha hb
  go_wp2_with fail
  refine (sub_any (HA.out _ (Below.refl _ _)) (HB.out _ (Below.refl _ _)) (by omega)).mono ?_
  rintro e w1 ⟨ra, rn, rc, rfl, hO1, hB⟩
  have hB1 : Below W0.heap.size W0 w1 := (by first | exact hB | exact below_drew hB)
  have Xa_1 := Xa_0.next hB1
  have Xa_1_0 : _ = some (Value.bool s) := Xa_1.cell 0
  have Xa_1_1 : _ = some (Value.slice a n c) := Xa_1.cell 1
  have Xb_1 := Xb_0.next hB1
  have Xb_1_0 : _ = some (Value.bool t) := Xb_1.cell 0
  have Xb_1_1 : _ = some (Value.slice b m d) := Xb_1.cell 1
  have R0_1 := R0_0.next hB1
  have R0_1_0 : _ = some (Value.bool false) := R0_1.cell 0
  have R0_1_f0 := R0_1.free 0
  have R0_1_1 : _ = some (Value.slice none 0 0) := R0_1.cell 1
  have R0_1_f1 := R0_1.free 1
  have hbel1 := hbel.next hB1
  have hsz1 := hB1.size
  rw [hd'.out]
  go_wp2_with fail
  refine (sub_any (HB.out _ hB1) (HA.out _ hB1) (by omega)).mono ?_
  rintro e w2 ⟨pa, pn, pc, rfl, hO2, hB⟩
  have hB2 : Below w1.heap.size w1 w2 := (by first | exact hB | exact below_drew hB)
  have Xa_2 := Xa_1.next hB2
  have Xa_2_0 : _ = some (Value.bool s) := Xa_2.cell 0
  have Xa_2_1 : _ = some (Value.slice a n c) := Xa_2.cell 1
  have Xb_2 := Xb_1.next hB2
  have Xb_2_0 : _ = some (Value.bool t) := Xb_2.cell 0
  have Xb_2_1 : _ = some (Value.slice b m d) := Xb_2.cell 1
  have R0_2 := R0_1.next hB2
  have R0_2_0 : _ = some (Value.bool false) := R0_2.cell 0
  have R0_2_f0 := R0_2.free 0
  have R0_2_1 : _ = some (Value.slice none 0 0) := R0_2.cell 1
  have R0_2_f1 := R0_2.free 1
  have hbel2 := hbel1.next hB2
  have hsz2 := hB2.size
  go_wp2_with fail
  refine (zof_any t hO2.rd (by have := len_le (l := la) hO2.len (hzb.out.mono (Nat.sub_le _ (val la)) (Nat.le_refl _)); omega)).mono ?_
  rw [val_lm]
  rintro e w3 ⟨qa, qn, qc, rfl, hO3, hB⟩
  have hB3 : Below w2.heap.size w2 w3 := (by first | exact hB | exact below_drew hB)
  have Xa_3 := Xa_2.next hB3
  have Xa_3_0 : _ = some (Value.bool s) := Xa_3.cell 0
  have Xa_3_1 : _ = some (Value.slice a n c) := Xa_3.cell 1
  have Xb_3 := Xb_2.next hB3
  have Xb_3_0 : _ = some (Value.bool t) := Xb_3.cell 0
  have Xb_3_1 : _ = some (Value.slice b m d) := Xb_3.cell 1
  have R0_3 := R0_2.next hB3
  have R0_3_0 : _ = some (Value.bool false) := R0_3.cell 0
  have R0_3_f0 := R0_3.free 0
  have R0_3_1 : _ = some (Value.slice none 0 0) := R0_3.cell 1
  have R0_3_f1 := R0_3.free 1
  have hbel3 := hbel2.next hB3
  have hsz3 := hB3.size
  go_wp2
  refine bodyPost_ret (v := .agg #[.bool (decide (zv t (val lb - val la) < 0)), .slice qa qn qc]) (by simp [results, Try.results32, go_sem, R0_3_0, R0_3_1]) rfl ?_
  exact retz_set hO3 hbel3 (by omega) (by omega)

set_option maxRecDepth 100000 in
set_option maxHeartbeats 4000000 in
theorem zadd_any {w : World} {a b : Option Addr} {n c m d : Nat} {la lb : List Nat} (s t : Bool) (ha : Rd w a n c la) (hb : Rd w b m d lb) (hn : n ≤ 4194304) (hm : m ≤ 4194304) :
    Calls Try.prog 32 #[.agg #[.bool s, .slice a n c], .agg #[.bool t, .slice b m d]] w (RetZ w (zv s (val la) + zv t (val lb))) := by
  cases hst : (s == t)
  · by_cases hle : val lb ≤ val la
    · exact zadd_ge s t ha hb hn hm hst hle
    · exact zadd_lt s t ha hb hn hm hst hle
  · obtain rfl : s = t := by simpa using hst
    exact zadd_same s ha hb hn hm

set_option maxRecDepth 100000 in
set_option maxHeartbeats 4000000 in
theorem zmul_any {w : World} {a b : Option Addr} {n c m d : Nat} {la lb : List Nat} (s t : Bool) (ha : Rd w a n c la) (hb : Rd w b m d lb) (hn : n ≤ 4194304) (hm : m ≤ 4194304) :
    Calls Try.prog 51 #[.agg #[.bool s, .slice a n c], .agg #[.bool t, .slice b m d]] w (RetZ w (zv s (val la) * zv t (val lb))) := by
  rw [← zv_mul]
  have hent := ent3 w #[Value.bool s, Value.slice a n c] #[Value.bool t, Value.slice b m d] #[Value.bool false, Value.slice none 0 0] 26 26 26
  go_enter Try.func51, Try.ntmps51
  go_wp2_with fail
  generalize (((w.alloc (.cells #[Value.bool s, Value.slice a n c] 26)).alloc (.cells #[Value.bool t, Value.slice b m d] 26)).alloc (.cells #[Value.bool false, Value.slice none 0 0] 26)) = W0 at hent ⊢
  obtain ⟨Xa_0, Xb_0, R0_0, hbel, hsz⟩ := hent
  have Xa_0_0 : _ = some (Value.bool s) := Xa_0.cell 0
  have Xa_0_1 : _ = some (Value.slice a n c) := Xa_0.cell 1
  have Xb_0_0 : _ = some (Value.bool t) := Xb_0.cell 0
  have Xb_0_1 : _ = some (Value.slice b m d) := Xb_0.cell 1
  have R0_0_0 : _ = some (Value.bool false) := R0_0.cell 0
  have R0_0_f0 := R0_0.free 0
  have R0_0_1 : _ = some (Value.slice none 0 0) := R0_0.cell 1
  have R0_0_f1 := R0_0.free 1
  have HA := hid (fun W (h : Below W0.heap.size W0 W) => ha.below (hbel.next h))
  have HB := hid (fun W (h : Below W0.heap.size W0 W) => hb.below (hbel.next h))
  have hza := hid ha.szv
  have hzb := hid hb.szv
  clear ha hb
  go_region_held3 (fun w' => w'.cell? ⟨w.heap.size, 0, none⟩ = some (Value.bool s) ∧ w'.cell? ⟨w.heap.size, 1, none⟩ = some (Value.slice a n c) ∧ w'.cell? ⟨w.heap.size + 1, 0, none⟩ = some (Value.bool t) ∧ w'.cell? ⟨w.heap.size + 1, 1, none⟩ = some (Value.slice b m d))
    (first | exact ⟨Xa_0_0, Xa_0_1, Xb_0_0, Xb_0_1⟩ | exact ⟨Xa_1_0, Xa_1_1, Xb_1_0, Xb_1_1⟩ | exact ⟨Xa_2_0, Xa_2_1, Xb_2_0, Xb_2_1⟩ | exact ⟨(cell_set2 (by omega) _ _).trans Xa_2_0, (cell_set2 (by omega) _ _).trans Xa_2_1, (cell_set2 (by omega) _ _).trans Xb_2_0, (cell_set2 (by omega) _ _).trans Xb_2_1⟩ | go_keep)
    (first
      | (go_at_call 36; ((with_reducible refine (mul_any (HA.out _ (by first | exact Below.refl _ _ | exact (Below.refl _ _).drew)) (HB.out _ (by first | exact Below.refl _ _ | exact (Below.refl _ _).drew)) (by omega) (by omega)).mono ?_); (rintro e w1 ⟨ra, rn, rc, rfl, hO1, hB⟩; have hB1 : Below W0.heap.size W0 w1 := (by first | exact hB | exact below_drew hB); have Xa_1 := Xa_0.next hB1; have Xa_1_0 : _ = some (Value.bool s) := Xa_1.cell 0; have Xa_1_1 : _ = some (Value.slice a n c) := Xa_1.cell 1; have Xb_1 := Xb_0.next hB1; have Xb_1_0 : _ = some (Value.bool t) := Xb_1.cell 0; have Xb_1_1 : _ = some (Value.slice b m d) := Xb_1.cell 1; have R0_1 := R0_0.next hB1; have R0_1_0 : _ = some (Value.bool false) := R0_1.cell 0; have R0_1_f0 := R0_1.free 0; have R0_1_1 : _ = some (Value.slice none 0 0) := R0_1.cell 1; have R0_1_f1 := R0_1.free 1; have hbel1 := hbel.next hB1; have hsz1 := hB1.size)))
      | (go_at_call 44; ((with_reducible refine (zof_any (!(s == t)) hO1.rd (by have := len_le (l := la) hO1.len (hza.out.mul hzb.out); omega)).mono ?_); (rw [val_lm]; rintro e w2 ⟨qa, qn, qc, rfl, hO2, hB⟩; have hB2 : Below w1.heap.size w1 w2 := (by first | exact hB | exact below_drew hB); have Xa_2 := Xa_1.next hB2; have Xa_2_0 : _ = some (Value.bool s) := Xa_2.cell 0; have Xa_2_1 : _ = some (Value.slice a n c) := Xa_2.cell 1; have Xb_2 := Xb_1.next hB2; have Xb_2_0 : _ = some (Value.bool t) := Xb_2.cell 0; have Xb_2_1 : _ = some (Value.slice b m d) := Xb_2.cell 1; have R0_2 := R0_1.next hB2; have R0_2_0 : _ = some (Value.bool false) := R0_2.cell 0; have R0_2_f0 := R0_2.free 0; have R0_2_1 : _ = some (Value.slice none 0 0) := R0_2.cell 1; have R0_2_f1 := R0_2.free 1; have hbel2 := hbel1.next hB2; have hsz2 := hB2.size))))
  go_wp2
  refine bodyPost_ret (v := .agg #[.bool (decide (zv (!(s == t)) (val la * val lb) < 0)), .slice qa qn qc]) (by simp [results, Try.results51, go_sem, R0_2_0, R0_2_1]) rfl ?_
  exact retz_set hO2 hbel2 (by omega) (by omega)

end Go.Proofs.Ytennilapmcgnbaa
