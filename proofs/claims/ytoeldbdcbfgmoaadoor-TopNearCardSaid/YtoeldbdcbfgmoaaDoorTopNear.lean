/- THE WALK OF credencetop.TopNear: the two floats round a fraction, and the nearest. -/
import Derived.Test.YtoeldbdcbfgmoaaDoorTNa
import Derived.Deep.Cut
import Derived.Deep.CutRange
import Derived.Deep.DeepCutAuto
namespace Go.Proofs.YtoeldbdcbfgmoaaDoor
set_option linter.unusedVariables false
set_option linter.unusedSimpArgs false
open Go.ChangeShapes Go.WideShapes Go.ChangeAt Go.RowKit Go.NatP Go.FloatP

theorem num_fnan {x : Nat} (h : fr x ≤ 9218868437227405312) : fnan x = false := decide_eq_false (by omega)
theorem od {x y : Nat} (hx : fr x ≤ 9218868437227405312) (hy : fr y ≤ 9218868437227405312) : FloatKind.f64.format.order x y = some (ic (fk x) (fk y)) := fcmp_num (num_fnan hx) (num_fnan hy)
theorem od_eq {x y : Nat} (hx : fr x ≤ 9218868437227405312) (hy : fr y ≤ 9218868437227405312) (h : fk x = fk y) : (FloatKind.f64.format.order x y != some .eq) = false := by
  rw [od hx hy]; unfold ic; rw [if_neg (by omega), if_pos h]; rfl
theorem od_eqt {x y : Nat} (hx : fr x ≤ 9218868437227405312) (hy : fr y ≤ 9218868437227405312) (h : fk x = fk y) : (FloatKind.f64.format.order x y == some .eq) = true := by
  rw [od hx hy]; unfold ic; rw [if_neg (by omega), if_pos h]; rfl
theorem od_ne {x y : Nat} (hx : fr x ≤ 9218868437227405312) (hy : fr y ≤ 9218868437227405312) (h : fk x ≠ fk y) : (FloatKind.f64.format.order x y != some .eq) = true := by
  rw [od hx hy]; unfold ic; split <;> (try rw [if_neg h]) <;> rfl
theorem od_nef {x y : Nat} (hx : fr x ≤ 9218868437227405312) (hy : fr y ≤ 9218868437227405312) (h : fk x ≠ fk y) : (FloatKind.f64.format.order x y == some .eq) = false := by
  rw [od hx hy]; unfold ic; split <;> (try rw [if_neg h]) <;> rfl
theorem od_gtf {x y : Nat} (hx : fr x ≤ 9218868437227405312) (hy : fr y ≤ 9218868437227405312) (h : fk x ≤ fk y) : (FloatKind.f64.format.order x y == some .gt) = false := by
  rw [od hx hy]; unfold ic; split
  · rfl
  · rw [if_pos (by omega)]; rfl
theorem od_gtt {x y : Nat} (hx : fr x ≤ 9218868437227405312) (hy : fr y ≤ 9218868437227405312) (h : fk y < fk x) : (FloatKind.f64.format.order x y == some .gt) = true := by
  rw [od hx hy]; unfold ic; rw [if_neg (by omega), if_neg (by omega)]; rfl
theorem isnan_b {w : World} {x : Nat} (h : fr x ≤ 9218868437227405312) : Calls Tryd.prog 29 #[.float .f64 x] w fun e w' => e = .returned (.bool false) ∧ Below w.heap.size w w' :=
  (isnan_any x).mono fun e w' ⟨h1, h2⟩ => ⟨by rw [h1, num_fnan h], h2 ▸ Below.refl _ _⟩
set_option maxRecDepth 100000 in
theorem copy11 {w : World} : Calls Tryd.prog 31 #[.float .f64 1, .float .f64 1] w fun e w' => e = .returned (.float .f64 1) ∧ Below w.heap.size w w' := by
  have hb : ∀ w, Sem.run Tryd.prog (callFunc 33 #[Value.float FloatKind.f64 1]) w = .ok (.value (.int .u64 1)) w := f64bits 1
  have hf : ∀ w, Sem.run Tryd.prog (callFunc 32 #[Value.int .u64 1]) w = .ok (.value (.float .f64 1)) w := f64from 1
  have h1 : bits BinOp.andNot IntKind.u64 1 9223372036854775808 = 1 := by decide +kernel
  have h2 : bits BinOp.and IntKind.u64 1 9223372036854775808 = 0 := by decide +kernel
  have h3 : bits BinOp.or IntKind.u64 1 0 = 1 := by decide +kernel
  go_enter Tryd.func31, Tryd.ntmps31
  go_wp2
  go_ret
  exact ⟨rfl, Below.refl _ _⟩
set_option maxRecDepth 100000 in
theorem isinf_n {w : World} : Calls Tryd.prog 11 #[.float .f64 18442240474082181120, .int .i64 (-1)] w fun e w' => e = .returned (.bool true) ∧ Below w.heap.size w w' := by
  have ho : FloatKind.f64.format.order 9218868437227405312 9218868437227405311 = some .gt := by decide +kernel
  have hn : ∀ w, Sem.run Tryd.prog (Op.unary .neg (.float .f64 18442240474082181120)) w = .ok (.float .f64 9218868437227405312) w := negf (x := 18442240474082181120) (by decide) (by decide)
  go_enter Tryd.func11, Tryd.ntmps11
  go_wp2
  go_ret
  exact ⟨rfl, Below.refl _ _⟩
set_option maxRecDepth 100000 in
theorem isinf_p {w : World} : Calls Tryd.prog 11 #[.float .f64 9218868437227405312, .int .i64 1] w fun e w' => e = .returned (.bool true) ∧ Below w.heap.size w w' := by
  have ho : FloatKind.f64.format.order 9218868437227405312 9218868437227405311 = some .gt := by decide +kernel
  go_enter Tryd.func11, Tryd.ntmps11
  go_wp2
  go_ret
  exact ⟨rfl, Below.refl _ _⟩

set_option maxRecDepth 100000 in
set_option maxHeartbeats 2000000 in
theorem nxa_01 {w : World}  :
    Calls Tryd.prog 10 #[.float .f64 0, .float .f64 1] w (fun e w' => e = .returned (.float .f64 1) ∧ Below w.heap.size w w') := by
  have h1 : (FloatKind.f64.format.order 0 1 == some .eq) = false := by decide +kernel
  have h2 : (FloatKind.f64.format.order 0 0 == some .eq) = true := by decide +kernel
  have hf : ∀ w, Sem.run Tryd.prog (callFunc 32 #[Value.int .u64 1]) w = .ok (.value (.float .f64 1)) w := f64from 1
  have N1 := hid (fun w => isnan_b (w := w) (x := 0) (by decide))
  have N2 := hid (fun w => isnan_b (w := w) (x := 1) (by decide))
  have HC := hid (fun w => copy11 (w := w))
  go_enter Tryd.func10, Tryd.ntmps10
  have hbel_0 : Below w.heap.size w w := Below.refl _ _
  go_wp2_with fail
  refine (N1.out _).mono ?_
  rintro e w1 ⟨rfl, hB⟩
  have hB_1 : Below w.heap.size w w1 := (bl.next hB)
  have hbel_1 := hbel_0.next hB_1
  have hsz_1 := hB_1.size
  clear hbel_0 hB_1
  try clear hB
  go_wp2_with fail
  refine (N2.out _).mono ?_
  rintro e w2 ⟨rfl, hB⟩
  have hB_2 : Below w1.heap.size w1 w2 := (bl.next hB)
  have hbel_2 := hbel_1.next hB_2
  have hsz_2 := hB_2.size
  clear hbel_1 hB_2
  try clear hB
  go_wp2_with fail
  refine (HC.out _).mono ?_
  rintro e w3 ⟨rfl, hB⟩
  have hB_3 : Below w2.heap.size w2 w3 := (bl.next hB)
  have hbel_3 := hbel_2.next hB_3
  have hsz_3 := hB_3.size
  clear hbel_2 hB_3
  try clear hB
  go_wp2
  go_ret
  exact ⟨rfl, hbel_3⟩

set_option maxRecDepth 100000 in
set_option maxHeartbeats 2000000 in
theorem nxa_pos {w : World} {r y : Nat} (h0 : 0 < r) (hr : r < 9218868437227405312) (hy : fr y ≤ 9218868437227405312) (hgt : fk r < fk y) :
    Calls Tryd.prog 10 #[.float .f64 r, .float .f64 y] w (fun e w' => e = .returned (.float .f64 (r + 1)) ∧ Below w.heap.size w w') := by
  have hrr : fr r = r := fr_low (by omega)
  have hk : fk r = r := by unfold fk; rw [(fs_low (by omega)).1, hrr]; rfl
  have hk0 : fk 0 = 0 := by decide
  have h1 : (FloatKind.f64.format.order r y == some .eq) = false := od_nef (by omega) hy (by omega)
  have h2 : (FloatKind.f64.format.order r 0 == some .eq) = false := od_nef (by omega) (by decide) (by omega)
  have h3 : (FloatKind.f64.format.order y r == some .gt) = true := od_gtt hy (by omega) hgt
  have h4 : (FloatKind.f64.format.order r 0 == some .gt) = true := od_gtt (by omega) (by decide) (by omega)
  have hb := f64bits r
  have hf : ∀ w, Sem.run Tryd.prog (callFunc 32 #[Value.int .u64 ((r : Int) + 1)]) w = .ok (.value (.float .f64 (r + 1))) w := fun w => by have h := f64from (r + 1) w; rwa [Int.natCast_succ] at h
  have N1 := hid (fun w => isnan_b (w := w) (x := r) (by omega))
  have N2 := hid (fun w => isnan_b (w := w) hy)
  have hr2 : r < 18446744073709551615 := by omega
  clear hk hk0 hrr hgt hy h0 hr
  go_enter Tryd.func10, Tryd.ntmps10
  have hbel_0 : Below w.heap.size w w := Below.refl _ _
  go_wp2_with fail
  refine (N1.out _).mono ?_
  rintro e w1 ⟨rfl, hB⟩
  have hB_1 : Below w.heap.size w w1 := (bl.next hB)
  have hbel_1 := hbel_0.next hB_1
  have hsz_1 := hB_1.size
  clear hbel_0 hB_1
  try clear hB
  go_wp2_with fail
  refine (N2.out _).mono ?_
  rintro e w2 ⟨rfl, hB⟩
  have hB_2 : Below w1.heap.size w1 w2 := (bl.next hB)
  have hbel_2 := hbel_1.next hB_2
  have hsz_2 := hB_2.size
  clear hbel_1 hB_2
  try clear hB
  go_wp2
  go_ret
  exact ⟨rfl, hbel_2⟩

set_option maxRecDepth 100000 in
set_option maxHeartbeats 2000000 in
theorem nxa_neg {w : World} {t y : Nat} (h0 : 0 < t) (ht : t ≤ 9218868437227405312) (hy : fr y ≤ 9218868437227405312) (hgt : -(t : Int) < fk y) :
    Calls Tryd.prog 10 #[.float .f64 (9223372036854775808 + t), .float .f64 y] w (fun e w' => e = .returned (.float .f64 (9223372036854775808 + t - 1)) ∧ Below w.heap.size w w') := by
  obtain ⟨x, hx⟩ : ∃ x, 9223372036854775808 + t = x := ⟨_, rfl⟩
  obtain ⟨hs, hr⟩ := fs_high (x := x) (by omega) (by omega)
  have hk : fk x = -(t : Int) := by unfold fk; rw [hs, hr]; simp; omega
  have hk0 : fk 0 = 0 := by decide
  have h1 : (FloatKind.f64.format.order x y == some .eq) = false := od_nef (by omega) hy (by omega)
  have h2 : (FloatKind.f64.format.order x 0 == some .eq) = false := od_nef (by omega) (by decide) (by omega)
  have h3 : (FloatKind.f64.format.order y x == some .gt) = true := od_gtt hy (by omega) (by omega)
  have h4 : (FloatKind.f64.format.order x 0 == some .gt) = false := od_gtf (by omega) (by decide) (by omega)
  have hb := f64bits x
  have hf : ∀ w, Sem.run Tryd.prog (callFunc 32 #[Value.int .u64 ((x : Int) - 1)]) w = .ok (.value (.float .f64 (x - 1))) w := fun w => by have h := f64from (x - 1) w; rwa [show ((x - 1 : Nat) : Int) = (x : Int) - 1 by omega] at h
  have N1 := hid (fun w => isnan_b (w := w) (x := x) (by omega))
  have N2 := hid (fun w => isnan_b (w := w) hy)
  have hx1 : 1 ≤ x := by omega
  have hx2 : x < 18446744073709551616 := by omega
  rw [hx]
  clear hk hk0 hr hs hgt hy h0 ht hx
  go_enter Tryd.func10, Tryd.ntmps10
  have hbel_0 : Below w.heap.size w w := Below.refl _ _
  go_wp2_with fail
  refine (N1.out _).mono ?_
  rintro e w1 ⟨rfl, hB⟩
  have hB_1 : Below w.heap.size w w1 := (bl.next hB)
  have hbel_1 := hbel_0.next hB_1
  have hsz_1 := hB_1.size
  clear hbel_0 hB_1
  try clear hB
  go_wp2_with fail
  refine (N2.out _).mono ?_
  rintro e w2 ⟨rfl, hB⟩
  have hB_2 : Below w1.heap.size w1 w2 := (bl.next hB)
  have hbel_2 := hbel_1.next hB_2
  have hsz_2 := hB_2.size
  clear hbel_1 hB_2
  try clear hB
  go_wp2
  go_ret
  exact ⟨rfl, hbel_2⟩

/-- the next float upwards of a low one: the high one, as floats compare -/
theorem nxa {w : World} {s : Bool} {u v0 lo hi x : Nat} (h : NA s u v0 lo hi x) (hlt : fk lo < fk hi) : ∃ z, (∀ w, Calls Tryd.prog 10 #[.float .f64 lo, .float .f64 hi] w fun e w' => e = .returned (.float .f64 z) ∧ Below w.heap.size w w') ∧ (FloatKind.f64.format.order z hi != some .eq) = false := by
  rcases h.nxt hlt with ⟨rfl, rfl⟩ | ⟨r, h0, h1, rfl, rfl⟩ | ⟨t, h0, h1, rfl, h2⟩
  · exact ⟨1, fun w => nxa_01, by decide +kernel⟩
  · exact ⟨lo + 1, fun w => nxa_pos h0 h1 h.nh hlt, od_eq h.nh h.nh rfl⟩
  · have h3 := fs_high (x := 9223372036854775808 + t) (by omega) (by omega)
    have h4 : fk (9223372036854775808 + t) = -(t : Int) := by unfold fk; rw [h3.1, h3.2, if_pos rfl]; omega
    have h5 := fs_high (x := 9223372036854775808 + t - 1) (by omega) (by omega)
    have h6 : fk (9223372036854775808 + t - 1) = -((t - 1 : Nat) : Int) := by unfold fk; rw [h5.1, h5.2, if_pos rfl]; omega
    exact ⟨9223372036854775808 + t - 1, fun w => nxa_neg h0 h1 h.nh (by rw [← h4]; exact hlt), od_eq (by omega) h.nh (by rw [h6, h2])⟩

/-- the float, a nought without its sign -/
def nz (f : Nat) : Nat := if fr f = 0 then 0 else f
theorem sb_back {f : Nat} (hf : f < 18446744073709551616) : sb (fs f && decide (fr f ≠ 0)) (fr f) = nz f := by
  unfold nz sb
  by_cases h0 : fr f = 0
  · rw [if_pos h0, h0]; simp
  · rw [if_neg h0]
    unfold fs
    unfold fr at h0 ⊢
    by_cases h1 : f / 9223372036854775808 % 2 = 1
    · rw [if_pos (by simp [h1, h0])]; omega
    · rw [if_neg (by simp [h1])]; omega
theorem fq_fin {f : Nat} (h : fr f < 9218868437227405312) : fq f = flV (fs f) (fr f) := if_pos h
theorem fe_fin {f : Nat} (h : fr f < 9218868437227405312) : fe f = 0 := if_pos h
theorem fe_nf {f : Nat} (h : ¬ fr f < 9218868437227405312) : fe f = 13 := if_neg h
theorem dv_den (q : Rat) : dv (val (lm q.den)) = q.den := by rw [val_lm]; unfold dv; rw [if_neg q.den_nz]
theorem fq_u {f : Nat} (h : fr f < 9218868437227405312) : (fq f).num.natAbs * 2 ^ E74 = fg (fr f) * (fq f).den := by rw [fq_fin h]; exact flV_cross _ _
theorem fq_s {f : Nat} (h : fr f < 9218868437227405312) : decide ((fq f).num < 0) = (fs f && decide (fr f ≠ 0)) := by rw [fq_fin h]; exact flV_neg _ _
theorem near_back {w : World} (GL : Lng w) {f : Nat} {a b : Option Addr} {n c m d : Nat} (hf : f < 18446744073709551616) (h : fr f < 9218868437227405312) (ha : Rd w a n c (qnl (fq f) 0)) (hb : Rd w b m d (qdl (fq f) 0)) :
    Calls Tryd.prog 9 #[.agg #[.bool (qsg (fq f) 0), .slice a n c, .slice b m d]] w (fun e w' => e = .returned (.float .f64 (nz f)) ∧ Below w.heap.size w w') := by
  have q1 := ha.len
  have q2 := hb.len
  have q3 : (qnl (fq f) 0).length ≤ 66 := (fq_qs f).len1
  have q4 : (qdl (fq f) 0).length ≤ 66 := (fq_qs f).len2
  refine (nearest_g GL ha hb (by omega) (by omega) (val_lm _) (dv_den _)).mono fun e w' ⟨q, E, more, half, far, he, hC, hB⟩ => ⟨?_, hB⟩
  have hN := near_of_cut hC
  rw [fq_u h] at hN
  rw [he, near_exact (fq f).den_nz h hN, qsg_ok, fq_s h, sb_back hf]

theorem wf64 {b : Nat} (h : (Lit.float .f64 b).wf = true) : b < 18446744073709551616 := by
  have : b < 2 ^ 64 := by simpa [Lit.wf] using h
  omega

theorem fin_fnan {x : Nat} (h : fr x < 9218868437227405312) : fnan x = false := decide_eq_false (by omega)
theorem zero_eq {f : Nat} (h : fr f = 0) : (FloatKind.f64.format.order 0 f != some .eq) = false := by
  have h2 := fcmp_num (x := 0) (y := f) (by decide) (fin_fnan (by omega))
  unfold fcmp at h2
  rw [h2]
  have h3 : fk f = 0 := by unfold fk; rw [h]; cases fs f <;> rfl
  have h4 : fk 0 = 0 := by decide
  rw [h3, h4]
  rfl
theorem self_eq {f : Nat} (h : fr f < 9218868437227405312) : (FloatKind.f64.format.order f f != some .eq) = false := by rw [fcmp_self]; exact fin_fnan h

theorem blk_z3 {W : World} {g : Nat} {a0 a1 a2 v0 v1 v2 : Value} (h : Blk W g #[a0, a1, a2]) : Blk (((W.setCell ⟨g, 0, none⟩ v0).setCell ⟨g, 1, none⟩ v1).setCell ⟨g, 2, none⟩ v2) g #[v0, v1, v2] :=
  (show Blk _ _ #[_, _, _] from ((h.setCell (i := 0) (v := v0) (by simp)).setCell (i := 1) (v := v1) (by simp)).setCell (i := 2) (v := v2) (by simp))
theorem nz_eq {f : Nat} (h : fr f < 9218868437227405312) : (FloatKind.f64.format.order (nz f) f == some .eq) = true := by
  unfold nz
  by_cases h0 : fr f = 0
  · rw [if_pos h0]; have h1 := zero_eq h0; simpa only [bne, Bool.not_eq_false'] using h1
  · rw [if_neg h0]; have h1 := self_eq h; simpa only [bne, Bool.not_eq_false'] using h1
theorem isinf_b {w : World} {x : Nat} (hx : x < 18446744073709551616) (h : fr x < 9218868437227405312) : Calls Tryd.prog 11 #[.float .f64 x, .int .i64 0] w fun e w' => e = .returned (.bool false) ∧ Below w.heap.size w w' :=
  (isinf_fin hx h).mono fun e w' ⟨h1, h2⟩ => ⟨h1, h2 ▸ Below.refl _ _⟩
set_option maxRecDepth 100000 in
theorem isinf_i {w : World} {x : Nat} (hx : x < 18446744073709551616) (h : fr x = 9218868437227405312) : Calls Tryd.prog 11 #[.float .f64 x, .int .i64 0] w fun e w' => e = .returned (.bool true) ∧ Below w.heap.size w w' := by
  have ha := hid (fun w => abs_any (w := w) x hx)
  rw [h] at ha
  have ho : (FloatKind.f64.format.order 9218868437227405312 9218868437227405311 == some .gt) = true := by decide +kernel
  clear h hx
  go_enter Tryd.func11, Tryd.ntmps11
  go_wp2_with fail
  refine (ha.out _).mono ?_
  rintro e w1 ⟨rfl, rfl⟩
  go_wp2
  go_ret
  exact ⟨rfl, Below.refl _ _⟩
theorem cmpQ_turn {a b : Rat} (h : 0 ≤ cmpQ a b) : cmpQ b a ≤ 0 := by
  rcases cmpQ_cases a b with ⟨_, h1⟩ | ⟨h2, _⟩ | ⟨h2, _⟩
  · omega
  · subst h2; rw [cmpQ_self]; exact Int.le_refl _
  · unfold cmpQ; rw [if_pos h2]; decide

set_option maxRecDepth 100000 in
set_option maxHeartbeats 4000000 in
theorem topNear_biga {w : World} (GL : Lng w) {s : Bool} {a b : Option Addr} {n c m d f : Nat} (h1 : 500 < n) :
    Calls Tryd.prog 3 #[.agg #[.bool s, .slice a n c, .slice b m d], .float .f64 f] w (fun e w' => e = .returned (.bool true) ∧ Below w.heap.size w w') := by
  have d1 : decide ((500 : Int) < (n : Int)) = true := decide_eq_true (by omega)
  clear h1
  have hent := ent1 w #[Value.bool s, Value.slice a n c, Value.slice b m d] 27
  go_enter Tryd.func3, Tryd.ntmps3
  go_wp2_with fail
  generalize (w.alloc (.cells #[Value.bool s, Value.slice a n c, Value.slice b m d] 27)) = W0 at hent ⊢
  obtain ⟨R_0, hbel_0, hsz_0⟩ := hent
  have cR_0_0 : _ = some (Value.bool s) := R_0.cell 0
  have cR_0_1 : _ = some (Value.slice a n c) := R_0.cell 1
  have cR_0_2 : _ = some (Value.slice b m d) := R_0.cell 2
  have GL_0 := GL.below hbel_0
  clear GL
  go_wp2_with fail
  refine (halfT GL_0).mono ?_
  rintro e w1 ⟨rfl, hB⟩
  have hB_1 : Below W0.heap.size W0 w1 := (bl.next hB)
  have R_1 := R_0.next hB_1
  have cR_1_0 : _ = some (Value.bool s) := R_1.cell 0
  have cR_1_1 : _ = some (Value.slice a n c) := R_1.cell 1
  have cR_1_2 : _ = some (Value.slice b m d) := R_1.cell 2
  have GL_1 := GL_0.below hB_1
  have hbel_1 := hbel_0.next hB_1
  have hsz_1 := hB_1.size
  clear R_0 cR_0_0 cR_0_1 cR_0_2 GL_0 hbel_0 hB_1
  try clear hB
  go_wp2
  go_ret
  exact ⟨rfl, hbel_1⟩

set_option maxRecDepth 100000 in
set_option maxHeartbeats 4000000 in
theorem topNear_bigb {w : World} (GL : Lng w) {s : Bool} {a b : Option Addr} {n c m d f : Nat} (h1 : n ≤ 500) (h2 : 500 < m) :
    Calls Tryd.prog 3 #[.agg #[.bool s, .slice a n c, .slice b m d], .float .f64 f] w (fun e w' => e = .returned (.bool true) ∧ Below w.heap.size w w') := by
  have d1 : decide ((500 : Int) < (n : Int)) = false := decide_eq_false (by omega)
  have d2 : decide ((500 : Int) < (m : Int)) = true := decide_eq_true (by omega)
  clear h1 h2
  have hent := ent1 w #[Value.bool s, Value.slice a n c, Value.slice b m d] 27
  go_enter Tryd.func3, Tryd.ntmps3
  go_wp2_with fail
  generalize (w.alloc (.cells #[Value.bool s, Value.slice a n c, Value.slice b m d] 27)) = W0 at hent ⊢
  obtain ⟨R_0, hbel_0, hsz_0⟩ := hent
  have cR_0_0 : _ = some (Value.bool s) := R_0.cell 0
  have cR_0_1 : _ = some (Value.slice a n c) := R_0.cell 1
  have cR_0_2 : _ = some (Value.slice b m d) := R_0.cell 2
  have GL_0 := GL.below hbel_0
  clear GL
  go_wp2_with fail
  refine (halfT GL_0).mono ?_
  rintro e w1 ⟨rfl, hB⟩
  have hB_1 : Below W0.heap.size W0 w1 := (bl.next hB)
  have R_1 := R_0.next hB_1
  have cR_1_0 : _ = some (Value.bool s) := R_1.cell 0
  have cR_1_1 : _ = some (Value.slice a n c) := R_1.cell 1
  have cR_1_2 : _ = some (Value.slice b m d) := R_1.cell 2
  have GL_1 := GL_0.below hB_1
  have hbel_1 := hbel_0.next hB_1
  have hsz_1 := hB_1.size
  clear R_0 cR_0_0 cR_0_1 cR_0_2 GL_0 hbel_0 hB_1
  try clear hB
  go_wp2
  go_ret
  exact ⟨rfl, hbel_1⟩

set_option maxRecDepth 100000 in
set_option maxHeartbeats 64000000 in
theorem topNear_small {w : World} (GL : Lng w) {s : Bool} {a b : Option Addr} {n c m d : Nat} {la lb : List Nat} (ha : Rd w a n c la) (hb : Rd w b m d lb) (hn : n ≤ 500) (hm : m ≤ 500) (f : Nat) (hf : f < 18446744073709551616) :
    Calls Tryd.prog 3 #[.agg #[.bool s, .slice a n c, .slice b m d], .float .f64 f] w (fun e w' => e = .returned (.bool true) ∧ Below w.heap.size w w') := by
  have d1 : decide ((500 : Int) < (n : Int)) = false := decide_eq_false (by omega)
  have d2 : decide ((500 : Int) < (m : Int)) = false := decide_eq_false (by omega)
  have HT := hid (fun w (ha : Rd w a n c la) (hb : Rd w b m d lb) => twinrat (s := s) ha hb (by omega) (by omega))
  have l1 : la.length ≤ 500 := by rw [ha.len]; exact hn
  have l2 : lb.length ≤ 500 := by rw [hb.len]; exact hm
  have HR := hid (fun w (g : Lng w) a n c b m d (ha : Rd w a n c la) (hb : Rd w b m d lb) => around_g (s := s) g ha hb (by have := ha.len; omega) (by have := hb.len; omega) rfl rfl)
  have HN := hid (fun w (g : Lng w) a n c b m d (ha : Rd w a n c la) (hb : Rd w b m d lb) => nearest_g (s := s) g ha hb (by have := ha.len; omega) (by have := hb.len; omega) rfl rfl)
  obtain ⟨q, hq⟩ : ∃ q, qv s (val la) (val lb) = q := ⟨_, rfl⟩
  have hqh := hid hq
  have hR : RdQ 500 w s a n c b m d q := ⟨_, _, ha.rdN hn, hb.rdN hm, hq⟩
  have hqs := hid (hR.qs (by omega))
  have hfh := hid hf
  clear hn hm hq l1 l2 hf
  have hent := ent1 w #[Value.bool s, Value.slice a n c, Value.slice b m d] 27
  go_enter Tryd.func3, Tryd.ntmps3
  go_wp2_with fail
  generalize (w.alloc (.cells #[Value.bool s, Value.slice a n c, Value.slice b m d] 27)) = W0 at hent ⊢
  obtain ⟨R_0, hbel_0, hsz_0⟩ := hent
  have cR_0_0 : _ = some (Value.bool s) := R_0.cell 0
  have cR_0_1 : _ = some (Value.slice a n c) := R_0.cell 1
  have cR_0_2 : _ = some (Value.slice b m d) := R_0.cell 2
  have GL_0 := GL.below hbel_0
  clear GL
  have ha_0 := ha.below hbel_0
  clear ha
  have hb_0 := hb.below hbel_0
  clear hb
  have hR_0 := hR.below hbel_0
  clear hR
  go_wp2_with fail
  refine (halfT GL_0).mono ?_
  rintro e w1 ⟨rfl, hB⟩
  have hB_1 : Below W0.heap.size W0 w1 := (bl.next hB)
  have R_1 := R_0.next hB_1
  have cR_1_0 : _ = some (Value.bool s) := R_1.cell 0
  have cR_1_1 : _ = some (Value.slice a n c) := R_1.cell 1
  have cR_1_2 : _ = some (Value.slice b m d) := R_1.cell 2
  have GL_1 := GL_0.below hB_1
  have ha_1 := ha_0.below hB_1
  have hb_1 := hb_0.below hB_1
  have hR_1 := hR_0.below hB_1
  have hbel_1 := hbel_0.next hB_1
  have hsz_1 := hB_1.size
  clear R_0 cR_0_0 cR_0_1 cR_0_2 GL_0 ha_0 hb_0 hR_0 hbel_0 hB_1
  try clear hB
  go_wp2_with fail
  refine (HT.out _ ha_1 hb_1).mono ?_
  rintro e w2 ⟨xa, xn, xc, xb, xm, xd, rfl, hO, hO', hB⟩
  have hB_2 : Below w1.heap.size w1 w2 := (bl.next hB)
  have R_2 := R_1.next hB_2
  have cR_2_0 : _ = some (Value.bool s) := R_2.cell 0
  have cR_2_1 : _ = some (Value.slice a n c) := R_2.cell 1
  have cR_2_2 : _ = some (Value.slice b m d) := R_2.cell 2
  have GL_2 := GL_1.below hB_2
  have ha_2 := ha_1.below hB_2
  have hb_2 := hb_1.below hB_2
  have hR_2 := hR_1.below hB_2
  have hbel_2 := hbel_1.next hB_2
  have hsz_2 := hB_2.size
  clear R_1 cR_1_0 cR_1_1 cR_1_2 GL_1 ha_1 hb_1 hR_1 hbel_1 hB_2
  have Ox_2 := hO
  have ltOx := hO.ltB
  have Px_2 := hO'
  have ltPx := hO'.ltB
  clear hO hO'
  try clear hB
  go_wp2_with fail
  refine (HR.out _ GL_2 _ _ _ _ _ _ Ox_2.rd Px_2.rd).mono ?_
  rintro e w3 ⟨r, t, rfl, hAr, hB⟩
  have hB_3 : Below w2.heap.size w2 w3 := (bl.next hB)
  have R_3 := R_2.next hB_3
  have cR_3_0 : _ = some (Value.bool s) := R_3.cell 0
  have cR_3_1 : _ = some (Value.slice a n c) := R_3.cell 1
  have cR_3_2 : _ = some (Value.slice b m d) := R_3.cell 2
  have GL_3 := GL_2.below hB_3
  have ha_3 := ha_2.below hB_3
  have hb_3 := hb_2.below hB_3
  have hR_3 := hR_2.below hB_3
  have Ox_3 := Ox_2.below hB_3
  have Px_3 := Px_2.below hB_3
  have hbel_3 := hbel_2.next hB_3
  have hsz_3 := hB_3.size
  clear R_2 cR_2_0 cR_2_1 cR_2_2 GL_2 ha_2 hb_2 hR_2 Ox_2 Px_2 hbel_2 hB_3
  have hArh := hid hAr
  clear hAr
  obtain ⟨lo, hlo⟩ : ∃ z, (if s = true then sb true t else r) = z := ⟨_, rfl⟩
  obtain ⟨hi, hhi⟩ : ∃ z, (if s = true then sb true r else t) = z := ⟨_, rfl⟩
  rw [hlo, hhi]
  have hloh := hid hlo
  have hhih := hid hhi
  clear hlo hhi
  try clear hB
  clear Ox_3
  clear Px_3
  clear ltOx ltPx
  go_wp2_with fail
  refine (HT.out _ ha_3 hb_3).mono ?_
  rintro e w4 ⟨ya, yn, yc, yb, ym, yd, rfl, hO, hO', hB⟩
  have hB_4 : Below w3.heap.size w3 w4 := (bl.next hB)
  have R_4 := R_3.next hB_4
  have cR_4_0 : _ = some (Value.bool s) := R_4.cell 0
  have cR_4_1 : _ = some (Value.slice a n c) := R_4.cell 1
  have cR_4_2 : _ = some (Value.slice b m d) := R_4.cell 2
  have GL_4 := GL_3.below hB_4
  have ha_4 := ha_3.below hB_4
  have hb_4 := hb_3.below hB_4
  have hR_4 := hR_3.below hB_4
  have hbel_4 := hbel_3.next hB_4
  have hsz_4 := hB_4.size
  clear R_3 cR_3_0 cR_3_1 cR_3_2 GL_3 ha_3 hb_3 hR_3 hbel_3 hB_4
  have Oy_4 := hO
  have ltOy := hO.ltB
  have Py_4 := hO'
  have ltPy := hO'.ltB
  clear hO hO'
  try clear hB
  go_wp2_with fail
  refine (HN.out _ GL_4 _ _ _ _ _ _ Oy_4.rd Py_4.rd).mono ?_
  rintro e w5 ⟨q1, E, more, half, far, rfl, hC, hB⟩
  have hB_5 : Below w4.heap.size w4 w5 := (bl.next hB)
  have R_5 := R_4.next hB_5
  have cR_5_0 : _ = some (Value.bool s) := R_5.cell 0
  have cR_5_1 : _ = some (Value.slice a n c) := R_5.cell 1
  have cR_5_2 : _ = some (Value.slice b m d) := R_5.cell 2
  have GL_5 := GL_4.below hB_5
  have ha_5 := ha_4.below hB_5
  have hb_5 := hb_4.below hB_5
  have hR_5 := hR_4.below hB_5
  have Oy_5 := Oy_4.below hB_5
  have Py_5 := Py_4.below hB_5
  have hbel_5 := hbel_4.next hB_5
  have hsz_5 := hB_5.size
  clear R_4 cR_4_0 cR_4_1 cR_4_2 GL_4 ha_4 hb_4 hR_4 Oy_4 Py_4 hbel_4 hB_5
  have hNA0 := na_of (s := s) hArh.out (near_of_cut hC)
  have hND0 := nd_of (s := s) hArh.out (near_of_cut hC)
  obtain ⟨x, hx⟩ : ∃ z, sb s (rndR q1 E half far) = z := ⟨_, rfl⟩
  rw [hloh.out, hhih.out, hx] at hNA0 hND0
  rw [hx]
  have hNA := hid hNA0
  have hND := hid hND0
  clear hNA0 hND0 hx hC hArh hloh hhih
  try clear hB
  clear ha_5
  clear hb_5
  clear Oy_5
  clear Py_5
  clear ltOy ltPy
  have nl := hNA.out.nl
  have nh := hNA.out.nh
  have nx := hNA.out.nx
  have le := hNA.out.le
  have one := hNA.out.one
  have e3 := od_gtf nl nh le
  have HP := hid (fun w => near64 (w := w) lo hNA.out.ll)
  have HQ := hid (fun w => near64 (w := w) hi hNA.out.lh)
  have hql := hid (fq_qs lo)
  have hqr := hid (fq_qs hi)
  have hs1 := hid (aq_qs (aq_sub_qs hqs.out hql.out))
  have hs2 := hid (aq_qs (aq_sub_qs hqs.out hqr.out))
  obtain ⟨C1, hC1⟩ : ∃ z, cmpQ (fq lo) q = z := ⟨_, rfl⟩
  obtain ⟨C2, hC2⟩ : ∃ z, cmpQ q (fq hi) = z := ⟨_, rfl⟩
  have hC1h := hid hC1
  have hC2h := hid hC2
  obtain ⟨D1, hD1⟩ : ∃ z, cmpQ (aq (q - fq lo)) (aq (q - fq hi)) = z := ⟨_, rfl⟩
  obtain ⟨D2, hD2⟩ : ∃ z, cmpQ (aq (q - fq hi)) (aq (q - fq lo)) = z := ⟨_, rfl⟩
  have hD1h := hid hD1
  have hD2h := hid hD2
  clear hC1 hC2 hD1 hD2
  by_cases hE : fk lo = fk hi
  · obtain ⟨fl, fh, hz⟩ := hNA.out.ex hE
    have hX : fk x = fk lo := by omega
    have hX2 : fk x = fk hi := by omega
    have x1 := od_eq nx nl hX
    have x3 := od_eqt nx nl hX
    have x4 := od_eqt nx nh hX2
    have e6 := od_eq nl nh hE
    have HI1 := hid (fun w => isinf_b (w := w) hNA.out.ll fl)
    have HI2 := hid (fun w => isinf_b (w := w) hNA.out.lh fh)
    rw [show fe _ = 0 from fe_fin fl] at HP
    rw [show fe _ = 0 from fe_fin fh] at HQ
    have HO1 : Hid (∀ w, RdQ 500 w s a n c b m d q → Calls Tryd.prog 12 #[.agg #[.bool s, .slice a n c, .slice b m d], .float .f64 lo] w (RetQ w (aq (q - fq lo)))) := fun w h => off_any h lo hNA.out.ll fl
    have HO2 : Hid (∀ w, RdQ 500 w s a n c b m d q → Calls Tryd.prog 12 #[.agg #[.bool s, .slice a n c, .slice b m d], .float .f64 hi] w (RetQ w (aq (q - fq hi)))) := fun w h => off_any h hi hNA.out.lh fh
    have c1 : decide (0 < C1) = false := decide_eq_false (by have h1 := hNA.out.low fl; rw [← fq_fin fl, hqh.out, hC1h.out] at h1; omega)
    have c2 : decide (0 < C2) = false := decide_eq_false (by have h1 := cmpQ_turn (hNA.out.high fh); rw [← fq_fin fh, hqh.out, hC2h.out] at h1; omega)
    have g1 : decide (0 < D1) = false := decide_eq_false (by have h1 := hND.out.dl fl fh hX; rw [← fq_fin fl, ← fq_fin fh, hqh.out, hD1h.out] at h1; omega)
    have g2 : decide (0 < D2) = false := decide_eq_false (by have h1 := hND.out.dh fl fh hX2; rw [← fq_fin fl, ← fq_fin fh, hqh.out, hD2h.out] at h1; omega)
    clear hE fl fh hX hX2 hz
    clear nl nh nx one le
    go_wp2_with fail
    refine (HI1.out _).mono ?_
    rintro e w6 ⟨rfl, hB⟩
    have hB_6 : Below w5.heap.size w5 w6 := (bl.next hB)
    have R_6 := R_5.next hB_6
    have cR_6_0 : _ = some (Value.bool s) := R_6.cell 0
    have cR_6_1 : _ = some (Value.slice a n c) := R_6.cell 1
    have cR_6_2 : _ = some (Value.slice b m d) := R_6.cell 2
    have GL_6 := GL_5.below hB_6
    have hR_6 := hR_5.below hB_6
    have hbel_6 := hbel_5.next hB_6
    have hsz_6 := hB_6.size
    clear R_5 cR_5_0 cR_5_1 cR_5_2 GL_5 hR_5 hbel_5 hB_6
    try clear hB
    go_wp2_with fail
    refine (HI2.out _).mono ?_
    rintro e w7 ⟨rfl, hB⟩
    have hB_7 : Below w6.heap.size w6 w7 := (bl.next hB)
    have R_7 := R_6.next hB_7
    have cR_7_0 : _ = some (Value.bool s) := R_7.cell 0
    have cR_7_1 : _ = some (Value.slice a n c) := R_7.cell 1
    have cR_7_2 : _ = some (Value.slice b m d) := R_7.cell 2
    have GL_7 := GL_6.below hB_7
    have hR_7 := hR_6.below hB_7
    have hbel_7 := hbel_6.next hB_7
    have hsz_7 := hB_7.size
    clear R_6 cR_6_0 cR_6_1 cR_6_2 GL_6 hR_6 hbel_6 hB_7
    try clear hB
    go_wp2_with fail
    obtain ⟨W1, hW1⟩ : ∃ y : World, y = w7 := ⟨_, rfl⟩
    subst hW1
    obtain ⟨p1, hp1⟩ : ∃ z, aq (q - fq lo) = z := ⟨_, rfl⟩
    obtain ⟨p2, hp2⟩ : ∃ z, aq (q - fq hi) = z := ⟨_, rfl⟩
    rw [hp1] at HO1 hs1 hD1h hD2h
    rw [hp2] at HO2 hs2 hD1h hD2h
    clear hp1 hp2
    go_cut [10, 11] (fun s10 s11 wx => BoxQ W1 p1 s10 wx ∧ BoxQ W1 p2 s11 wx)
    case first =>
      have acc_7 : Below W1.heap.size W1 W1 := Below.refl _ _
      go_wp2_with fail
      go_region_held3 (fun w' => w'.cell? ⟨w.heap.size, 0, none⟩ = some (Value.bool s) ∧ w'.cell? ⟨w.heap.size, 1, none⟩ = some (Value.slice a n c) ∧ w'.cell? ⟨w.heap.size, 2, none⟩ = some (Value.slice b m d))
        (first | with_reducible exact ⟨cR_7_0, cR_7_1, cR_7_2⟩ | with_reducible exact ⟨cR_8_0, cR_8_1, cR_8_2⟩ | with_reducible exact ⟨cR_9_0, cR_9_1, cR_9_2⟩ | with_reducible exact ⟨(R_7.alloc _).cell 0, (R_7.alloc _).cell 1, (R_7.alloc _).cell 2⟩ | with_reducible exact ⟨((R_7.alloc _).alloc _).cell 0, ((R_7.alloc _).alloc _).cell 1, ((R_7.alloc _).alloc _).cell 2⟩ | with_reducible exact ⟨(R_8.alloc _).cell 0, (R_8.alloc _).cell 1, (R_8.alloc _).cell 2⟩ | with_reducible exact ⟨((R_8.alloc _).alloc _).cell 0, ((R_8.alloc _).alloc _).cell 1, ((R_8.alloc _).alloc _).cell 2⟩ | with_reducible exact ⟨(R_9.alloc _).cell 0, (R_9.alloc _).cell 1, (R_9.alloc _).cell 2⟩ | with_reducible exact ⟨((R_9.alloc _).alloc _).cell 0, ((R_9.alloc _).alloc _).cell 1, ((R_9.alloc _).alloc _).cell 2⟩ | (refine (fun hX : Blk _ (w.heap.size) #[Value.bool s, Value.slice a n c, Value.slice b m d] => ⟨hX.cell 0, hX.cell 1, hX.cell 2⟩) ?_; (repeat (first | with_reducible exact R_9 | with_reducible exact R_8 | with_reducible exact R_7 | with_reducible refine Blk.set3 ?_ (by first | omega | (simp only [World.heap_alloc_size, World.heap_setCell_size]; omega) | (simp; done) | (simp [World.setCell]; omega) | (simp; omega)) _ _ _ | with_reducible refine Blk.alloc ?_ _)); done) | exact ⟨cR_7_0, cR_7_1, cR_7_2⟩ | go_keep)
        (first
          | (go_at_call 12; ((with_reducible refine (HO1.out _ (hR_7.below bl)).mono ?_); (rintro e w8 ⟨Sa, Sn, Sc, Sb, Sm, Sd, rfl, hO, hO', hD, hB⟩; have hB_8 : Below W1.heap.size W1 w8 := (bl.next hB); have R_8 := R_7.next hB_8; have cR_8_0 : _ = some (Value.bool s) := R_8.cell 0; have cR_8_1 : _ = some (Value.slice a n c) := R_8.cell 1; have cR_8_2 : _ = some (Value.slice b m d) := R_8.cell 2; have GL_8 := GL_7.below hB_8; have hR_8 := hR_7.below hB_8; have hbel_8 := hbel_7.next hB_8; have hsz_8 := hB_8.size; clear R_7 cR_7_0 cR_7_1 cR_7_2 GL_7 hR_7 hbel_7 hB_8; have acc_8 := acc_7.next (show Below _ _ _ from (bl.next hB)); (first | (have A := A.next (show Below _ _ _ from (bl.next hB)); have C := C.next (show Below _ _ _ from (bl.next hB)); have ltA := A.lt; have cA0 : _ = some (Value.bool false) := A.cell 0; have fA0 := A.free 0; have cA1 : _ = some (Value.slice none 0 0) := A.cell 1; have fA1 := A.free 1; have cA2 : _ = some (Value.slice none 0 0) := A.cell 2; have fA2 := A.free 2; have ltC := C.lt; have cC0 : _ = some (Value.bool false) := C.cell 0; have fC0 := C.free 0; have cC1 : _ = some (Value.slice none 0 0) := C.cell 1; have fC1 := C.free 1; have cC2 : _ = some (Value.slice none 0 0) := C.cell 2; have fC2 := C.free 2) | (have A := A.next (show Below _ _ _ from (bl.next hB)); have C := (blk_new' _ #[Value.bool false, Value.slice none 0 0, Value.slice none 0 0] 27 (g := W1.heap.size) rfl).next (by first | exact hB | exact below_drew hB); have hAC := Nat.ne_of_lt ltA; have hCA := Ne.symm hAC; have ltA := A.lt; have cA0 : _ = some (Value.bool false) := A.cell 0; have fA0 := A.free 0; have cA1 : _ = some (Value.slice none 0 0) := A.cell 1; have fA1 := A.free 1; have cA2 : _ = some (Value.slice none 0 0) := A.cell 2; have fA2 := A.free 2; have ltC := C.lt; have cC0 : _ = some (Value.bool false) := C.cell 0; have fC0 := C.free 0; have cC1 : _ = some (Value.slice none 0 0) := C.cell 1; have fC1 := C.free 1; have cC2 : _ = some (Value.slice none 0 0) := C.cell 2; have fC2 := C.free 2) | (have A := A.next (show Below _ _ _ from (bl.next hB)); have ltA := A.lt; have cA0 : _ = some (Value.bool false) := A.cell 0; have fA0 := A.free 0; have cA1 : _ = some (Value.slice none 0 0) := A.cell 1; have fA1 := A.free 1; have cA2 : _ = some (Value.slice none 0 0) := A.cell 2; have fA2 := A.free 2) | (have A := ((blk_new' W1 #[Value.bool false, Value.slice none 0 0, Value.slice none 0 0] 27 (g := W1.heap.size) rfl).alloc _).next (by first | exact hB | exact below_drew hB); have C := (blk_new' (W1.alloc (.cells #[Value.bool false, Value.slice none 0 0, Value.slice none 0 0] 27)) #[Value.bool false, Value.slice none 0 0, Value.slice none 0 0] 27 (g := W1.heap.size + 1) (by first | simp | simp [World.drew])).next (by first | exact hB | exact below_drew hB); have ltA := A.lt; have cA0 : _ = some (Value.bool false) := A.cell 0; have fA0 := A.free 0; have cA1 : _ = some (Value.slice none 0 0) := A.cell 1; have fA1 := A.free 1; have cA2 : _ = some (Value.slice none 0 0) := A.cell 2; have fA2 := A.free 2; have ltC := C.lt; have cC0 : _ = some (Value.bool false) := C.cell 0; have fC0 := C.free 0; have cC1 : _ = some (Value.slice none 0 0) := C.cell 1; have fC1 := C.free 1; have cC2 : _ = some (Value.slice none 0 0) := C.cell 2; have fC2 := C.free 2) | (have A := ((blk_new' W1.drew #[Value.bool false, Value.slice none 0 0, Value.slice none 0 0] 27 (g := W1.heap.size) rfl).alloc _).next (by first | exact hB | exact below_drew hB); have C := (blk_new' (W1.drew.alloc (.cells #[Value.bool false, Value.slice none 0 0, Value.slice none 0 0] 27)) #[Value.bool false, Value.slice none 0 0, Value.slice none 0 0] 27 (g := W1.heap.size + 1) (by first | simp | simp [World.drew])).next (by first | exact hB | exact below_drew hB); have ltA := A.lt; have cA0 : _ = some (Value.bool false) := A.cell 0; have fA0 := A.free 0; have cA1 : _ = some (Value.slice none 0 0) := A.cell 1; have fA1 := A.free 1; have cA2 : _ = some (Value.slice none 0 0) := A.cell 2; have fA2 := A.free 2; have ltC := C.lt; have cC0 : _ = some (Value.bool false) := C.cell 0; have fC0 := C.free 0; have cC1 : _ = some (Value.slice none 0 0) := C.cell 1; have fC1 := C.free 1; have cC2 : _ = some (Value.slice none 0 0) := C.cell 2; have fC2 := C.free 2) | (have A := (blk_new' _ #[Value.bool false, Value.slice none 0 0, Value.slice none 0 0] 27 (g := W1.heap.size) rfl).next (by first | exact hB | exact below_drew hB); have ltA := A.lt; have cA0 : _ = some (Value.bool false) := A.cell 0; have fA0 := A.free 0; have cA1 : _ = some (Value.slice none 0 0) := A.cell 1; have fA1 := A.free 1; have cA2 : _ = some (Value.slice none 0 0) := A.cell 2; have fA2 := A.free 2) | skip); have OS_8 := hO; have ltOS := hO.ltB; have PS_8 := hO'; have ltPS := hO'.ltB; clear hO hO' hD; try clear hB)))
          | (go_at_call 12; ((with_reducible refine (HO2.out _ (hR_8.below bl)).mono ?_); (rintro e w9 ⟨Ta, Tn, Tc, Tb, Tm, Td, rfl, hO, hO', hD, hB⟩; have hB_9 : Below w8.heap.size w8 w9 := (bl.next hB); have R_9 := R_8.next hB_9; have cR_9_0 : _ = some (Value.bool s) := R_9.cell 0; have cR_9_1 : _ = some (Value.slice a n c) := R_9.cell 1; have cR_9_2 : _ = some (Value.slice b m d) := R_9.cell 2; have GL_9 := GL_8.below hB_9; have hR_9 := hR_8.below hB_9; have OS_9 := OS_8.below hB_9; have PS_9 := PS_8.below hB_9; have hbel_9 := hbel_8.next hB_9; have hsz_9 := hB_9.size; clear R_8 cR_8_0 cR_8_1 cR_8_2 GL_8 hR_8 OS_8 PS_8 hbel_8 hB_9; have acc_9 := acc_8.next (show Below _ _ _ from (bl.next hB)); (first | (have A := A.next (show Below _ _ _ from (bl.next hB)); have C := C.next (show Below _ _ _ from (bl.next hB)); have ltA := A.lt; have cA0 : _ = some (Value.bool false) := A.cell 0; have fA0 := A.free 0; have cA1 : _ = some (Value.slice none 0 0) := A.cell 1; have fA1 := A.free 1; have cA2 : _ = some (Value.slice none 0 0) := A.cell 2; have fA2 := A.free 2; have ltC := C.lt; have cC0 : _ = some (Value.bool false) := C.cell 0; have fC0 := C.free 0; have cC1 : _ = some (Value.slice none 0 0) := C.cell 1; have fC1 := C.free 1; have cC2 : _ = some (Value.slice none 0 0) := C.cell 2; have fC2 := C.free 2) | (have A := A.next (show Below _ _ _ from (bl.next hB)); have C := (blk_new' _ #[Value.bool false, Value.slice none 0 0, Value.slice none 0 0] 27 (g := w8.heap.size) rfl).next (by first | exact hB | exact below_drew hB); have hAC := Nat.ne_of_lt ltA; have hCA := Ne.symm hAC; have ltA := A.lt; have cA0 : _ = some (Value.bool false) := A.cell 0; have fA0 := A.free 0; have cA1 : _ = some (Value.slice none 0 0) := A.cell 1; have fA1 := A.free 1; have cA2 : _ = some (Value.slice none 0 0) := A.cell 2; have fA2 := A.free 2; have ltC := C.lt; have cC0 : _ = some (Value.bool false) := C.cell 0; have fC0 := C.free 0; have cC1 : _ = some (Value.slice none 0 0) := C.cell 1; have fC1 := C.free 1; have cC2 : _ = some (Value.slice none 0 0) := C.cell 2; have fC2 := C.free 2) | (have A := A.next (show Below _ _ _ from (bl.next hB)); have ltA := A.lt; have cA0 : _ = some (Value.bool false) := A.cell 0; have fA0 := A.free 0; have cA1 : _ = some (Value.slice none 0 0) := A.cell 1; have fA1 := A.free 1; have cA2 : _ = some (Value.slice none 0 0) := A.cell 2; have fA2 := A.free 2) | (have A := ((blk_new' w8 #[Value.bool false, Value.slice none 0 0, Value.slice none 0 0] 27 (g := w8.heap.size) rfl).alloc _).next (by first | exact hB | exact below_drew hB); have C := (blk_new' (w8.alloc (.cells #[Value.bool false, Value.slice none 0 0, Value.slice none 0 0] 27)) #[Value.bool false, Value.slice none 0 0, Value.slice none 0 0] 27 (g := w8.heap.size + 1) (by first | simp | simp [World.drew])).next (by first | exact hB | exact below_drew hB); have ltA := A.lt; have cA0 : _ = some (Value.bool false) := A.cell 0; have fA0 := A.free 0; have cA1 : _ = some (Value.slice none 0 0) := A.cell 1; have fA1 := A.free 1; have cA2 : _ = some (Value.slice none 0 0) := A.cell 2; have fA2 := A.free 2; have ltC := C.lt; have cC0 : _ = some (Value.bool false) := C.cell 0; have fC0 := C.free 0; have cC1 : _ = some (Value.slice none 0 0) := C.cell 1; have fC1 := C.free 1; have cC2 : _ = some (Value.slice none 0 0) := C.cell 2; have fC2 := C.free 2) | (have A := ((blk_new' w8.drew #[Value.bool false, Value.slice none 0 0, Value.slice none 0 0] 27 (g := w8.heap.size) rfl).alloc _).next (by first | exact hB | exact below_drew hB); have C := (blk_new' (w8.drew.alloc (.cells #[Value.bool false, Value.slice none 0 0, Value.slice none 0 0] 27)) #[Value.bool false, Value.slice none 0 0, Value.slice none 0 0] 27 (g := w8.heap.size + 1) (by first | simp | simp [World.drew])).next (by first | exact hB | exact below_drew hB); have ltA := A.lt; have cA0 : _ = some (Value.bool false) := A.cell 0; have fA0 := A.free 0; have cA1 : _ = some (Value.slice none 0 0) := A.cell 1; have fA1 := A.free 1; have cA2 : _ = some (Value.slice none 0 0) := A.cell 2; have fA2 := A.free 2; have ltC := C.lt; have cC0 : _ = some (Value.bool false) := C.cell 0; have fC0 := C.free 0; have cC1 : _ = some (Value.slice none 0 0) := C.cell 1; have fC1 := C.free 1; have cC2 : _ = some (Value.slice none 0 0) := C.cell 2; have fC2 := C.free 2) | (have A := (blk_new' _ #[Value.bool false, Value.slice none 0 0, Value.slice none 0 0] 27 (g := w8.heap.size) rfl).next (by first | exact hB | exact below_drew hB); have ltA := A.lt; have cA0 : _ = some (Value.bool false) := A.cell 0; have fA0 := A.free 0; have cA1 : _ = some (Value.slice none 0 0) := A.cell 1; have fA1 := A.free 1; have cA2 : _ = some (Value.slice none 0 0) := A.cell 2; have fA2 := A.free 2) | skip); have OT_9 := hO; have ltOT := hO.ltB; have PT_9 := hO'; have ltPT := hO'.ltB; clear hO hO' hD; have f2 := (blk_new' w9 #[Value.bool false, Value.slice none 0 0, Value.slice none 0 0] 27 (g := w9.heap.size) rfl).alloc (.cells #[Value.bool false, Value.slice none 0 0, Value.slice none 0 0] 27); have ltf2 := f2.lt; have cf20 : _ = some (Value.bool false) := f2.cell 0; have ff20 := f2.free 0; have cf21 : _ = some (Value.slice none 0 0) := f2.cell 1; have ff21 := f2.free 1; have cf22 : _ = some (Value.slice none 0 0) := f2.cell 2; have ff22 := f2.free 2; have f3 := blk_new' (w9.alloc (.cells #[Value.bool false, Value.slice none 0 0, Value.slice none 0 0] 27)) #[Value.bool false, Value.slice none 0 0, Value.slice none 0 0] 27 (g := w9.heap.size + 1) (by simp); have ltf3 := f3.lt; have cf30 : _ = some (Value.bool false) := f3.cell 0; have ff30 := f3.free 0; have cf31 : _ = some (Value.slice none 0 0) := f3.cell 1; have ff31 := f3.free 1; have cf32 : _ = some (Value.slice none 0 0) := f3.cell 2; have ff32 := f3.free 2; (first | (have hAn := Nat.ne_of_lt ltA; have hnA := Ne.symm hAn; have f4 := A.alloc (.cells #[Value.bool false, Value.slice none 0 0, Value.slice none 0 0] 27); have ltf4 := f4.lt; have cf40 : _ = some (Value.bool false) := f4.cell 0; have ff40 := f4.free 0; have cf41 : _ = some (Value.slice none 0 0) := f4.cell 1; have ff41 := f4.free 1; have cf42 : _ = some (Value.slice none 0 0) := f4.cell 2; have ff42 := f4.free 2) | skip); try clear hB))))
      all_goals (go_wp2_with fail; go_meet; exact ⟨⟨_, Sa, Sn, Sc, Sb, Sm, Sd, rfl, by ((repeat (first | with_reducible exact A | with_reducible exact C | with_reducible exact blk_new' _ _ _ (by first | rfl | simp) | with_reducible apply blk_z3 | with_reducible refine Blk.set3 ?_ (by first | omega | (simp only [World.heap_alloc_size, World.heap_setCell_size]; omega) | (simp; done) | (simp [World.setCell]; omega) | (simp; omega)) _ _ _ | with_reducible refine Blk.alloc ?_ _)); done), by (first | omega | (simp only [World.heap_alloc_size, World.heap_setCell_size]; omega) | (simp; done) | (simp [World.setCell]; omega) | (simp; omega)), by (exact Own.mono (Own.block OS_9 (fun g e => by have h1 := Own.lt' OS_9 g e; have h2 := ltOS g e; (repeat (first | with_reducible rfl | rw [heap_setCell_other _ _ _ _ (show g ≠ _ from (by first | omega | (simp at h1 ⊢; omega) | (simp at h1; omega) | (simp; omega)))] | rw [Below.heap_alloc _ _ _ (by first | omega | (simp at h1 ⊢; omega) | (simp at h1; omega) | (simp; omega))])))) (by first | omega | (simp only [World.heap_alloc_size, World.heap_setCell_size]; omega) | (simp; done) | (simp [World.setCell]; omega) | (simp; omega))), by (exact Own.mono (Own.block PS_9 (fun g e => by have h1 := Own.lt' PS_9 g e; have h2 := ltPS g e; (repeat (first | with_reducible rfl | rw [heap_setCell_other _ _ _ _ (show g ≠ _ from (by first | omega | (simp at h1 ⊢; omega) | (simp at h1; omega) | (simp; omega)))] | rw [Below.heap_alloc _ _ _ (by first | omega | (simp at h1 ⊢; omega) | (simp at h1; omega) | (simp; omega))])))) (by first | omega | (simp only [World.heap_alloc_size, World.heap_setCell_size]; omega) | (simp; done) | (simp [World.setCell]; omega) | (simp; omega))), by (intro g' e; have h1 := Own.lt' OS_9 g' e; have h2 := ltOS g' e; first | omega | (simp at h1; omega) | (simp at h1 ⊢; omega)), by (intro g' e; have h1 := Own.lt' PS_9 g' e; have h2 := ltPS g' e; first | omega | (simp at h1; omega) | (simp at h1 ⊢; omega)), by ((repeat (first | with_reducible exact acc_9 | with_reducible refine Below.set3 ?_ (by first | omega | (simp only [World.heap_alloc_size, World.heap_setCell_size]; omega) | (simp; done) | (simp [World.setCell]; omega) | (simp; omega)) _ _ _ | with_reducible refine Below.alloc ?_ (by first | omega | (simp only [World.heap_alloc_size, World.heap_setCell_size]; omega) | (simp; done) | (simp [World.setCell]; omega) | (simp; omega)) _)); done)⟩, ⟨_, Ta, Tn, Tc, Tb, Tm, Td, rfl, by ((repeat (first | with_reducible exact A | with_reducible exact C | with_reducible exact blk_new' _ _ _ (by first | rfl | simp) | with_reducible apply blk_z3 | with_reducible refine Blk.set3 ?_ (by first | omega | (simp only [World.heap_alloc_size, World.heap_setCell_size]; omega) | (simp; done) | (simp [World.setCell]; omega) | (simp; omega)) _ _ _ | with_reducible refine Blk.alloc ?_ _)); done), by (first | omega | (simp only [World.heap_alloc_size, World.heap_setCell_size]; omega) | (simp; done) | (simp [World.setCell]; omega) | (simp; omega)), by (exact Own.mono (Own.block OT_9 (fun g e => by have h1 := Own.lt' OT_9 g e; have h2 := ltOT g e; (repeat (first | with_reducible rfl | rw [heap_setCell_other _ _ _ _ (show g ≠ _ from (by first | omega | (simp at h1 ⊢; omega) | (simp at h1; omega) | (simp; omega)))] | rw [Below.heap_alloc _ _ _ (by first | omega | (simp at h1 ⊢; omega) | (simp at h1; omega) | (simp; omega))])))) (by first | omega | (simp only [World.heap_alloc_size, World.heap_setCell_size]; omega) | (simp; done) | (simp [World.setCell]; omega) | (simp; omega))), by (exact Own.mono (Own.block PT_9 (fun g e => by have h1 := Own.lt' PT_9 g e; have h2 := ltPT g e; (repeat (first | with_reducible rfl | rw [heap_setCell_other _ _ _ _ (show g ≠ _ from (by first | omega | (simp at h1 ⊢; omega) | (simp at h1; omega) | (simp; omega)))] | rw [Below.heap_alloc _ _ _ (by first | omega | (simp at h1 ⊢; omega) | (simp at h1; omega) | (simp; omega))])))) (by first | omega | (simp only [World.heap_alloc_size, World.heap_setCell_size]; omega) | (simp; done) | (simp [World.setCell]; omega) | (simp; omega))), by (intro g' e; have h1 := Own.lt' OT_9 g' e; have h2 := ltOT g' e; first | omega | (simp at h1; omega) | (simp at h1 ⊢; omega)), by (intro g' e; have h1 := Own.lt' PT_9 g' e; have h2 := ltPT g' e; first | omega | (simp at h1; omega) | (simp at h1 ⊢; omega)), by ((repeat (first | with_reducible exact acc_9 | with_reducible refine Below.set3 ?_ (by first | omega | (simp only [World.heap_alloc_size, World.heap_setCell_size]; omega) | (simp; done) | (simp [World.setCell]; omega) | (simp; omega)) _ _ _ | with_reducible refine Below.alloc ?_ (by first | omega | (simp only [World.heap_alloc_size, World.heap_setCell_size]; omega) | (simp; done) | (simp [World.setCell]; omega) | (simp; omega)) _)); done)⟩⟩)
    case rest =>
      obtain ⟨⟨gS, Sa, Sn, Sc, Sb, Sm, Sd, rfl, hbS, hgeS, hOS, hOS', awS, awS', hBc⟩, ⟨gT, Ta, Tn, Tc, Tb, Tm, Td, rfl, hbT, hgeT, hOT, hOT', awT, awT', _⟩⟩ := hcut
      have hB_8 : Below W1.heap.size W1 wc := hBc
      have R_8 := R_7.next hB_8
      have cR_8_0 : _ = some (Value.bool s) := R_8.cell 0
      have cR_8_1 : _ = some (Value.slice a n c) := R_8.cell 1
      have cR_8_2 : _ = some (Value.slice b m d) := R_8.cell 2
      have GL_8 := GL_7.below hB_8
      have hR_8 := hR_7.below hB_8
      have hbel_8 := hbel_7.next hB_8
      have hsz_8 := hB_8.size
      clear R_7 cR_7_0 cR_7_1 cR_7_2 GL_7 hR_7 hbel_7 hB_8
      clear hBc
      obtain ⟨wc8, hwc⟩ : ∃ x : World, x = wc := ⟨_, rfl⟩
      subst hwc
      have S_8 := hbS
      have hltS := hbS.lt
      clear hbS
      have cS_8_0 : _ = some (Value.bool (decide ((p1).num < 0))) := S_8.cell 0
      have cS_8_1 : _ = some (Value.slice Sa Sn Sc) := S_8.cell 1
      have cS_8_2 : _ = some (Value.slice Sb Sm Sd) := S_8.cell 2
      have OS_8 := hOS
      have ltOS := hOS.ltB
      have OS'_8 := hOS'
      have ltOS' := hOS'.ltB
      clear hOS hOS'
      have T_8 := hbT
      have hltT := hbT.lt
      clear hbT
      have cT_8_0 : _ = some (Value.bool (decide ((p2).num < 0))) := T_8.cell 0
      have cT_8_1 : _ = some (Value.slice Ta Tn Tc) := T_8.cell 1
      have cT_8_2 : _ = some (Value.slice Tb Tm Td) := T_8.cell 2
      have OT_8 := hOT
      have ltOT := hOT.ltB
      have OT'_8 := hOT'
      have ltOT' := hOT'.ltB
      clear hOT hOT'
      go_wp2_with fail
      refine (HP.out _).mono ?_
      rintro e w9 ⟨pa, pn, pc, pb, pm, pd, rfl, hO, hO', hD, hB⟩
      have hB_9 : Below wc8.heap.size wc8 w9 := (bl.next hB)
      have R_9 := R_8.next hB_9
      have cR_9_0 : _ = some (Value.bool s) := R_9.cell 0
      have cR_9_1 : _ = some (Value.slice a n c) := R_9.cell 1
      have cR_9_2 : _ = some (Value.slice b m d) := R_9.cell 2
      have S_9 := S_8.next hB_9
      have cS_9_0 : _ = some (Value.bool (decide ((p1).num < 0))) := S_9.cell 0
      have cS_9_1 : _ = some (Value.slice Sa Sn Sc) := S_9.cell 1
      have cS_9_2 : _ = some (Value.slice Sb Sm Sd) := S_9.cell 2
      have T_9 := T_8.next hB_9
      have cT_9_0 : _ = some (Value.bool (decide ((p2).num < 0))) := T_9.cell 0
      have cT_9_1 : _ = some (Value.slice Ta Tn Tc) := T_9.cell 1
      have cT_9_2 : _ = some (Value.slice Tb Tm Td) := T_9.cell 2
      have GL_9 := GL_8.below hB_9
      have hR_9 := hR_8.below hB_9
      have OS_9 := OS_8.below hB_9
      have OS'_9 := OS'_8.below hB_9
      have OT_9 := OT_8.below hB_9
      have OT'_9 := OT'_8.below hB_9
      have hbel_9 := hbel_8.next hB_9
      have hsz_9 := hB_9.size
      clear R_8 cR_8_0 cR_8_1 cR_8_2 S_8 cS_8_0 cS_8_1 cS_8_2 T_8 cT_8_0 cT_8_1 cT_8_2 GL_8 hR_8 OS_8 OS'_8 OT_8 OT'_8 hbel_8 hB_9
      have Op_9 := hO
      have ltOp := hO.ltB
      have Pp_9 := hO'
      have ltPp := hO'.ltB
      clear hO hO' hD
      try clear hB
      have hbx := blk_new w9 #[Value.bool (qsg (fq lo) 0), Value.slice pa pn pc, Value.slice pb pm pd] 27
      have hbB := (Below.refl w9.heap.size w9).alloc (Nat.le_refl _) (.cells #[Value.bool (qsg (fq lo) 0), Value.slice pa pn pc, Value.slice pb pm pd] 27)
      have hltA := hbx.lt
      have hB_10 : Below w9.heap.size w9 (w9.alloc (.cells #[Value.bool (qsg (fq lo) 0), Value.slice pa pn pc, Value.slice pb pm pd] 27)) := hbB
      have R_10 := R_9.next hB_10
      have cR_10_0 : _ = some (Value.bool s) := R_10.cell 0
      have cR_10_1 : _ = some (Value.slice a n c) := R_10.cell 1
      have cR_10_2 : _ = some (Value.slice b m d) := R_10.cell 2
      have S_10 := S_9.next hB_10
      have cS_10_0 : _ = some (Value.bool (decide ((p1).num < 0))) := S_10.cell 0
      have cS_10_1 : _ = some (Value.slice Sa Sn Sc) := S_10.cell 1
      have cS_10_2 : _ = some (Value.slice Sb Sm Sd) := S_10.cell 2
      have T_10 := T_9.next hB_10
      have cT_10_0 : _ = some (Value.bool (decide ((p2).num < 0))) := T_10.cell 0
      have cT_10_1 : _ = some (Value.slice Ta Tn Tc) := T_10.cell 1
      have cT_10_2 : _ = some (Value.slice Tb Tm Td) := T_10.cell 2
      have GL_10 := GL_9.below hB_10
      have hR_10 := hR_9.below hB_10
      have OS_10 := OS_9.below hB_10
      have OS'_10 := OS'_9.below hB_10
      have OT_10 := OT_9.below hB_10
      have OT'_10 := OT'_9.below hB_10
      have Op_10 := Op_9.below hB_10
      have Pp_10 := Pp_9.below hB_10
      have hbel_10 := hbel_9.next hB_10
      have hsz_10 := hB_10.size
      clear hB_10
      have A_10 := hbx
      clear hbx hbB
      have cA_10_0 : _ = some (Value.bool (qsg (fq lo) 0)) := A_10.cell 0
      have cA_10_1 : _ = some (Value.slice pa pn pc) := A_10.cell 1
      have cA_10_2 : _ = some (Value.slice pb pm pd) := A_10.cell 2
      go_wp2_with fail
      clear R_9 cR_9_0 cR_9_1 cR_9_2 S_9 cS_9_0 cS_9_1 cS_9_2 T_9 cT_9_0 cT_9_1 cT_9_2 GL_9 hR_9 OS_9 OS'_9 OT_9 OT'_9 Op_9 Pp_9 hbel_9
      generalize (w9.alloc (.cells #[Value.bool (qsg (fq lo) 0), Value.slice pa pn pc, Value.slice pb pm pd] 27)) = v10 at *
      go_wp2_with fail
      refine (HQ.out _).mono ?_
      rintro e w11 ⟨ya, yn, yc, yb, ym, yd, rfl, hO, hO', hD, hB⟩
      have hB_11 : Below v10.heap.size v10 w11 := (bl.next hB)
      have R_11 := R_10.next hB_11
      have cR_11_0 : _ = some (Value.bool s) := R_11.cell 0
      have cR_11_1 : _ = some (Value.slice a n c) := R_11.cell 1
      have cR_11_2 : _ = some (Value.slice b m d) := R_11.cell 2
      have S_11 := S_10.next hB_11
      have cS_11_0 : _ = some (Value.bool (decide ((p1).num < 0))) := S_11.cell 0
      have cS_11_1 : _ = some (Value.slice Sa Sn Sc) := S_11.cell 1
      have cS_11_2 : _ = some (Value.slice Sb Sm Sd) := S_11.cell 2
      have T_11 := T_10.next hB_11
      have cT_11_0 : _ = some (Value.bool (decide ((p2).num < 0))) := T_11.cell 0
      have cT_11_1 : _ = some (Value.slice Ta Tn Tc) := T_11.cell 1
      have cT_11_2 : _ = some (Value.slice Tb Tm Td) := T_11.cell 2
      have A_11 := A_10.next hB_11
      have cA_11_0 : _ = some (Value.bool (qsg (fq lo) 0)) := A_11.cell 0
      have cA_11_1 : _ = some (Value.slice pa pn pc) := A_11.cell 1
      have cA_11_2 : _ = some (Value.slice pb pm pd) := A_11.cell 2
      have GL_11 := GL_10.below hB_11
      have hR_11 := hR_10.below hB_11
      have OS_11 := OS_10.below hB_11
      have OS'_11 := OS'_10.below hB_11
      have OT_11 := OT_10.below hB_11
      have OT'_11 := OT'_10.below hB_11
      have Op_11 := Op_10.below hB_11
      have Pp_11 := Pp_10.below hB_11
      have hbel_11 := hbel_10.next hB_11
      have hsz_11 := hB_11.size
      clear R_10 cR_10_0 cR_10_1 cR_10_2 S_10 cS_10_0 cS_10_1 cS_10_2 T_10 cT_10_0 cT_10_1 cT_10_2 A_10 cA_10_0 cA_10_1 cA_10_2 GL_10 hR_10 OS_10 OS'_10 OT_10 OT'_10 Op_10 Pp_10 hbel_10 hB_11
      have Oy_11 := hO
      have ltOy := hO.ltB
      have Py_11 := hO'
      have ltPy := hO'.ltB
      clear hO hO' hD
      try clear hB
      have hbx := blk_new w11 #[Value.bool (qsg (fq hi) 0), Value.slice ya yn yc, Value.slice yb ym yd] 27
      have hbB := (Below.refl w11.heap.size w11).alloc (Nat.le_refl _) (.cells #[Value.bool (qsg (fq hi) 0), Value.slice ya yn yc, Value.slice yb ym yd] 27)
      have hltB := hbx.lt
      have hB_12 : Below w11.heap.size w11 (w11.alloc (.cells #[Value.bool (qsg (fq hi) 0), Value.slice ya yn yc, Value.slice yb ym yd] 27)) := hbB
      have R_12 := R_11.next hB_12
      have cR_12_0 : _ = some (Value.bool s) := R_12.cell 0
      have cR_12_1 : _ = some (Value.slice a n c) := R_12.cell 1
      have cR_12_2 : _ = some (Value.slice b m d) := R_12.cell 2
      have S_12 := S_11.next hB_12
      have cS_12_0 : _ = some (Value.bool (decide ((p1).num < 0))) := S_12.cell 0
      have cS_12_1 : _ = some (Value.slice Sa Sn Sc) := S_12.cell 1
      have cS_12_2 : _ = some (Value.slice Sb Sm Sd) := S_12.cell 2
      have T_12 := T_11.next hB_12
      have cT_12_0 : _ = some (Value.bool (decide ((p2).num < 0))) := T_12.cell 0
      have cT_12_1 : _ = some (Value.slice Ta Tn Tc) := T_12.cell 1
      have cT_12_2 : _ = some (Value.slice Tb Tm Td) := T_12.cell 2
      have A_12 := A_11.next hB_12
      have cA_12_0 : _ = some (Value.bool (qsg (fq lo) 0)) := A_12.cell 0
      have cA_12_1 : _ = some (Value.slice pa pn pc) := A_12.cell 1
      have cA_12_2 : _ = some (Value.slice pb pm pd) := A_12.cell 2
      have GL_12 := GL_11.below hB_12
      have hR_12 := hR_11.below hB_12
      have OS_12 := OS_11.below hB_12
      have OS'_12 := OS'_11.below hB_12
      have OT_12 := OT_11.below hB_12
      have OT'_12 := OT'_11.below hB_12
      have Op_12 := Op_11.below hB_12
      have Pp_12 := Pp_11.below hB_12
      have Oy_12 := Oy_11.below hB_12
      have Py_12 := Py_11.below hB_12
      have hbel_12 := hbel_11.next hB_12
      have hsz_12 := hB_12.size
      clear hB_12
      have B_12 := hbx
      clear hbx hbB
      have cB_12_0 : _ = some (Value.bool (qsg (fq hi) 0)) := B_12.cell 0
      have cB_12_1 : _ = some (Value.slice ya yn yc) := B_12.cell 1
      have cB_12_2 : _ = some (Value.slice yb ym yd) := B_12.cell 2
      go_wp2_with fail
      clear R_11 cR_11_0 cR_11_1 cR_11_2 S_11 cS_11_0 cS_11_1 cS_11_2 T_11 cT_11_0 cT_11_1 cT_11_2 A_11 cA_11_0 cA_11_1 cA_11_2 GL_11 hR_11 OS_11 OS'_11 OT_11 OT'_11 Op_11 Pp_11 Oy_11 Py_11 hbel_11
      generalize (w11.alloc (.cells #[Value.bool (qsg (fq hi) 0), Value.slice ya yn yc, Value.slice yb ym yd] 27)) = v12 at *
      go_wp2_with fail
      refine (cmp_r hC1h.out (Op_12.rdQ Pp_12 hql.out) (by omega) hR_12 (by omega)).mono ?_
      rintro e w13 ⟨rfl, hB⟩
      have hB_13 : Below v12.heap.size v12 w13 := (bl.next hB)
      have R_13 := R_12.next hB_13
      have cR_13_0 : _ = some (Value.bool s) := R_13.cell 0
      have cR_13_1 : _ = some (Value.slice a n c) := R_13.cell 1
      have cR_13_2 : _ = some (Value.slice b m d) := R_13.cell 2
      have S_13 := S_12.next hB_13
      have cS_13_0 : _ = some (Value.bool (decide ((p1).num < 0))) := S_13.cell 0
      have cS_13_1 : _ = some (Value.slice Sa Sn Sc) := S_13.cell 1
      have cS_13_2 : _ = some (Value.slice Sb Sm Sd) := S_13.cell 2
      have T_13 := T_12.next hB_13
      have cT_13_0 : _ = some (Value.bool (decide ((p2).num < 0))) := T_13.cell 0
      have cT_13_1 : _ = some (Value.slice Ta Tn Tc) := T_13.cell 1
      have cT_13_2 : _ = some (Value.slice Tb Tm Td) := T_13.cell 2
      have A_13 := A_12.next hB_13
      have cA_13_0 : _ = some (Value.bool (qsg (fq lo) 0)) := A_13.cell 0
      have cA_13_1 : _ = some (Value.slice pa pn pc) := A_13.cell 1
      have cA_13_2 : _ = some (Value.slice pb pm pd) := A_13.cell 2
      have B_13 := B_12.next hB_13
      have cB_13_0 : _ = some (Value.bool (qsg (fq hi) 0)) := B_13.cell 0
      have cB_13_1 : _ = some (Value.slice ya yn yc) := B_13.cell 1
      have cB_13_2 : _ = some (Value.slice yb ym yd) := B_13.cell 2
      have GL_13 := GL_12.below hB_13
      have hR_13 := hR_12.below hB_13
      have OS_13 := OS_12.below hB_13
      have OS'_13 := OS'_12.below hB_13
      have OT_13 := OT_12.below hB_13
      have OT'_13 := OT'_12.below hB_13
      have Op_13 := Op_12.below hB_13
      have Pp_13 := Pp_12.below hB_13
      have Oy_13 := Oy_12.below hB_13
      have Py_13 := Py_12.below hB_13
      have hbel_13 := hbel_12.next hB_13
      have hsz_13 := hB_13.size
      clear R_12 cR_12_0 cR_12_1 cR_12_2 S_12 cS_12_0 cS_12_1 cS_12_2 T_12 cT_12_0 cT_12_1 cT_12_2 A_12 cA_12_0 cA_12_1 cA_12_2 B_12 cB_12_0 cB_12_1 cB_12_2 GL_12 hR_12 OS_12 OS'_12 OT_12 OT'_12 Op_12 Pp_12 Oy_12 Py_12 hbel_12 hB_13
      try clear hB
      go_wp2_with fail
      refine (cmp_r hC2h.out hR_13 (by omega) (Oy_13.rdQ Py_13 hqr.out) (by omega)).mono ?_
      rintro e w14 ⟨rfl, hB⟩
      have hB_14 : Below w13.heap.size w13 w14 := (bl.next hB)
      have R_14 := R_13.next hB_14
      have cR_14_0 : _ = some (Value.bool s) := R_14.cell 0
      have cR_14_1 : _ = some (Value.slice a n c) := R_14.cell 1
      have cR_14_2 : _ = some (Value.slice b m d) := R_14.cell 2
      have S_14 := S_13.next hB_14
      have cS_14_0 : _ = some (Value.bool (decide ((p1).num < 0))) := S_14.cell 0
      have cS_14_1 : _ = some (Value.slice Sa Sn Sc) := S_14.cell 1
      have cS_14_2 : _ = some (Value.slice Sb Sm Sd) := S_14.cell 2
      have T_14 := T_13.next hB_14
      have cT_14_0 : _ = some (Value.bool (decide ((p2).num < 0))) := T_14.cell 0
      have cT_14_1 : _ = some (Value.slice Ta Tn Tc) := T_14.cell 1
      have cT_14_2 : _ = some (Value.slice Tb Tm Td) := T_14.cell 2
      have A_14 := A_13.next hB_14
      have cA_14_0 : _ = some (Value.bool (qsg (fq lo) 0)) := A_14.cell 0
      have cA_14_1 : _ = some (Value.slice pa pn pc) := A_14.cell 1
      have cA_14_2 : _ = some (Value.slice pb pm pd) := A_14.cell 2
      have B_14 := B_13.next hB_14
      have cB_14_0 : _ = some (Value.bool (qsg (fq hi) 0)) := B_14.cell 0
      have cB_14_1 : _ = some (Value.slice ya yn yc) := B_14.cell 1
      have cB_14_2 : _ = some (Value.slice yb ym yd) := B_14.cell 2
      have GL_14 := GL_13.below hB_14
      have hR_14 := hR_13.below hB_14
      have OS_14 := OS_13.below hB_14
      have OS'_14 := OS'_13.below hB_14
      have OT_14 := OT_13.below hB_14
      have OT'_14 := OT'_13.below hB_14
      have Op_14 := Op_13.below hB_14
      have Pp_14 := Pp_13.below hB_14
      have Oy_14 := Oy_13.below hB_14
      have Py_14 := Py_13.below hB_14
      have hbel_14 := hbel_13.next hB_14
      have hsz_14 := hB_14.size
      clear R_13 cR_13_0 cR_13_1 cR_13_2 S_13 cS_13_0 cS_13_1 cS_13_2 T_13 cT_13_0 cT_13_1 cT_13_2 A_13 cA_13_0 cA_13_1 cA_13_2 B_13 cB_13_0 cB_13_1 cB_13_2 GL_13 hR_13 OS_13 OS'_13 OT_13 OT'_13 Op_13 Pp_13 Oy_13 Py_13 hbel_13 hB_14
      try clear hB
      go_wp2_with fail
      refine (cmp_r hD1h.out (OS_14.rdQ OS'_14 hs1.out) (by omega) (OT_14.rdQ OT'_14 hs2.out) (by omega)).mono ?_
      rintro e w15 ⟨rfl, hB⟩
      have hB_15 : Below w14.heap.size w14 w15 := (bl.next hB)
      have R_15 := R_14.next hB_15
      have cR_15_0 : _ = some (Value.bool s) := R_15.cell 0
      have cR_15_1 : _ = some (Value.slice a n c) := R_15.cell 1
      have cR_15_2 : _ = some (Value.slice b m d) := R_15.cell 2
      have S_15 := S_14.next hB_15
      have cS_15_0 : _ = some (Value.bool (decide ((p1).num < 0))) := S_15.cell 0
      have cS_15_1 : _ = some (Value.slice Sa Sn Sc) := S_15.cell 1
      have cS_15_2 : _ = some (Value.slice Sb Sm Sd) := S_15.cell 2
      have T_15 := T_14.next hB_15
      have cT_15_0 : _ = some (Value.bool (decide ((p2).num < 0))) := T_15.cell 0
      have cT_15_1 : _ = some (Value.slice Ta Tn Tc) := T_15.cell 1
      have cT_15_2 : _ = some (Value.slice Tb Tm Td) := T_15.cell 2
      have A_15 := A_14.next hB_15
      have cA_15_0 : _ = some (Value.bool (qsg (fq lo) 0)) := A_15.cell 0
      have cA_15_1 : _ = some (Value.slice pa pn pc) := A_15.cell 1
      have cA_15_2 : _ = some (Value.slice pb pm pd) := A_15.cell 2
      have B_15 := B_14.next hB_15
      have cB_15_0 : _ = some (Value.bool (qsg (fq hi) 0)) := B_15.cell 0
      have cB_15_1 : _ = some (Value.slice ya yn yc) := B_15.cell 1
      have cB_15_2 : _ = some (Value.slice yb ym yd) := B_15.cell 2
      have GL_15 := GL_14.below hB_15
      have hR_15 := hR_14.below hB_15
      have OS_15 := OS_14.below hB_15
      have OS'_15 := OS'_14.below hB_15
      have OT_15 := OT_14.below hB_15
      have OT'_15 := OT'_14.below hB_15
      have Op_15 := Op_14.below hB_15
      have Pp_15 := Pp_14.below hB_15
      have Oy_15 := Oy_14.below hB_15
      have Py_15 := Py_14.below hB_15
      have hbel_15 := hbel_14.next hB_15
      have hsz_15 := hB_15.size
      clear R_14 cR_14_0 cR_14_1 cR_14_2 S_14 cS_14_0 cS_14_1 cS_14_2 T_14 cT_14_0 cT_14_1 cT_14_2 A_14 cA_14_0 cA_14_1 cA_14_2 B_14 cB_14_0 cB_14_1 cB_14_2 GL_14 hR_14 OS_14 OS'_14 OT_14 OT'_14 Op_14 Pp_14 Oy_14 Py_14 hbel_14 hB_15
      try clear hB
      go_wp2_with fail
      refine (cmp_r hD2h.out (OT_15.rdQ OT'_15 hs2.out) (by omega) (OS_15.rdQ OS'_15 hs1.out) (by omega)).mono ?_
      rintro e w16 ⟨rfl, hB⟩
      have hB_16 : Below w15.heap.size w15 w16 := (bl.next hB)
      have R_16 := R_15.next hB_16
      have cR_16_0 : _ = some (Value.bool s) := R_16.cell 0
      have cR_16_1 : _ = some (Value.slice a n c) := R_16.cell 1
      have cR_16_2 : _ = some (Value.slice b m d) := R_16.cell 2
      have S_16 := S_15.next hB_16
      have cS_16_0 : _ = some (Value.bool (decide ((p1).num < 0))) := S_16.cell 0
      have cS_16_1 : _ = some (Value.slice Sa Sn Sc) := S_16.cell 1
      have cS_16_2 : _ = some (Value.slice Sb Sm Sd) := S_16.cell 2
      have T_16 := T_15.next hB_16
      have cT_16_0 : _ = some (Value.bool (decide ((p2).num < 0))) := T_16.cell 0
      have cT_16_1 : _ = some (Value.slice Ta Tn Tc) := T_16.cell 1
      have cT_16_2 : _ = some (Value.slice Tb Tm Td) := T_16.cell 2
      have A_16 := A_15.next hB_16
      have cA_16_0 : _ = some (Value.bool (qsg (fq lo) 0)) := A_16.cell 0
      have cA_16_1 : _ = some (Value.slice pa pn pc) := A_16.cell 1
      have cA_16_2 : _ = some (Value.slice pb pm pd) := A_16.cell 2
      have B_16 := B_15.next hB_16
      have cB_16_0 : _ = some (Value.bool (qsg (fq hi) 0)) := B_16.cell 0
      have cB_16_1 : _ = some (Value.slice ya yn yc) := B_16.cell 1
      have cB_16_2 : _ = some (Value.slice yb ym yd) := B_16.cell 2
      have GL_16 := GL_15.below hB_16
      have hR_16 := hR_15.below hB_16
      have OS_16 := OS_15.below hB_16
      have OS'_16 := OS'_15.below hB_16
      have OT_16 := OT_15.below hB_16
      have OT'_16 := OT'_15.below hB_16
      have Op_16 := Op_15.below hB_16
      have Pp_16 := Pp_15.below hB_16
      have Oy_16 := Oy_15.below hB_16
      have Py_16 := Py_15.below hB_16
      have hbel_16 := hbel_15.next hB_16
      have hsz_16 := hB_16.size
      clear R_15 cR_15_0 cR_15_1 cR_15_2 S_15 cS_15_0 cS_15_1 cS_15_2 T_15 cT_15_0 cT_15_1 cT_15_2 A_15 cA_15_0 cA_15_1 cA_15_2 B_15 cB_15_0 cB_15_1 cB_15_2 GL_15 hR_15 OS_15 OS'_15 OT_15 OT'_15 Op_15 Pp_15 Oy_15 Py_15 hbel_15 hB_16
      try clear hB
      by_cases hf1 : fr f < 9218868437227405312
      · have HF := hid (fun w => near64 (w := w) f hfh.out)
        rw [show fe f = 0 from fe_fin hf1] at HF
        have HB := hid (fun w (g : Lng w) a n c b m d (ha : Rd w a n c (qnl (fq f) 0)) (hb : Rd w b m d (qdl (fq f) 0)) => near_back g hfh.out hf1 ha hb)
        have hfe := nz_eq hf1
        clear hf1
        go_wp2_with fail
        refine (HF.out _).mono ?_
        rintro e w17 ⟨za, zn, zc, zb, zm, zd, rfl, hO, hO', hD, hB⟩
        have hB_17 : Below w16.heap.size w16 w17 := (bl.next hB)
        have R_17 := R_16.next hB_17
        have cR_17_0 : _ = some (Value.bool s) := R_17.cell 0
        have cR_17_1 : _ = some (Value.slice a n c) := R_17.cell 1
        have cR_17_2 : _ = some (Value.slice b m d) := R_17.cell 2
        have S_17 := S_16.next hB_17
        have cS_17_0 : _ = some (Value.bool (decide ((p1).num < 0))) := S_17.cell 0
        have cS_17_1 : _ = some (Value.slice Sa Sn Sc) := S_17.cell 1
        have cS_17_2 : _ = some (Value.slice Sb Sm Sd) := S_17.cell 2
        have T_17 := T_16.next hB_17
        have cT_17_0 : _ = some (Value.bool (decide ((p2).num < 0))) := T_17.cell 0
        have cT_17_1 : _ = some (Value.slice Ta Tn Tc) := T_17.cell 1
        have cT_17_2 : _ = some (Value.slice Tb Tm Td) := T_17.cell 2
        have A_17 := A_16.next hB_17
        have cA_17_0 : _ = some (Value.bool (qsg (fq lo) 0)) := A_17.cell 0
        have cA_17_1 : _ = some (Value.slice pa pn pc) := A_17.cell 1
        have cA_17_2 : _ = some (Value.slice pb pm pd) := A_17.cell 2
        have B_17 := B_16.next hB_17
        have cB_17_0 : _ = some (Value.bool (qsg (fq hi) 0)) := B_17.cell 0
        have cB_17_1 : _ = some (Value.slice ya yn yc) := B_17.cell 1
        have cB_17_2 : _ = some (Value.slice yb ym yd) := B_17.cell 2
        have GL_17 := GL_16.below hB_17
        have hR_17 := hR_16.below hB_17
        have OS_17 := OS_16.below hB_17
        have OS'_17 := OS'_16.below hB_17
        have OT_17 := OT_16.below hB_17
        have OT'_17 := OT'_16.below hB_17
        have Op_17 := Op_16.below hB_17
        have Pp_17 := Pp_16.below hB_17
        have Oy_17 := Oy_16.below hB_17
        have Py_17 := Py_16.below hB_17
        have hbel_17 := hbel_16.next hB_17
        have hsz_17 := hB_17.size
        clear R_16 cR_16_0 cR_16_1 cR_16_2 S_16 cS_16_0 cS_16_1 cS_16_2 T_16 cT_16_0 cT_16_1 cT_16_2 A_16 cA_16_0 cA_16_1 cA_16_2 B_16 cB_16_0 cB_16_1 cB_16_2 GL_16 hR_16 OS_16 OS'_16 OT_16 OT'_16 Op_16 Pp_16 Oy_16 Py_16 hbel_16 hB_17
        have Oz_17 := hO
        have ltOz := hO.ltB
        have Pz_17 := hO'
        have ltPz := hO'.ltB
        clear hO hO' hD
        try clear hB
        have hbx := blk_new w17 #[Value.bool (qsg (fq f) 0), Value.slice za zn zc, Value.slice zb zm zd] 27
        have hbB := (Below.refl w17.heap.size w17).alloc (Nat.le_refl _) (.cells #[Value.bool (qsg (fq f) 0), Value.slice za zn zc, Value.slice zb zm zd] 27)
        have hltZ := hbx.lt
        have hB_18 : Below w17.heap.size w17 (w17.alloc (.cells #[Value.bool (qsg (fq f) 0), Value.slice za zn zc, Value.slice zb zm zd] 27)) := hbB
        have R_18 := R_17.next hB_18
        have cR_18_0 : _ = some (Value.bool s) := R_18.cell 0
        have cR_18_1 : _ = some (Value.slice a n c) := R_18.cell 1
        have cR_18_2 : _ = some (Value.slice b m d) := R_18.cell 2
        have S_18 := S_17.next hB_18
        have cS_18_0 : _ = some (Value.bool (decide ((p1).num < 0))) := S_18.cell 0
        have cS_18_1 : _ = some (Value.slice Sa Sn Sc) := S_18.cell 1
        have cS_18_2 : _ = some (Value.slice Sb Sm Sd) := S_18.cell 2
        have T_18 := T_17.next hB_18
        have cT_18_0 : _ = some (Value.bool (decide ((p2).num < 0))) := T_18.cell 0
        have cT_18_1 : _ = some (Value.slice Ta Tn Tc) := T_18.cell 1
        have cT_18_2 : _ = some (Value.slice Tb Tm Td) := T_18.cell 2
        have A_18 := A_17.next hB_18
        have cA_18_0 : _ = some (Value.bool (qsg (fq lo) 0)) := A_18.cell 0
        have cA_18_1 : _ = some (Value.slice pa pn pc) := A_18.cell 1
        have cA_18_2 : _ = some (Value.slice pb pm pd) := A_18.cell 2
        have B_18 := B_17.next hB_18
        have cB_18_0 : _ = some (Value.bool (qsg (fq hi) 0)) := B_18.cell 0
        have cB_18_1 : _ = some (Value.slice ya yn yc) := B_18.cell 1
        have cB_18_2 : _ = some (Value.slice yb ym yd) := B_18.cell 2
        have GL_18 := GL_17.below hB_18
        have hR_18 := hR_17.below hB_18
        have OS_18 := OS_17.below hB_18
        have OS'_18 := OS'_17.below hB_18
        have OT_18 := OT_17.below hB_18
        have OT'_18 := OT'_17.below hB_18
        have Op_18 := Op_17.below hB_18
        have Pp_18 := Pp_17.below hB_18
        have Oy_18 := Oy_17.below hB_18
        have Py_18 := Py_17.below hB_18
        have Oz_18 := Oz_17.below hB_18
        have Pz_18 := Pz_17.below hB_18
        have hbel_18 := hbel_17.next hB_18
        have hsz_18 := hB_18.size
        clear hB_18
        have Z_18 := hbx
        clear hbx hbB
        have cZ_18_0 : _ = some (Value.bool (qsg (fq f) 0)) := Z_18.cell 0
        have cZ_18_1 : _ = some (Value.slice za zn zc) := Z_18.cell 1
        have cZ_18_2 : _ = some (Value.slice zb zm zd) := Z_18.cell 2
        go_wp2_with fail
        clear R_17 cR_17_0 cR_17_1 cR_17_2 S_17 cS_17_0 cS_17_1 cS_17_2 T_17 cT_17_0 cT_17_1 cT_17_2 A_17 cA_17_0 cA_17_1 cA_17_2 B_17 cB_17_0 cB_17_1 cB_17_2 GL_17 hR_17 OS_17 OS'_17 OT_17 OT'_17 Op_17 Pp_17 Oy_17 Py_17 Oz_17 Pz_17 hbel_17
        generalize (w17.alloc (.cells #[Value.bool (qsg (fq f) 0), Value.slice za zn zc, Value.slice zb zm zd] 27)) = v18 at *
        go_wp2_with fail
        refine (HB.out _ GL_18 _ _ _ _ _ _ Oz_18.rd Pz_18.rd).mono ?_
        rintro e w19 ⟨rfl, hB⟩
        have hB_19 : Below v18.heap.size v18 w19 := (bl.next hB)
        have R_19 := R_18.next hB_19
        have cR_19_0 : _ = some (Value.bool s) := R_19.cell 0
        have cR_19_1 : _ = some (Value.slice a n c) := R_19.cell 1
        have cR_19_2 : _ = some (Value.slice b m d) := R_19.cell 2
        have S_19 := S_18.next hB_19
        have cS_19_0 : _ = some (Value.bool (decide ((p1).num < 0))) := S_19.cell 0
        have cS_19_1 : _ = some (Value.slice Sa Sn Sc) := S_19.cell 1
        have cS_19_2 : _ = some (Value.slice Sb Sm Sd) := S_19.cell 2
        have T_19 := T_18.next hB_19
        have cT_19_0 : _ = some (Value.bool (decide ((p2).num < 0))) := T_19.cell 0
        have cT_19_1 : _ = some (Value.slice Ta Tn Tc) := T_19.cell 1
        have cT_19_2 : _ = some (Value.slice Tb Tm Td) := T_19.cell 2
        have A_19 := A_18.next hB_19
        have cA_19_0 : _ = some (Value.bool (qsg (fq lo) 0)) := A_19.cell 0
        have cA_19_1 : _ = some (Value.slice pa pn pc) := A_19.cell 1
        have cA_19_2 : _ = some (Value.slice pb pm pd) := A_19.cell 2
        have B_19 := B_18.next hB_19
        have cB_19_0 : _ = some (Value.bool (qsg (fq hi) 0)) := B_19.cell 0
        have cB_19_1 : _ = some (Value.slice ya yn yc) := B_19.cell 1
        have cB_19_2 : _ = some (Value.slice yb ym yd) := B_19.cell 2
        have Z_19 := Z_18.next hB_19
        have cZ_19_0 : _ = some (Value.bool (qsg (fq f) 0)) := Z_19.cell 0
        have cZ_19_1 : _ = some (Value.slice za zn zc) := Z_19.cell 1
        have cZ_19_2 : _ = some (Value.slice zb zm zd) := Z_19.cell 2
        have GL_19 := GL_18.below hB_19
        have hR_19 := hR_18.below hB_19
        have OS_19 := OS_18.below hB_19
        have OS'_19 := OS'_18.below hB_19
        have OT_19 := OT_18.below hB_19
        have OT'_19 := OT'_18.below hB_19
        have Op_19 := Op_18.below hB_19
        have Pp_19 := Pp_18.below hB_19
        have Oy_19 := Oy_18.below hB_19
        have Py_19 := Py_18.below hB_19
        have Oz_19 := Oz_18.below hB_19
        have Pz_19 := Pz_18.below hB_19
        have hbel_19 := hbel_18.next hB_19
        have hsz_19 := hB_19.size
        clear R_18 cR_18_0 cR_18_1 cR_18_2 S_18 cS_18_0 cS_18_1 cS_18_2 T_18 cT_18_0 cT_18_1 cT_18_2 A_18 cA_18_0 cA_18_1 cA_18_2 B_18 cB_18_0 cB_18_1 cB_18_2 Z_18 cZ_18_0 cZ_18_1 cZ_18_2 GL_18 hR_18 OS_18 OS'_18 OT_18 OT'_18 Op_18 Pp_18 Oy_18 Py_18 Oz_18 Pz_18 hbel_18 hB_19
        try clear hB
        go_wp2
        go_ret
        exact ⟨rfl, hbel_19⟩
      · have HF := hid (fun w => near64 (w := w) f hfh.out)
        rw [show fe f = 13 from fe_nf hf1] at HF
        by_cases hf2 : fr f = 9218868437227405312
        · have hff : (FloatKind.f64.format.order f f != some .eq) = false := by rw [fcmp_self]; unfold fnan; rw [hf2]; rfl
          have HI := hid (fun w => isinf_i (w := w) hfh.out hf2)
          clear hf1 hf2
          go_wp2_with fail
          refine (HF.out _).mono ?_
          rintro e w17 ⟨za, zn, zc, zb, zm, zd, rfl, hO, hO', hD, hB⟩
          have hB_17 : Below w16.heap.size w16 w17 := (bl.next hB)
          have R_17 := R_16.next hB_17
          have cR_17_0 : _ = some (Value.bool s) := R_17.cell 0
          have cR_17_1 : _ = some (Value.slice a n c) := R_17.cell 1
          have cR_17_2 : _ = some (Value.slice b m d) := R_17.cell 2
          have S_17 := S_16.next hB_17
          have cS_17_0 : _ = some (Value.bool (decide ((p1).num < 0))) := S_17.cell 0
          have cS_17_1 : _ = some (Value.slice Sa Sn Sc) := S_17.cell 1
          have cS_17_2 : _ = some (Value.slice Sb Sm Sd) := S_17.cell 2
          have T_17 := T_16.next hB_17
          have cT_17_0 : _ = some (Value.bool (decide ((p2).num < 0))) := T_17.cell 0
          have cT_17_1 : _ = some (Value.slice Ta Tn Tc) := T_17.cell 1
          have cT_17_2 : _ = some (Value.slice Tb Tm Td) := T_17.cell 2
          have A_17 := A_16.next hB_17
          have cA_17_0 : _ = some (Value.bool (qsg (fq lo) 0)) := A_17.cell 0
          have cA_17_1 : _ = some (Value.slice pa pn pc) := A_17.cell 1
          have cA_17_2 : _ = some (Value.slice pb pm pd) := A_17.cell 2
          have B_17 := B_16.next hB_17
          have cB_17_0 : _ = some (Value.bool (qsg (fq hi) 0)) := B_17.cell 0
          have cB_17_1 : _ = some (Value.slice ya yn yc) := B_17.cell 1
          have cB_17_2 : _ = some (Value.slice yb ym yd) := B_17.cell 2
          have GL_17 := GL_16.below hB_17
          have hR_17 := hR_16.below hB_17
          have OS_17 := OS_16.below hB_17
          have OS'_17 := OS'_16.below hB_17
          have OT_17 := OT_16.below hB_17
          have OT'_17 := OT'_16.below hB_17
          have Op_17 := Op_16.below hB_17
          have Pp_17 := Pp_16.below hB_17
          have Oy_17 := Oy_16.below hB_17
          have Py_17 := Py_16.below hB_17
          have hbel_17 := hbel_16.next hB_17
          have hsz_17 := hB_17.size
          clear R_16 cR_16_0 cR_16_1 cR_16_2 S_16 cS_16_0 cS_16_1 cS_16_2 T_16 cT_16_0 cT_16_1 cT_16_2 A_16 cA_16_0 cA_16_1 cA_16_2 B_16 cB_16_0 cB_16_1 cB_16_2 GL_16 hR_16 OS_16 OS'_16 OT_16 OT'_16 Op_16 Pp_16 Oy_16 Py_16 hbel_16 hB_17
          have Oz_17 := hO
          have ltOz := hO.ltB
          have Pz_17 := hO'
          have ltPz := hO'.ltB
          clear hO hO' hD
          try clear hB
          have hbx := blk_new w17 #[Value.bool (qsg (fq f) 13), Value.slice za zn zc, Value.slice zb zm zd] 27
          have hbB := (Below.refl w17.heap.size w17).alloc (Nat.le_refl _) (.cells #[Value.bool (qsg (fq f) 13), Value.slice za zn zc, Value.slice zb zm zd] 27)
          have hltZ := hbx.lt
          have hB_18 : Below w17.heap.size w17 (w17.alloc (.cells #[Value.bool (qsg (fq f) 13), Value.slice za zn zc, Value.slice zb zm zd] 27)) := hbB
          have R_18 := R_17.next hB_18
          have cR_18_0 : _ = some (Value.bool s) := R_18.cell 0
          have cR_18_1 : _ = some (Value.slice a n c) := R_18.cell 1
          have cR_18_2 : _ = some (Value.slice b m d) := R_18.cell 2
          have S_18 := S_17.next hB_18
          have cS_18_0 : _ = some (Value.bool (decide ((p1).num < 0))) := S_18.cell 0
          have cS_18_1 : _ = some (Value.slice Sa Sn Sc) := S_18.cell 1
          have cS_18_2 : _ = some (Value.slice Sb Sm Sd) := S_18.cell 2
          have T_18 := T_17.next hB_18
          have cT_18_0 : _ = some (Value.bool (decide ((p2).num < 0))) := T_18.cell 0
          have cT_18_1 : _ = some (Value.slice Ta Tn Tc) := T_18.cell 1
          have cT_18_2 : _ = some (Value.slice Tb Tm Td) := T_18.cell 2
          have A_18 := A_17.next hB_18
          have cA_18_0 : _ = some (Value.bool (qsg (fq lo) 0)) := A_18.cell 0
          have cA_18_1 : _ = some (Value.slice pa pn pc) := A_18.cell 1
          have cA_18_2 : _ = some (Value.slice pb pm pd) := A_18.cell 2
          have B_18 := B_17.next hB_18
          have cB_18_0 : _ = some (Value.bool (qsg (fq hi) 0)) := B_18.cell 0
          have cB_18_1 : _ = some (Value.slice ya yn yc) := B_18.cell 1
          have cB_18_2 : _ = some (Value.slice yb ym yd) := B_18.cell 2
          have GL_18 := GL_17.below hB_18
          have hR_18 := hR_17.below hB_18
          have OS_18 := OS_17.below hB_18
          have OS'_18 := OS'_17.below hB_18
          have OT_18 := OT_17.below hB_18
          have OT'_18 := OT'_17.below hB_18
          have Op_18 := Op_17.below hB_18
          have Pp_18 := Pp_17.below hB_18
          have Oy_18 := Oy_17.below hB_18
          have Py_18 := Py_17.below hB_18
          have Oz_18 := Oz_17.below hB_18
          have Pz_18 := Pz_17.below hB_18
          have hbel_18 := hbel_17.next hB_18
          have hsz_18 := hB_18.size
          clear hB_18
          have Z_18 := hbx
          clear hbx hbB
          have cZ_18_0 : _ = some (Value.bool (qsg (fq f) 13)) := Z_18.cell 0
          have cZ_18_1 : _ = some (Value.slice za zn zc) := Z_18.cell 1
          have cZ_18_2 : _ = some (Value.slice zb zm zd) := Z_18.cell 2
          go_wp2_with fail
          clear R_17 cR_17_0 cR_17_1 cR_17_2 S_17 cS_17_0 cS_17_1 cS_17_2 T_17 cT_17_0 cT_17_1 cT_17_2 A_17 cA_17_0 cA_17_1 cA_17_2 B_17 cB_17_0 cB_17_1 cB_17_2 GL_17 hR_17 OS_17 OS'_17 OT_17 OT'_17 Op_17 Pp_17 Oy_17 Py_17 Oz_17 Pz_17 hbel_17
          generalize (w17.alloc (.cells #[Value.bool (qsg (fq f) 13), Value.slice za zn zc, Value.slice zb zm zd] 27)) = v18 at *
          go_wp2_with fail
          refine (HI.out _).mono ?_
          rintro e w19 ⟨rfl, hB⟩
          have hB_19 : Below v18.heap.size v18 w19 := (bl.next hB)
          have R_19 := R_18.next hB_19
          have cR_19_0 : _ = some (Value.bool s) := R_19.cell 0
          have cR_19_1 : _ = some (Value.slice a n c) := R_19.cell 1
          have cR_19_2 : _ = some (Value.slice b m d) := R_19.cell 2
          have S_19 := S_18.next hB_19
          have cS_19_0 : _ = some (Value.bool (decide ((p1).num < 0))) := S_19.cell 0
          have cS_19_1 : _ = some (Value.slice Sa Sn Sc) := S_19.cell 1
          have cS_19_2 : _ = some (Value.slice Sb Sm Sd) := S_19.cell 2
          have T_19 := T_18.next hB_19
          have cT_19_0 : _ = some (Value.bool (decide ((p2).num < 0))) := T_19.cell 0
          have cT_19_1 : _ = some (Value.slice Ta Tn Tc) := T_19.cell 1
          have cT_19_2 : _ = some (Value.slice Tb Tm Td) := T_19.cell 2
          have A_19 := A_18.next hB_19
          have cA_19_0 : _ = some (Value.bool (qsg (fq lo) 0)) := A_19.cell 0
          have cA_19_1 : _ = some (Value.slice pa pn pc) := A_19.cell 1
          have cA_19_2 : _ = some (Value.slice pb pm pd) := A_19.cell 2
          have B_19 := B_18.next hB_19
          have cB_19_0 : _ = some (Value.bool (qsg (fq hi) 0)) := B_19.cell 0
          have cB_19_1 : _ = some (Value.slice ya yn yc) := B_19.cell 1
          have cB_19_2 : _ = some (Value.slice yb ym yd) := B_19.cell 2
          have Z_19 := Z_18.next hB_19
          have cZ_19_0 : _ = some (Value.bool (qsg (fq f) 13)) := Z_19.cell 0
          have cZ_19_1 : _ = some (Value.slice za zn zc) := Z_19.cell 1
          have cZ_19_2 : _ = some (Value.slice zb zm zd) := Z_19.cell 2
          have GL_19 := GL_18.below hB_19
          have hR_19 := hR_18.below hB_19
          have OS_19 := OS_18.below hB_19
          have OS'_19 := OS'_18.below hB_19
          have OT_19 := OT_18.below hB_19
          have OT'_19 := OT'_18.below hB_19
          have Op_19 := Op_18.below hB_19
          have Pp_19 := Pp_18.below hB_19
          have Oy_19 := Oy_18.below hB_19
          have Py_19 := Py_18.below hB_19
          have Oz_19 := Oz_18.below hB_19
          have Pz_19 := Pz_18.below hB_19
          have hbel_19 := hbel_18.next hB_19
          have hsz_19 := hB_19.size
          clear R_18 cR_18_0 cR_18_1 cR_18_2 S_18 cS_18_0 cS_18_1 cS_18_2 T_18 cT_18_0 cT_18_1 cT_18_2 A_18 cA_18_0 cA_18_1 cA_18_2 B_18 cB_18_0 cB_18_1 cB_18_2 Z_18 cZ_18_0 cZ_18_1 cZ_18_2 GL_18 hR_18 OS_18 OS'_18 OT_18 OT'_18 Op_18 Pp_18 Oy_18 Py_18 Oz_18 Pz_18 hbel_18 hB_19
          try clear hB
          go_wp2
          go_ret
          exact ⟨rfl, hbel_19⟩
        · have hff : (FloatKind.f64.format.order f f != some .eq) = true := by rw [fcmp_self]; exact decide_eq_true (by omega)
          clear hf1 hf2
          go_wp2_with fail
          refine (HF.out _).mono ?_
          rintro e w17 ⟨za, zn, zc, zb, zm, zd, rfl, hO, hO', hD, hB⟩
          have hB_17 : Below w16.heap.size w16 w17 := (bl.next hB)
          have R_17 := R_16.next hB_17
          have cR_17_0 : _ = some (Value.bool s) := R_17.cell 0
          have cR_17_1 : _ = some (Value.slice a n c) := R_17.cell 1
          have cR_17_2 : _ = some (Value.slice b m d) := R_17.cell 2
          have S_17 := S_16.next hB_17
          have cS_17_0 : _ = some (Value.bool (decide ((p1).num < 0))) := S_17.cell 0
          have cS_17_1 : _ = some (Value.slice Sa Sn Sc) := S_17.cell 1
          have cS_17_2 : _ = some (Value.slice Sb Sm Sd) := S_17.cell 2
          have T_17 := T_16.next hB_17
          have cT_17_0 : _ = some (Value.bool (decide ((p2).num < 0))) := T_17.cell 0
          have cT_17_1 : _ = some (Value.slice Ta Tn Tc) := T_17.cell 1
          have cT_17_2 : _ = some (Value.slice Tb Tm Td) := T_17.cell 2
          have A_17 := A_16.next hB_17
          have cA_17_0 : _ = some (Value.bool (qsg (fq lo) 0)) := A_17.cell 0
          have cA_17_1 : _ = some (Value.slice pa pn pc) := A_17.cell 1
          have cA_17_2 : _ = some (Value.slice pb pm pd) := A_17.cell 2
          have B_17 := B_16.next hB_17
          have cB_17_0 : _ = some (Value.bool (qsg (fq hi) 0)) := B_17.cell 0
          have cB_17_1 : _ = some (Value.slice ya yn yc) := B_17.cell 1
          have cB_17_2 : _ = some (Value.slice yb ym yd) := B_17.cell 2
          have GL_17 := GL_16.below hB_17
          have hR_17 := hR_16.below hB_17
          have OS_17 := OS_16.below hB_17
          have OS'_17 := OS'_16.below hB_17
          have OT_17 := OT_16.below hB_17
          have OT'_17 := OT'_16.below hB_17
          have Op_17 := Op_16.below hB_17
          have Pp_17 := Pp_16.below hB_17
          have Oy_17 := Oy_16.below hB_17
          have Py_17 := Py_16.below hB_17
          have hbel_17 := hbel_16.next hB_17
          have hsz_17 := hB_17.size
          clear R_16 cR_16_0 cR_16_1 cR_16_2 S_16 cS_16_0 cS_16_1 cS_16_2 T_16 cT_16_0 cT_16_1 cT_16_2 A_16 cA_16_0 cA_16_1 cA_16_2 B_16 cB_16_0 cB_16_1 cB_16_2 GL_16 hR_16 OS_16 OS'_16 OT_16 OT'_16 Op_16 Pp_16 Oy_16 Py_16 hbel_16 hB_17
          have Oz_17 := hO
          have ltOz := hO.ltB
          have Pz_17 := hO'
          have ltPz := hO'.ltB
          clear hO hO' hD
          try clear hB
          have hbx := blk_new w17 #[Value.bool (qsg (fq f) 13), Value.slice za zn zc, Value.slice zb zm zd] 27
          have hbB := (Below.refl w17.heap.size w17).alloc (Nat.le_refl _) (.cells #[Value.bool (qsg (fq f) 13), Value.slice za zn zc, Value.slice zb zm zd] 27)
          have hltZ := hbx.lt
          have hB_18 : Below w17.heap.size w17 (w17.alloc (.cells #[Value.bool (qsg (fq f) 13), Value.slice za zn zc, Value.slice zb zm zd] 27)) := hbB
          have R_18 := R_17.next hB_18
          have cR_18_0 : _ = some (Value.bool s) := R_18.cell 0
          have cR_18_1 : _ = some (Value.slice a n c) := R_18.cell 1
          have cR_18_2 : _ = some (Value.slice b m d) := R_18.cell 2
          have S_18 := S_17.next hB_18
          have cS_18_0 : _ = some (Value.bool (decide ((p1).num < 0))) := S_18.cell 0
          have cS_18_1 : _ = some (Value.slice Sa Sn Sc) := S_18.cell 1
          have cS_18_2 : _ = some (Value.slice Sb Sm Sd) := S_18.cell 2
          have T_18 := T_17.next hB_18
          have cT_18_0 : _ = some (Value.bool (decide ((p2).num < 0))) := T_18.cell 0
          have cT_18_1 : _ = some (Value.slice Ta Tn Tc) := T_18.cell 1
          have cT_18_2 : _ = some (Value.slice Tb Tm Td) := T_18.cell 2
          have A_18 := A_17.next hB_18
          have cA_18_0 : _ = some (Value.bool (qsg (fq lo) 0)) := A_18.cell 0
          have cA_18_1 : _ = some (Value.slice pa pn pc) := A_18.cell 1
          have cA_18_2 : _ = some (Value.slice pb pm pd) := A_18.cell 2
          have B_18 := B_17.next hB_18
          have cB_18_0 : _ = some (Value.bool (qsg (fq hi) 0)) := B_18.cell 0
          have cB_18_1 : _ = some (Value.slice ya yn yc) := B_18.cell 1
          have cB_18_2 : _ = some (Value.slice yb ym yd) := B_18.cell 2
          have GL_18 := GL_17.below hB_18
          have hR_18 := hR_17.below hB_18
          have OS_18 := OS_17.below hB_18
          have OS'_18 := OS'_17.below hB_18
          have OT_18 := OT_17.below hB_18
          have OT'_18 := OT'_17.below hB_18
          have Op_18 := Op_17.below hB_18
          have Pp_18 := Pp_17.below hB_18
          have Oy_18 := Oy_17.below hB_18
          have Py_18 := Py_17.below hB_18
          have Oz_18 := Oz_17.below hB_18
          have Pz_18 := Pz_17.below hB_18
          have hbel_18 := hbel_17.next hB_18
          have hsz_18 := hB_18.size
          clear hB_18
          have Z_18 := hbx
          clear hbx hbB
          have cZ_18_0 : _ = some (Value.bool (qsg (fq f) 13)) := Z_18.cell 0
          have cZ_18_1 : _ = some (Value.slice za zn zc) := Z_18.cell 1
          have cZ_18_2 : _ = some (Value.slice zb zm zd) := Z_18.cell 2
          go_wp2_with fail
          clear R_17 cR_17_0 cR_17_1 cR_17_2 S_17 cS_17_0 cS_17_1 cS_17_2 T_17 cT_17_0 cT_17_1 cT_17_2 A_17 cA_17_0 cA_17_1 cA_17_2 B_17 cB_17_0 cB_17_1 cB_17_2 GL_17 hR_17 OS_17 OS'_17 OT_17 OT'_17 Op_17 Pp_17 Oy_17 Py_17 Oz_17 Pz_17 hbel_17
          generalize (w17.alloc (.cells #[Value.bool (qsg (fq f) 13), Value.slice za zn zc, Value.slice zb zm zd] 27)) = v18 at *
          go_wp2
          go_ret
          exact ⟨rfl, hbel_18⟩
  · have hlt : fk lo < fk hi := by omega
    have e6 := od_ne nl nh hE
    obtain ⟨z, HZ, ez⟩ := nxa (w := w) hNA.out hlt
    have HZ := hid HZ
    by_cases hX : fk x = fk lo
    · skip
      have x1 := od_eq nx nl hX
      have x3 := od_eqt nx nl hX
      have x4 := od_nef nx nh (by omega)
      by_cases fl : fr lo < 9218868437227405312
      · skip
        by_cases fh : fr hi < 9218868437227405312
        · skip
          have HI1 := hid (fun w => isinf_b (w := w) hNA.out.ll fl)
          have HI2 := hid (fun w => isinf_b (w := w) hNA.out.lh fh)
          rw [show fe _ = 0 from fe_fin fl] at HP
          rw [show fe _ = 0 from fe_fin fh] at HQ
          have HO1 : Hid (∀ w, RdQ 500 w s a n c b m d q → Calls Tryd.prog 12 #[.agg #[.bool s, .slice a n c, .slice b m d], .float .f64 lo] w (RetQ w (aq (q - fq lo)))) := fun w h => off_any h lo hNA.out.ll fl
          have HO2 : Hid (∀ w, RdQ 500 w s a n c b m d q → Calls Tryd.prog 12 #[.agg #[.bool s, .slice a n c, .slice b m d], .float .f64 hi] w (RetQ w (aq (q - fq hi)))) := fun w h => off_any h hi hNA.out.lh fh
          have c1 : decide (0 < C1) = false := decide_eq_false (by have h1 := hNA.out.low fl; rw [← fq_fin fl, hqh.out, hC1h.out] at h1; omega)
          have c2 : decide (0 < C2) = false := decide_eq_false (by have h1 := cmpQ_turn (hNA.out.high fh); rw [← fq_fin fh, hqh.out, hC2h.out] at h1; omega)
          have g1 : decide (0 < D1) = false := decide_eq_false (by have h1 := hND.out.dl fl fh hX; rw [← fq_fin fl, ← fq_fin fh, hqh.out, hD1h.out] at h1; omega)
          clear hE hlt hX fl fh
          clear nl nh nx one le
          go_wp2_with fail
          refine (HZ.out _).mono ?_
          rintro e w6 ⟨rfl, hB⟩
          have hB_6 : Below w5.heap.size w5 w6 := (bl.next hB)
          have R_6 := R_5.next hB_6
          have cR_6_0 : _ = some (Value.bool s) := R_6.cell 0
          have cR_6_1 : _ = some (Value.slice a n c) := R_6.cell 1
          have cR_6_2 : _ = some (Value.slice b m d) := R_6.cell 2
          have GL_6 := GL_5.below hB_6
          have hR_6 := hR_5.below hB_6
          have hbel_6 := hbel_5.next hB_6
          have hsz_6 := hB_6.size
          clear R_5 cR_5_0 cR_5_1 cR_5_2 GL_5 hR_5 hbel_5 hB_6
          try clear hB
          go_wp2_with fail
          refine (HI1.out _).mono ?_
          rintro e w7 ⟨rfl, hB⟩
          have hB_7 : Below w6.heap.size w6 w7 := (bl.next hB)
          have R_7 := R_6.next hB_7
          have cR_7_0 : _ = some (Value.bool s) := R_7.cell 0
          have cR_7_1 : _ = some (Value.slice a n c) := R_7.cell 1
          have cR_7_2 : _ = some (Value.slice b m d) := R_7.cell 2
          have GL_7 := GL_6.below hB_7
          have hR_7 := hR_6.below hB_7
          have hbel_7 := hbel_6.next hB_7
          have hsz_7 := hB_7.size
          clear R_6 cR_6_0 cR_6_1 cR_6_2 GL_6 hR_6 hbel_6 hB_7
          try clear hB
          go_wp2_with fail
          refine (HI2.out _).mono ?_
          rintro e w8 ⟨rfl, hB⟩
          have hB_8 : Below w7.heap.size w7 w8 := (bl.next hB)
          have R_8 := R_7.next hB_8
          have cR_8_0 : _ = some (Value.bool s) := R_8.cell 0
          have cR_8_1 : _ = some (Value.slice a n c) := R_8.cell 1
          have cR_8_2 : _ = some (Value.slice b m d) := R_8.cell 2
          have GL_8 := GL_7.below hB_8
          have hR_8 := hR_7.below hB_8
          have hbel_8 := hbel_7.next hB_8
          have hsz_8 := hB_8.size
          clear R_7 cR_7_0 cR_7_1 cR_7_2 GL_7 hR_7 hbel_7 hB_8
          try clear hB
          go_wp2_with fail
          obtain ⟨W1, hW1⟩ : ∃ y : World, y = w8 := ⟨_, rfl⟩
          subst hW1
          obtain ⟨p1, hp1⟩ : ∃ z, aq (q - fq lo) = z := ⟨_, rfl⟩
          obtain ⟨p2, hp2⟩ : ∃ z, aq (q - fq hi) = z := ⟨_, rfl⟩
          rw [hp1] at HO1 hs1 hD1h hD2h
          rw [hp2] at HO2 hs2 hD1h hD2h
          clear hp1 hp2
          go_cut [10, 11] (fun s10 s11 wx => BoxQ W1 p1 s10 wx ∧ BoxQ W1 p2 s11 wx)
          case first =>
            have acc_8 : Below W1.heap.size W1 W1 := Below.refl _ _
            go_wp2_with fail
            go_region_held3 (fun w' => w'.cell? ⟨w.heap.size, 0, none⟩ = some (Value.bool s) ∧ w'.cell? ⟨w.heap.size, 1, none⟩ = some (Value.slice a n c) ∧ w'.cell? ⟨w.heap.size, 2, none⟩ = some (Value.slice b m d))
              (first | with_reducible exact ⟨cR_8_0, cR_8_1, cR_8_2⟩ | with_reducible exact ⟨cR_9_0, cR_9_1, cR_9_2⟩ | with_reducible exact ⟨cR_10_0, cR_10_1, cR_10_2⟩ | with_reducible exact ⟨(R_8.alloc _).cell 0, (R_8.alloc _).cell 1, (R_8.alloc _).cell 2⟩ | with_reducible exact ⟨((R_8.alloc _).alloc _).cell 0, ((R_8.alloc _).alloc _).cell 1, ((R_8.alloc _).alloc _).cell 2⟩ | with_reducible exact ⟨(R_9.alloc _).cell 0, (R_9.alloc _).cell 1, (R_9.alloc _).cell 2⟩ | with_reducible exact ⟨((R_9.alloc _).alloc _).cell 0, ((R_9.alloc _).alloc _).cell 1, ((R_9.alloc _).alloc _).cell 2⟩ | with_reducible exact ⟨(R_10.alloc _).cell 0, (R_10.alloc _).cell 1, (R_10.alloc _).cell 2⟩ | with_reducible exact ⟨((R_10.alloc _).alloc _).cell 0, ((R_10.alloc _).alloc _).cell 1, ((R_10.alloc _).alloc _).cell 2⟩ | (refine (fun hX : Blk _ (w.heap.size) #[Value.bool s, Value.slice a n c, Value.slice b m d] => ⟨hX.cell 0, hX.cell 1, hX.cell 2⟩) ?_; (repeat (first | with_reducible exact R_10 | with_reducible exact R_9 | with_reducible exact R_8 | with_reducible refine Blk.set3 ?_ (by first | omega | (simp only [World.heap_alloc_size, World.heap_setCell_size]; omega) | (simp; done) | (simp [World.setCell]; omega) | (simp; omega)) _ _ _ | with_reducible refine Blk.alloc ?_ _)); done) | exact ⟨cR_8_0, cR_8_1, cR_8_2⟩ | go_keep)
              (first
                | (go_at_call 12; ((with_reducible refine (HO1.out _ (hR_8.below bl)).mono ?_); (rintro e w9 ⟨Sa, Sn, Sc, Sb, Sm, Sd, rfl, hO, hO', hD, hB⟩; have hB_9 : Below W1.heap.size W1 w9 := (bl.next hB); have R_9 := R_8.next hB_9; have cR_9_0 : _ = some (Value.bool s) := R_9.cell 0; have cR_9_1 : _ = some (Value.slice a n c) := R_9.cell 1; have cR_9_2 : _ = some (Value.slice b m d) := R_9.cell 2; have GL_9 := GL_8.below hB_9; have hR_9 := hR_8.below hB_9; have hbel_9 := hbel_8.next hB_9; have hsz_9 := hB_9.size; clear R_8 cR_8_0 cR_8_1 cR_8_2 GL_8 hR_8 hbel_8 hB_9; have acc_9 := acc_8.next (show Below _ _ _ from (bl.next hB)); (first | (have A := A.next (show Below _ _ _ from (bl.next hB)); have C := C.next (show Below _ _ _ from (bl.next hB)); have ltA := A.lt; have cA0 : _ = some (Value.bool false) := A.cell 0; have fA0 := A.free 0; have cA1 : _ = some (Value.slice none 0 0) := A.cell 1; have fA1 := A.free 1; have cA2 : _ = some (Value.slice none 0 0) := A.cell 2; have fA2 := A.free 2; have ltC := C.lt; have cC0 : _ = some (Value.bool false) := C.cell 0; have fC0 := C.free 0; have cC1 : _ = some (Value.slice none 0 0) := C.cell 1; have fC1 := C.free 1; have cC2 : _ = some (Value.slice none 0 0) := C.cell 2; have fC2 := C.free 2) | (have A := A.next (show Below _ _ _ from (bl.next hB)); have C := (blk_new' _ #[Value.bool false, Value.slice none 0 0, Value.slice none 0 0] 27 (g := W1.heap.size) rfl).next (by first | exact hB | exact below_drew hB); have hAC := Nat.ne_of_lt ltA; have hCA := Ne.symm hAC; have ltA := A.lt; have cA0 : _ = some (Value.bool false) := A.cell 0; have fA0 := A.free 0; have cA1 : _ = some (Value.slice none 0 0) := A.cell 1; have fA1 := A.free 1; have cA2 : _ = some (Value.slice none 0 0) := A.cell 2; have fA2 := A.free 2; have ltC := C.lt; have cC0 : _ = some (Value.bool false) := C.cell 0; have fC0 := C.free 0; have cC1 : _ = some (Value.slice none 0 0) := C.cell 1; have fC1 := C.free 1; have cC2 : _ = some (Value.slice none 0 0) := C.cell 2; have fC2 := C.free 2) | (have A := A.next (show Below _ _ _ from (bl.next hB)); have ltA := A.lt; have cA0 : _ = some (Value.bool false) := A.cell 0; have fA0 := A.free 0; have cA1 : _ = some (Value.slice none 0 0) := A.cell 1; have fA1 := A.free 1; have cA2 : _ = some (Value.slice none 0 0) := A.cell 2; have fA2 := A.free 2) | (have A := ((blk_new' W1 #[Value.bool false, Value.slice none 0 0, Value.slice none 0 0] 27 (g := W1.heap.size) rfl).alloc _).next (by first | exact hB | exact below_drew hB); have C := (blk_new' (W1.alloc (.cells #[Value.bool false, Value.slice none 0 0, Value.slice none 0 0] 27)) #[Value.bool false, Value.slice none 0 0, Value.slice none 0 0] 27 (g := W1.heap.size + 1) (by first | simp | simp [World.drew])).next (by first | exact hB | exact below_drew hB); have ltA := A.lt; have cA0 : _ = some (Value.bool false) := A.cell 0; have fA0 := A.free 0; have cA1 : _ = some (Value.slice none 0 0) := A.cell 1; have fA1 := A.free 1; have cA2 : _ = some (Value.slice none 0 0) := A.cell 2; have fA2 := A.free 2; have ltC := C.lt; have cC0 : _ = some (Value.bool false) := C.cell 0; have fC0 := C.free 0; have cC1 : _ = some (Value.slice none 0 0) := C.cell 1; have fC1 := C.free 1; have cC2 : _ = some (Value.slice none 0 0) := C.cell 2; have fC2 := C.free 2) | (have A := ((blk_new' W1.drew #[Value.bool false, Value.slice none 0 0, Value.slice none 0 0] 27 (g := W1.heap.size) rfl).alloc _).next (by first | exact hB | exact below_drew hB); have C := (blk_new' (W1.drew.alloc (.cells #[Value.bool false, Value.slice none 0 0, Value.slice none 0 0] 27)) #[Value.bool false, Value.slice none 0 0, Value.slice none 0 0] 27 (g := W1.heap.size + 1) (by first | simp | simp [World.drew])).next (by first | exact hB | exact below_drew hB); have ltA := A.lt; have cA0 : _ = some (Value.bool false) := A.cell 0; have fA0 := A.free 0; have cA1 : _ = some (Value.slice none 0 0) := A.cell 1; have fA1 := A.free 1; have cA2 : _ = some (Value.slice none 0 0) := A.cell 2; have fA2 := A.free 2; have ltC := C.lt; have cC0 : _ = some (Value.bool false) := C.cell 0; have fC0 := C.free 0; have cC1 : _ = some (Value.slice none 0 0) := C.cell 1; have fC1 := C.free 1; have cC2 : _ = some (Value.slice none 0 0) := C.cell 2; have fC2 := C.free 2) | (have A := (blk_new' _ #[Value.bool false, Value.slice none 0 0, Value.slice none 0 0] 27 (g := W1.heap.size) rfl).next (by first | exact hB | exact below_drew hB); have ltA := A.lt; have cA0 : _ = some (Value.bool false) := A.cell 0; have fA0 := A.free 0; have cA1 : _ = some (Value.slice none 0 0) := A.cell 1; have fA1 := A.free 1; have cA2 : _ = some (Value.slice none 0 0) := A.cell 2; have fA2 := A.free 2) | skip); have OS_9 := hO; have ltOS := hO.ltB; have PS_9 := hO'; have ltPS := hO'.ltB; clear hO hO' hD; try clear hB)))
                | (go_at_call 12; ((with_reducible refine (HO2.out _ (hR_9.below bl)).mono ?_); (rintro e w10 ⟨Ta, Tn, Tc, Tb, Tm, Td, rfl, hO, hO', hD, hB⟩; have hB_10 : Below w9.heap.size w9 w10 := (bl.next hB); have R_10 := R_9.next hB_10; have cR_10_0 : _ = some (Value.bool s) := R_10.cell 0; have cR_10_1 : _ = some (Value.slice a n c) := R_10.cell 1; have cR_10_2 : _ = some (Value.slice b m d) := R_10.cell 2; have GL_10 := GL_9.below hB_10; have hR_10 := hR_9.below hB_10; have OS_10 := OS_9.below hB_10; have PS_10 := PS_9.below hB_10; have hbel_10 := hbel_9.next hB_10; have hsz_10 := hB_10.size; clear R_9 cR_9_0 cR_9_1 cR_9_2 GL_9 hR_9 OS_9 PS_9 hbel_9 hB_10; have acc_10 := acc_9.next (show Below _ _ _ from (bl.next hB)); (first | (have A := A.next (show Below _ _ _ from (bl.next hB)); have C := C.next (show Below _ _ _ from (bl.next hB)); have ltA := A.lt; have cA0 : _ = some (Value.bool false) := A.cell 0; have fA0 := A.free 0; have cA1 : _ = some (Value.slice none 0 0) := A.cell 1; have fA1 := A.free 1; have cA2 : _ = some (Value.slice none 0 0) := A.cell 2; have fA2 := A.free 2; have ltC := C.lt; have cC0 : _ = some (Value.bool false) := C.cell 0; have fC0 := C.free 0; have cC1 : _ = some (Value.slice none 0 0) := C.cell 1; have fC1 := C.free 1; have cC2 : _ = some (Value.slice none 0 0) := C.cell 2; have fC2 := C.free 2) | (have A := A.next (show Below _ _ _ from (bl.next hB)); have C := (blk_new' _ #[Value.bool false, Value.slice none 0 0, Value.slice none 0 0] 27 (g := w9.heap.size) rfl).next (by first | exact hB | exact below_drew hB); have hAC := Nat.ne_of_lt ltA; have hCA := Ne.symm hAC; have ltA := A.lt; have cA0 : _ = some (Value.bool false) := A.cell 0; have fA0 := A.free 0; have cA1 : _ = some (Value.slice none 0 0) := A.cell 1; have fA1 := A.free 1; have cA2 : _ = some (Value.slice none 0 0) := A.cell 2; have fA2 := A.free 2; have ltC := C.lt; have cC0 : _ = some (Value.bool false) := C.cell 0; have fC0 := C.free 0; have cC1 : _ = some (Value.slice none 0 0) := C.cell 1; have fC1 := C.free 1; have cC2 : _ = some (Value.slice none 0 0) := C.cell 2; have fC2 := C.free 2) | (have A := A.next (show Below _ _ _ from (bl.next hB)); have ltA := A.lt; have cA0 : _ = some (Value.bool false) := A.cell 0; have fA0 := A.free 0; have cA1 : _ = some (Value.slice none 0 0) := A.cell 1; have fA1 := A.free 1; have cA2 : _ = some (Value.slice none 0 0) := A.cell 2; have fA2 := A.free 2) | (have A := ((blk_new' w9 #[Value.bool false, Value.slice none 0 0, Value.slice none 0 0] 27 (g := w9.heap.size) rfl).alloc _).next (by first | exact hB | exact below_drew hB); have C := (blk_new' (w9.alloc (.cells #[Value.bool false, Value.slice none 0 0, Value.slice none 0 0] 27)) #[Value.bool false, Value.slice none 0 0, Value.slice none 0 0] 27 (g := w9.heap.size + 1) (by first | simp | simp [World.drew])).next (by first | exact hB | exact below_drew hB); have ltA := A.lt; have cA0 : _ = some (Value.bool false) := A.cell 0; have fA0 := A.free 0; have cA1 : _ = some (Value.slice none 0 0) := A.cell 1; have fA1 := A.free 1; have cA2 : _ = some (Value.slice none 0 0) := A.cell 2; have fA2 := A.free 2; have ltC := C.lt; have cC0 : _ = some (Value.bool false) := C.cell 0; have fC0 := C.free 0; have cC1 : _ = some (Value.slice none 0 0) := C.cell 1; have fC1 := C.free 1; have cC2 : _ = some (Value.slice none 0 0) := C.cell 2; have fC2 := C.free 2) | (have A := ((blk_new' w9.drew #[Value.bool false, Value.slice none 0 0, Value.slice none 0 0] 27 (g := w9.heap.size) rfl).alloc _).next (by first | exact hB | exact below_drew hB); have C := (blk_new' (w9.drew.alloc (.cells #[Value.bool false, Value.slice none 0 0, Value.slice none 0 0] 27)) #[Value.bool false, Value.slice none 0 0, Value.slice none 0 0] 27 (g := w9.heap.size + 1) (by first | simp | simp [World.drew])).next (by first | exact hB | exact below_drew hB); have ltA := A.lt; have cA0 : _ = some (Value.bool false) := A.cell 0; have fA0 := A.free 0; have cA1 : _ = some (Value.slice none 0 0) := A.cell 1; have fA1 := A.free 1; have cA2 : _ = some (Value.slice none 0 0) := A.cell 2; have fA2 := A.free 2; have ltC := C.lt; have cC0 : _ = some (Value.bool false) := C.cell 0; have fC0 := C.free 0; have cC1 : _ = some (Value.slice none 0 0) := C.cell 1; have fC1 := C.free 1; have cC2 : _ = some (Value.slice none 0 0) := C.cell 2; have fC2 := C.free 2) | (have A := (blk_new' _ #[Value.bool false, Value.slice none 0 0, Value.slice none 0 0] 27 (g := w9.heap.size) rfl).next (by first | exact hB | exact below_drew hB); have ltA := A.lt; have cA0 : _ = some (Value.bool false) := A.cell 0; have fA0 := A.free 0; have cA1 : _ = some (Value.slice none 0 0) := A.cell 1; have fA1 := A.free 1; have cA2 : _ = some (Value.slice none 0 0) := A.cell 2; have fA2 := A.free 2) | skip); have OT_10 := hO; have ltOT := hO.ltB; have PT_10 := hO'; have ltPT := hO'.ltB; clear hO hO' hD; have f2 := (blk_new' w10 #[Value.bool false, Value.slice none 0 0, Value.slice none 0 0] 27 (g := w10.heap.size) rfl).alloc (.cells #[Value.bool false, Value.slice none 0 0, Value.slice none 0 0] 27); have ltf2 := f2.lt; have cf20 : _ = some (Value.bool false) := f2.cell 0; have ff20 := f2.free 0; have cf21 : _ = some (Value.slice none 0 0) := f2.cell 1; have ff21 := f2.free 1; have cf22 : _ = some (Value.slice none 0 0) := f2.cell 2; have ff22 := f2.free 2; have f3 := blk_new' (w10.alloc (.cells #[Value.bool false, Value.slice none 0 0, Value.slice none 0 0] 27)) #[Value.bool false, Value.slice none 0 0, Value.slice none 0 0] 27 (g := w10.heap.size + 1) (by simp); have ltf3 := f3.lt; have cf30 : _ = some (Value.bool false) := f3.cell 0; have ff30 := f3.free 0; have cf31 : _ = some (Value.slice none 0 0) := f3.cell 1; have ff31 := f3.free 1; have cf32 : _ = some (Value.slice none 0 0) := f3.cell 2; have ff32 := f3.free 2; (first | (have hAn := Nat.ne_of_lt ltA; have hnA := Ne.symm hAn; have f4 := A.alloc (.cells #[Value.bool false, Value.slice none 0 0, Value.slice none 0 0] 27); have ltf4 := f4.lt; have cf40 : _ = some (Value.bool false) := f4.cell 0; have ff40 := f4.free 0; have cf41 : _ = some (Value.slice none 0 0) := f4.cell 1; have ff41 := f4.free 1; have cf42 : _ = some (Value.slice none 0 0) := f4.cell 2; have ff42 := f4.free 2) | skip); try clear hB))))
            all_goals (go_wp2_with fail; go_meet; exact ⟨⟨_, Sa, Sn, Sc, Sb, Sm, Sd, rfl, by ((repeat (first | with_reducible exact A | with_reducible exact C | with_reducible exact blk_new' _ _ _ (by first | rfl | simp) | with_reducible apply blk_z3 | with_reducible refine Blk.set3 ?_ (by first | omega | (simp only [World.heap_alloc_size, World.heap_setCell_size]; omega) | (simp; done) | (simp [World.setCell]; omega) | (simp; omega)) _ _ _ | with_reducible refine Blk.alloc ?_ _)); done), by (first | omega | (simp only [World.heap_alloc_size, World.heap_setCell_size]; omega) | (simp; done) | (simp [World.setCell]; omega) | (simp; omega)), by (exact Own.mono (Own.block OS_10 (fun g e => by have h1 := Own.lt' OS_10 g e; have h2 := ltOS g e; (repeat (first | with_reducible rfl | rw [heap_setCell_other _ _ _ _ (show g ≠ _ from (by first | omega | (simp at h1 ⊢; omega) | (simp at h1; omega) | (simp; omega)))] | rw [Below.heap_alloc _ _ _ (by first | omega | (simp at h1 ⊢; omega) | (simp at h1; omega) | (simp; omega))])))) (by first | omega | (simp only [World.heap_alloc_size, World.heap_setCell_size]; omega) | (simp; done) | (simp [World.setCell]; omega) | (simp; omega))), by (exact Own.mono (Own.block PS_10 (fun g e => by have h1 := Own.lt' PS_10 g e; have h2 := ltPS g e; (repeat (first | with_reducible rfl | rw [heap_setCell_other _ _ _ _ (show g ≠ _ from (by first | omega | (simp at h1 ⊢; omega) | (simp at h1; omega) | (simp; omega)))] | rw [Below.heap_alloc _ _ _ (by first | omega | (simp at h1 ⊢; omega) | (simp at h1; omega) | (simp; omega))])))) (by first | omega | (simp only [World.heap_alloc_size, World.heap_setCell_size]; omega) | (simp; done) | (simp [World.setCell]; omega) | (simp; omega))), by (intro g' e; have h1 := Own.lt' OS_10 g' e; have h2 := ltOS g' e; first | omega | (simp at h1; omega) | (simp at h1 ⊢; omega)), by (intro g' e; have h1 := Own.lt' PS_10 g' e; have h2 := ltPS g' e; first | omega | (simp at h1; omega) | (simp at h1 ⊢; omega)), by ((repeat (first | with_reducible exact acc_10 | with_reducible refine Below.set3 ?_ (by first | omega | (simp only [World.heap_alloc_size, World.heap_setCell_size]; omega) | (simp; done) | (simp [World.setCell]; omega) | (simp; omega)) _ _ _ | with_reducible refine Below.alloc ?_ (by first | omega | (simp only [World.heap_alloc_size, World.heap_setCell_size]; omega) | (simp; done) | (simp [World.setCell]; omega) | (simp; omega)) _)); done)⟩, ⟨_, Ta, Tn, Tc, Tb, Tm, Td, rfl, by ((repeat (first | with_reducible exact A | with_reducible exact C | with_reducible exact blk_new' _ _ _ (by first | rfl | simp) | with_reducible apply blk_z3 | with_reducible refine Blk.set3 ?_ (by first | omega | (simp only [World.heap_alloc_size, World.heap_setCell_size]; omega) | (simp; done) | (simp [World.setCell]; omega) | (simp; omega)) _ _ _ | with_reducible refine Blk.alloc ?_ _)); done), by (first | omega | (simp only [World.heap_alloc_size, World.heap_setCell_size]; omega) | (simp; done) | (simp [World.setCell]; omega) | (simp; omega)), by (exact Own.mono (Own.block OT_10 (fun g e => by have h1 := Own.lt' OT_10 g e; have h2 := ltOT g e; (repeat (first | with_reducible rfl | rw [heap_setCell_other _ _ _ _ (show g ≠ _ from (by first | omega | (simp at h1 ⊢; omega) | (simp at h1; omega) | (simp; omega)))] | rw [Below.heap_alloc _ _ _ (by first | omega | (simp at h1 ⊢; omega) | (simp at h1; omega) | (simp; omega))])))) (by first | omega | (simp only [World.heap_alloc_size, World.heap_setCell_size]; omega) | (simp; done) | (simp [World.setCell]; omega) | (simp; omega))), by (exact Own.mono (Own.block PT_10 (fun g e => by have h1 := Own.lt' PT_10 g e; have h2 := ltPT g e; (repeat (first | with_reducible rfl | rw [heap_setCell_other _ _ _ _ (show g ≠ _ from (by first | omega | (simp at h1 ⊢; omega) | (simp at h1; omega) | (simp; omega)))] | rw [Below.heap_alloc _ _ _ (by first | omega | (simp at h1 ⊢; omega) | (simp at h1; omega) | (simp; omega))])))) (by first | omega | (simp only [World.heap_alloc_size, World.heap_setCell_size]; omega) | (simp; done) | (simp [World.setCell]; omega) | (simp; omega))), by (intro g' e; have h1 := Own.lt' OT_10 g' e; have h2 := ltOT g' e; first | omega | (simp at h1; omega) | (simp at h1 ⊢; omega)), by (intro g' e; have h1 := Own.lt' PT_10 g' e; have h2 := ltPT g' e; first | omega | (simp at h1; omega) | (simp at h1 ⊢; omega)), by ((repeat (first | with_reducible exact acc_10 | with_reducible refine Below.set3 ?_ (by first | omega | (simp only [World.heap_alloc_size, World.heap_setCell_size]; omega) | (simp; done) | (simp [World.setCell]; omega) | (simp; omega)) _ _ _ | with_reducible refine Below.alloc ?_ (by first | omega | (simp only [World.heap_alloc_size, World.heap_setCell_size]; omega) | (simp; done) | (simp [World.setCell]; omega) | (simp; omega)) _)); done)⟩⟩)
          case rest =>
            obtain ⟨⟨gS, Sa, Sn, Sc, Sb, Sm, Sd, rfl, hbS, hgeS, hOS, hOS', awS, awS', hBc⟩, ⟨gT, Ta, Tn, Tc, Tb, Tm, Td, rfl, hbT, hgeT, hOT, hOT', awT, awT', _⟩⟩ := hcut
            have hB_9 : Below W1.heap.size W1 wc := hBc
            have R_9 := R_8.next hB_9
            have cR_9_0 : _ = some (Value.bool s) := R_9.cell 0
            have cR_9_1 : _ = some (Value.slice a n c) := R_9.cell 1
            have cR_9_2 : _ = some (Value.slice b m d) := R_9.cell 2
            have GL_9 := GL_8.below hB_9
            have hR_9 := hR_8.below hB_9
            have hbel_9 := hbel_8.next hB_9
            have hsz_9 := hB_9.size
            clear R_8 cR_8_0 cR_8_1 cR_8_2 GL_8 hR_8 hbel_8 hB_9
            clear hBc
            obtain ⟨wc9, hwc⟩ : ∃ x : World, x = wc := ⟨_, rfl⟩
            subst hwc
            have S_9 := hbS
            have hltS := hbS.lt
            clear hbS
            have cS_9_0 : _ = some (Value.bool (decide ((p1).num < 0))) := S_9.cell 0
            have cS_9_1 : _ = some (Value.slice Sa Sn Sc) := S_9.cell 1
            have cS_9_2 : _ = some (Value.slice Sb Sm Sd) := S_9.cell 2
            have OS_9 := hOS
            have ltOS := hOS.ltB
            have OS'_9 := hOS'
            have ltOS' := hOS'.ltB
            clear hOS hOS'
            have T_9 := hbT
            have hltT := hbT.lt
            clear hbT
            have cT_9_0 : _ = some (Value.bool (decide ((p2).num < 0))) := T_9.cell 0
            have cT_9_1 : _ = some (Value.slice Ta Tn Tc) := T_9.cell 1
            have cT_9_2 : _ = some (Value.slice Tb Tm Td) := T_9.cell 2
            have OT_9 := hOT
            have ltOT := hOT.ltB
            have OT'_9 := hOT'
            have ltOT' := hOT'.ltB
            clear hOT hOT'
            go_wp2_with fail
            refine (HP.out _).mono ?_
            rintro e w10 ⟨pa, pn, pc, pb, pm, pd, rfl, hO, hO', hD, hB⟩
            have hB_10 : Below wc9.heap.size wc9 w10 := (bl.next hB)
            have R_10 := R_9.next hB_10
            have cR_10_0 : _ = some (Value.bool s) := R_10.cell 0
            have cR_10_1 : _ = some (Value.slice a n c) := R_10.cell 1
            have cR_10_2 : _ = some (Value.slice b m d) := R_10.cell 2
            have S_10 := S_9.next hB_10
            have cS_10_0 : _ = some (Value.bool (decide ((p1).num < 0))) := S_10.cell 0
            have cS_10_1 : _ = some (Value.slice Sa Sn Sc) := S_10.cell 1
            have cS_10_2 : _ = some (Value.slice Sb Sm Sd) := S_10.cell 2
            have T_10 := T_9.next hB_10
            have cT_10_0 : _ = some (Value.bool (decide ((p2).num < 0))) := T_10.cell 0
            have cT_10_1 : _ = some (Value.slice Ta Tn Tc) := T_10.cell 1
            have cT_10_2 : _ = some (Value.slice Tb Tm Td) := T_10.cell 2
            have GL_10 := GL_9.below hB_10
            have hR_10 := hR_9.below hB_10
            have OS_10 := OS_9.below hB_10
            have OS'_10 := OS'_9.below hB_10
            have OT_10 := OT_9.below hB_10
            have OT'_10 := OT'_9.below hB_10
            have hbel_10 := hbel_9.next hB_10
            have hsz_10 := hB_10.size
            clear R_9 cR_9_0 cR_9_1 cR_9_2 S_9 cS_9_0 cS_9_1 cS_9_2 T_9 cT_9_0 cT_9_1 cT_9_2 GL_9 hR_9 OS_9 OS'_9 OT_9 OT'_9 hbel_9 hB_10
            have Op_10 := hO
            have ltOp := hO.ltB
            have Pp_10 := hO'
            have ltPp := hO'.ltB
            clear hO hO' hD
            try clear hB
            have hbx := blk_new w10 #[Value.bool (qsg (fq lo) 0), Value.slice pa pn pc, Value.slice pb pm pd] 27
            have hbB := (Below.refl w10.heap.size w10).alloc (Nat.le_refl _) (.cells #[Value.bool (qsg (fq lo) 0), Value.slice pa pn pc, Value.slice pb pm pd] 27)
            have hltA := hbx.lt
            have hB_11 : Below w10.heap.size w10 (w10.alloc (.cells #[Value.bool (qsg (fq lo) 0), Value.slice pa pn pc, Value.slice pb pm pd] 27)) := hbB
            have R_11 := R_10.next hB_11
            have cR_11_0 : _ = some (Value.bool s) := R_11.cell 0
            have cR_11_1 : _ = some (Value.slice a n c) := R_11.cell 1
            have cR_11_2 : _ = some (Value.slice b m d) := R_11.cell 2
            have S_11 := S_10.next hB_11
            have cS_11_0 : _ = some (Value.bool (decide ((p1).num < 0))) := S_11.cell 0
            have cS_11_1 : _ = some (Value.slice Sa Sn Sc) := S_11.cell 1
            have cS_11_2 : _ = some (Value.slice Sb Sm Sd) := S_11.cell 2
            have T_11 := T_10.next hB_11
            have cT_11_0 : _ = some (Value.bool (decide ((p2).num < 0))) := T_11.cell 0
            have cT_11_1 : _ = some (Value.slice Ta Tn Tc) := T_11.cell 1
            have cT_11_2 : _ = some (Value.slice Tb Tm Td) := T_11.cell 2
            have GL_11 := GL_10.below hB_11
            have hR_11 := hR_10.below hB_11
            have OS_11 := OS_10.below hB_11
            have OS'_11 := OS'_10.below hB_11
            have OT_11 := OT_10.below hB_11
            have OT'_11 := OT'_10.below hB_11
            have Op_11 := Op_10.below hB_11
            have Pp_11 := Pp_10.below hB_11
            have hbel_11 := hbel_10.next hB_11
            have hsz_11 := hB_11.size
            clear hB_11
            have A_11 := hbx
            clear hbx hbB
            have cA_11_0 : _ = some (Value.bool (qsg (fq lo) 0)) := A_11.cell 0
            have cA_11_1 : _ = some (Value.slice pa pn pc) := A_11.cell 1
            have cA_11_2 : _ = some (Value.slice pb pm pd) := A_11.cell 2
            go_wp2_with fail
            clear R_10 cR_10_0 cR_10_1 cR_10_2 S_10 cS_10_0 cS_10_1 cS_10_2 T_10 cT_10_0 cT_10_1 cT_10_2 GL_10 hR_10 OS_10 OS'_10 OT_10 OT'_10 Op_10 Pp_10 hbel_10
            generalize (w10.alloc (.cells #[Value.bool (qsg (fq lo) 0), Value.slice pa pn pc, Value.slice pb pm pd] 27)) = v11 at *
            go_wp2_with fail
            refine (HQ.out _).mono ?_
            rintro e w12 ⟨ya, yn, yc, yb, ym, yd, rfl, hO, hO', hD, hB⟩
            have hB_12 : Below v11.heap.size v11 w12 := (bl.next hB)
            have R_12 := R_11.next hB_12
            have cR_12_0 : _ = some (Value.bool s) := R_12.cell 0
            have cR_12_1 : _ = some (Value.slice a n c) := R_12.cell 1
            have cR_12_2 : _ = some (Value.slice b m d) := R_12.cell 2
            have S_12 := S_11.next hB_12
            have cS_12_0 : _ = some (Value.bool (decide ((p1).num < 0))) := S_12.cell 0
            have cS_12_1 : _ = some (Value.slice Sa Sn Sc) := S_12.cell 1
            have cS_12_2 : _ = some (Value.slice Sb Sm Sd) := S_12.cell 2
            have T_12 := T_11.next hB_12
            have cT_12_0 : _ = some (Value.bool (decide ((p2).num < 0))) := T_12.cell 0
            have cT_12_1 : _ = some (Value.slice Ta Tn Tc) := T_12.cell 1
            have cT_12_2 : _ = some (Value.slice Tb Tm Td) := T_12.cell 2
            have A_12 := A_11.next hB_12
            have cA_12_0 : _ = some (Value.bool (qsg (fq lo) 0)) := A_12.cell 0
            have cA_12_1 : _ = some (Value.slice pa pn pc) := A_12.cell 1
            have cA_12_2 : _ = some (Value.slice pb pm pd) := A_12.cell 2
            have GL_12 := GL_11.below hB_12
            have hR_12 := hR_11.below hB_12
            have OS_12 := OS_11.below hB_12
            have OS'_12 := OS'_11.below hB_12
            have OT_12 := OT_11.below hB_12
            have OT'_12 := OT'_11.below hB_12
            have Op_12 := Op_11.below hB_12
            have Pp_12 := Pp_11.below hB_12
            have hbel_12 := hbel_11.next hB_12
            have hsz_12 := hB_12.size
            clear R_11 cR_11_0 cR_11_1 cR_11_2 S_11 cS_11_0 cS_11_1 cS_11_2 T_11 cT_11_0 cT_11_1 cT_11_2 A_11 cA_11_0 cA_11_1 cA_11_2 GL_11 hR_11 OS_11 OS'_11 OT_11 OT'_11 Op_11 Pp_11 hbel_11 hB_12
            have Oy_12 := hO
            have ltOy := hO.ltB
            have Py_12 := hO'
            have ltPy := hO'.ltB
            clear hO hO' hD
            try clear hB
            have hbx := blk_new w12 #[Value.bool (qsg (fq hi) 0), Value.slice ya yn yc, Value.slice yb ym yd] 27
            have hbB := (Below.refl w12.heap.size w12).alloc (Nat.le_refl _) (.cells #[Value.bool (qsg (fq hi) 0), Value.slice ya yn yc, Value.slice yb ym yd] 27)
            have hltB := hbx.lt
            have hB_13 : Below w12.heap.size w12 (w12.alloc (.cells #[Value.bool (qsg (fq hi) 0), Value.slice ya yn yc, Value.slice yb ym yd] 27)) := hbB
            have R_13 := R_12.next hB_13
            have cR_13_0 : _ = some (Value.bool s) := R_13.cell 0
            have cR_13_1 : _ = some (Value.slice a n c) := R_13.cell 1
            have cR_13_2 : _ = some (Value.slice b m d) := R_13.cell 2
            have S_13 := S_12.next hB_13
            have cS_13_0 : _ = some (Value.bool (decide ((p1).num < 0))) := S_13.cell 0
            have cS_13_1 : _ = some (Value.slice Sa Sn Sc) := S_13.cell 1
            have cS_13_2 : _ = some (Value.slice Sb Sm Sd) := S_13.cell 2
            have T_13 := T_12.next hB_13
            have cT_13_0 : _ = some (Value.bool (decide ((p2).num < 0))) := T_13.cell 0
            have cT_13_1 : _ = some (Value.slice Ta Tn Tc) := T_13.cell 1
            have cT_13_2 : _ = some (Value.slice Tb Tm Td) := T_13.cell 2
            have A_13 := A_12.next hB_13
            have cA_13_0 : _ = some (Value.bool (qsg (fq lo) 0)) := A_13.cell 0
            have cA_13_1 : _ = some (Value.slice pa pn pc) := A_13.cell 1
            have cA_13_2 : _ = some (Value.slice pb pm pd) := A_13.cell 2
            have GL_13 := GL_12.below hB_13
            have hR_13 := hR_12.below hB_13
            have OS_13 := OS_12.below hB_13
            have OS'_13 := OS'_12.below hB_13
            have OT_13 := OT_12.below hB_13
            have OT'_13 := OT'_12.below hB_13
            have Op_13 := Op_12.below hB_13
            have Pp_13 := Pp_12.below hB_13
            have Oy_13 := Oy_12.below hB_13
            have Py_13 := Py_12.below hB_13
            have hbel_13 := hbel_12.next hB_13
            have hsz_13 := hB_13.size
            clear hB_13
            have B_13 := hbx
            clear hbx hbB
            have cB_13_0 : _ = some (Value.bool (qsg (fq hi) 0)) := B_13.cell 0
            have cB_13_1 : _ = some (Value.slice ya yn yc) := B_13.cell 1
            have cB_13_2 : _ = some (Value.slice yb ym yd) := B_13.cell 2
            go_wp2_with fail
            clear R_12 cR_12_0 cR_12_1 cR_12_2 S_12 cS_12_0 cS_12_1 cS_12_2 T_12 cT_12_0 cT_12_1 cT_12_2 A_12 cA_12_0 cA_12_1 cA_12_2 GL_12 hR_12 OS_12 OS'_12 OT_12 OT'_12 Op_12 Pp_12 Oy_12 Py_12 hbel_12
            generalize (w12.alloc (.cells #[Value.bool (qsg (fq hi) 0), Value.slice ya yn yc, Value.slice yb ym yd] 27)) = v13 at *
            go_wp2_with fail
            refine (cmp_r hC1h.out (Op_13.rdQ Pp_13 hql.out) (by omega) hR_13 (by omega)).mono ?_
            rintro e w14 ⟨rfl, hB⟩
            have hB_14 : Below v13.heap.size v13 w14 := (bl.next hB)
            have R_14 := R_13.next hB_14
            have cR_14_0 : _ = some (Value.bool s) := R_14.cell 0
            have cR_14_1 : _ = some (Value.slice a n c) := R_14.cell 1
            have cR_14_2 : _ = some (Value.slice b m d) := R_14.cell 2
            have S_14 := S_13.next hB_14
            have cS_14_0 : _ = some (Value.bool (decide ((p1).num < 0))) := S_14.cell 0
            have cS_14_1 : _ = some (Value.slice Sa Sn Sc) := S_14.cell 1
            have cS_14_2 : _ = some (Value.slice Sb Sm Sd) := S_14.cell 2
            have T_14 := T_13.next hB_14
            have cT_14_0 : _ = some (Value.bool (decide ((p2).num < 0))) := T_14.cell 0
            have cT_14_1 : _ = some (Value.slice Ta Tn Tc) := T_14.cell 1
            have cT_14_2 : _ = some (Value.slice Tb Tm Td) := T_14.cell 2
            have A_14 := A_13.next hB_14
            have cA_14_0 : _ = some (Value.bool (qsg (fq lo) 0)) := A_14.cell 0
            have cA_14_1 : _ = some (Value.slice pa pn pc) := A_14.cell 1
            have cA_14_2 : _ = some (Value.slice pb pm pd) := A_14.cell 2
            have B_14 := B_13.next hB_14
            have cB_14_0 : _ = some (Value.bool (qsg (fq hi) 0)) := B_14.cell 0
            have cB_14_1 : _ = some (Value.slice ya yn yc) := B_14.cell 1
            have cB_14_2 : _ = some (Value.slice yb ym yd) := B_14.cell 2
            have GL_14 := GL_13.below hB_14
            have hR_14 := hR_13.below hB_14
            have OS_14 := OS_13.below hB_14
            have OS'_14 := OS'_13.below hB_14
            have OT_14 := OT_13.below hB_14
            have OT'_14 := OT'_13.below hB_14
            have Op_14 := Op_13.below hB_14
            have Pp_14 := Pp_13.below hB_14
            have Oy_14 := Oy_13.below hB_14
            have Py_14 := Py_13.below hB_14
            have hbel_14 := hbel_13.next hB_14
            have hsz_14 := hB_14.size
            clear R_13 cR_13_0 cR_13_1 cR_13_2 S_13 cS_13_0 cS_13_1 cS_13_2 T_13 cT_13_0 cT_13_1 cT_13_2 A_13 cA_13_0 cA_13_1 cA_13_2 B_13 cB_13_0 cB_13_1 cB_13_2 GL_13 hR_13 OS_13 OS'_13 OT_13 OT'_13 Op_13 Pp_13 Oy_13 Py_13 hbel_13 hB_14
            try clear hB
            go_wp2_with fail
            refine (cmp_r hC2h.out hR_14 (by omega) (Oy_14.rdQ Py_14 hqr.out) (by omega)).mono ?_
            rintro e w15 ⟨rfl, hB⟩
            have hB_15 : Below w14.heap.size w14 w15 := (bl.next hB)
            have R_15 := R_14.next hB_15
            have cR_15_0 : _ = some (Value.bool s) := R_15.cell 0
            have cR_15_1 : _ = some (Value.slice a n c) := R_15.cell 1
            have cR_15_2 : _ = some (Value.slice b m d) := R_15.cell 2
            have S_15 := S_14.next hB_15
            have cS_15_0 : _ = some (Value.bool (decide ((p1).num < 0))) := S_15.cell 0
            have cS_15_1 : _ = some (Value.slice Sa Sn Sc) := S_15.cell 1
            have cS_15_2 : _ = some (Value.slice Sb Sm Sd) := S_15.cell 2
            have T_15 := T_14.next hB_15
            have cT_15_0 : _ = some (Value.bool (decide ((p2).num < 0))) := T_15.cell 0
            have cT_15_1 : _ = some (Value.slice Ta Tn Tc) := T_15.cell 1
            have cT_15_2 : _ = some (Value.slice Tb Tm Td) := T_15.cell 2
            have A_15 := A_14.next hB_15
            have cA_15_0 : _ = some (Value.bool (qsg (fq lo) 0)) := A_15.cell 0
            have cA_15_1 : _ = some (Value.slice pa pn pc) := A_15.cell 1
            have cA_15_2 : _ = some (Value.slice pb pm pd) := A_15.cell 2
            have B_15 := B_14.next hB_15
            have cB_15_0 : _ = some (Value.bool (qsg (fq hi) 0)) := B_15.cell 0
            have cB_15_1 : _ = some (Value.slice ya yn yc) := B_15.cell 1
            have cB_15_2 : _ = some (Value.slice yb ym yd) := B_15.cell 2
            have GL_15 := GL_14.below hB_15
            have hR_15 := hR_14.below hB_15
            have OS_15 := OS_14.below hB_15
            have OS'_15 := OS'_14.below hB_15
            have OT_15 := OT_14.below hB_15
            have OT'_15 := OT'_14.below hB_15
            have Op_15 := Op_14.below hB_15
            have Pp_15 := Pp_14.below hB_15
            have Oy_15 := Oy_14.below hB_15
            have Py_15 := Py_14.below hB_15
            have hbel_15 := hbel_14.next hB_15
            have hsz_15 := hB_15.size
            clear R_14 cR_14_0 cR_14_1 cR_14_2 S_14 cS_14_0 cS_14_1 cS_14_2 T_14 cT_14_0 cT_14_1 cT_14_2 A_14 cA_14_0 cA_14_1 cA_14_2 B_14 cB_14_0 cB_14_1 cB_14_2 GL_14 hR_14 OS_14 OS'_14 OT_14 OT'_14 Op_14 Pp_14 Oy_14 Py_14 hbel_14 hB_15
            try clear hB
            go_wp2_with fail
            refine (cmp_r hD1h.out (OS_15.rdQ OS'_15 hs1.out) (by omega) (OT_15.rdQ OT'_15 hs2.out) (by omega)).mono ?_
            rintro e w16 ⟨rfl, hB⟩
            have hB_16 : Below w15.heap.size w15 w16 := (bl.next hB)
            have R_16 := R_15.next hB_16
            have cR_16_0 : _ = some (Value.bool s) := R_16.cell 0
            have cR_16_1 : _ = some (Value.slice a n c) := R_16.cell 1
            have cR_16_2 : _ = some (Value.slice b m d) := R_16.cell 2
            have S_16 := S_15.next hB_16
            have cS_16_0 : _ = some (Value.bool (decide ((p1).num < 0))) := S_16.cell 0
            have cS_16_1 : _ = some (Value.slice Sa Sn Sc) := S_16.cell 1
            have cS_16_2 : _ = some (Value.slice Sb Sm Sd) := S_16.cell 2
            have T_16 := T_15.next hB_16
            have cT_16_0 : _ = some (Value.bool (decide ((p2).num < 0))) := T_16.cell 0
            have cT_16_1 : _ = some (Value.slice Ta Tn Tc) := T_16.cell 1
            have cT_16_2 : _ = some (Value.slice Tb Tm Td) := T_16.cell 2
            have A_16 := A_15.next hB_16
            have cA_16_0 : _ = some (Value.bool (qsg (fq lo) 0)) := A_16.cell 0
            have cA_16_1 : _ = some (Value.slice pa pn pc) := A_16.cell 1
            have cA_16_2 : _ = some (Value.slice pb pm pd) := A_16.cell 2
            have B_16 := B_15.next hB_16
            have cB_16_0 : _ = some (Value.bool (qsg (fq hi) 0)) := B_16.cell 0
            have cB_16_1 : _ = some (Value.slice ya yn yc) := B_16.cell 1
            have cB_16_2 : _ = some (Value.slice yb ym yd) := B_16.cell 2
            have GL_16 := GL_15.below hB_16
            have hR_16 := hR_15.below hB_16
            have OS_16 := OS_15.below hB_16
            have OS'_16 := OS'_15.below hB_16
            have OT_16 := OT_15.below hB_16
            have OT'_16 := OT'_15.below hB_16
            have Op_16 := Op_15.below hB_16
            have Pp_16 := Pp_15.below hB_16
            have Oy_16 := Oy_15.below hB_16
            have Py_16 := Py_15.below hB_16
            have hbel_16 := hbel_15.next hB_16
            have hsz_16 := hB_16.size
            clear R_15 cR_15_0 cR_15_1 cR_15_2 S_15 cS_15_0 cS_15_1 cS_15_2 T_15 cT_15_0 cT_15_1 cT_15_2 A_15 cA_15_0 cA_15_1 cA_15_2 B_15 cB_15_0 cB_15_1 cB_15_2 GL_15 hR_15 OS_15 OS'_15 OT_15 OT'_15 Op_15 Pp_15 Oy_15 Py_15 hbel_15 hB_16
            try clear hB
            by_cases hf1 : fr f < 9218868437227405312
            · have HF := hid (fun w => near64 (w := w) f hfh.out)
              rw [show fe f = 0 from fe_fin hf1] at HF
              have HB := hid (fun w (g : Lng w) a n c b m d (ha : Rd w a n c (qnl (fq f) 0)) (hb : Rd w b m d (qdl (fq f) 0)) => near_back g hfh.out hf1 ha hb)
              have hfe := nz_eq hf1
              clear hf1
              go_wp2_with fail
              refine (HF.out _).mono ?_
              rintro e w17 ⟨za, zn, zc, zb, zm, zd, rfl, hO, hO', hD, hB⟩
              have hB_17 : Below w16.heap.size w16 w17 := (bl.next hB)
              have R_17 := R_16.next hB_17
              have cR_17_0 : _ = some (Value.bool s) := R_17.cell 0
              have cR_17_1 : _ = some (Value.slice a n c) := R_17.cell 1
              have cR_17_2 : _ = some (Value.slice b m d) := R_17.cell 2
              have S_17 := S_16.next hB_17
              have cS_17_0 : _ = some (Value.bool (decide ((p1).num < 0))) := S_17.cell 0
              have cS_17_1 : _ = some (Value.slice Sa Sn Sc) := S_17.cell 1
              have cS_17_2 : _ = some (Value.slice Sb Sm Sd) := S_17.cell 2
              have T_17 := T_16.next hB_17
              have cT_17_0 : _ = some (Value.bool (decide ((p2).num < 0))) := T_17.cell 0
              have cT_17_1 : _ = some (Value.slice Ta Tn Tc) := T_17.cell 1
              have cT_17_2 : _ = some (Value.slice Tb Tm Td) := T_17.cell 2
              have A_17 := A_16.next hB_17
              have cA_17_0 : _ = some (Value.bool (qsg (fq lo) 0)) := A_17.cell 0
              have cA_17_1 : _ = some (Value.slice pa pn pc) := A_17.cell 1
              have cA_17_2 : _ = some (Value.slice pb pm pd) := A_17.cell 2
              have B_17 := B_16.next hB_17
              have cB_17_0 : _ = some (Value.bool (qsg (fq hi) 0)) := B_17.cell 0
              have cB_17_1 : _ = some (Value.slice ya yn yc) := B_17.cell 1
              have cB_17_2 : _ = some (Value.slice yb ym yd) := B_17.cell 2
              have GL_17 := GL_16.below hB_17
              have hR_17 := hR_16.below hB_17
              have OS_17 := OS_16.below hB_17
              have OS'_17 := OS'_16.below hB_17
              have OT_17 := OT_16.below hB_17
              have OT'_17 := OT'_16.below hB_17
              have Op_17 := Op_16.below hB_17
              have Pp_17 := Pp_16.below hB_17
              have Oy_17 := Oy_16.below hB_17
              have Py_17 := Py_16.below hB_17
              have hbel_17 := hbel_16.next hB_17
              have hsz_17 := hB_17.size
              clear R_16 cR_16_0 cR_16_1 cR_16_2 S_16 cS_16_0 cS_16_1 cS_16_2 T_16 cT_16_0 cT_16_1 cT_16_2 A_16 cA_16_0 cA_16_1 cA_16_2 B_16 cB_16_0 cB_16_1 cB_16_2 GL_16 hR_16 OS_16 OS'_16 OT_16 OT'_16 Op_16 Pp_16 Oy_16 Py_16 hbel_16 hB_17
              have Oz_17 := hO
              have ltOz := hO.ltB
              have Pz_17 := hO'
              have ltPz := hO'.ltB
              clear hO hO' hD
              try clear hB
              have hbx := blk_new w17 #[Value.bool (qsg (fq f) 0), Value.slice za zn zc, Value.slice zb zm zd] 27
              have hbB := (Below.refl w17.heap.size w17).alloc (Nat.le_refl _) (.cells #[Value.bool (qsg (fq f) 0), Value.slice za zn zc, Value.slice zb zm zd] 27)
              have hltZ := hbx.lt
              have hB_18 : Below w17.heap.size w17 (w17.alloc (.cells #[Value.bool (qsg (fq f) 0), Value.slice za zn zc, Value.slice zb zm zd] 27)) := hbB
              have R_18 := R_17.next hB_18
              have cR_18_0 : _ = some (Value.bool s) := R_18.cell 0
              have cR_18_1 : _ = some (Value.slice a n c) := R_18.cell 1
              have cR_18_2 : _ = some (Value.slice b m d) := R_18.cell 2
              have S_18 := S_17.next hB_18
              have cS_18_0 : _ = some (Value.bool (decide ((p1).num < 0))) := S_18.cell 0
              have cS_18_1 : _ = some (Value.slice Sa Sn Sc) := S_18.cell 1
              have cS_18_2 : _ = some (Value.slice Sb Sm Sd) := S_18.cell 2
              have T_18 := T_17.next hB_18
              have cT_18_0 : _ = some (Value.bool (decide ((p2).num < 0))) := T_18.cell 0
              have cT_18_1 : _ = some (Value.slice Ta Tn Tc) := T_18.cell 1
              have cT_18_2 : _ = some (Value.slice Tb Tm Td) := T_18.cell 2
              have A_18 := A_17.next hB_18
              have cA_18_0 : _ = some (Value.bool (qsg (fq lo) 0)) := A_18.cell 0
              have cA_18_1 : _ = some (Value.slice pa pn pc) := A_18.cell 1
              have cA_18_2 : _ = some (Value.slice pb pm pd) := A_18.cell 2
              have B_18 := B_17.next hB_18
              have cB_18_0 : _ = some (Value.bool (qsg (fq hi) 0)) := B_18.cell 0
              have cB_18_1 : _ = some (Value.slice ya yn yc) := B_18.cell 1
              have cB_18_2 : _ = some (Value.slice yb ym yd) := B_18.cell 2
              have GL_18 := GL_17.below hB_18
              have hR_18 := hR_17.below hB_18
              have OS_18 := OS_17.below hB_18
              have OS'_18 := OS'_17.below hB_18
              have OT_18 := OT_17.below hB_18
              have OT'_18 := OT'_17.below hB_18
              have Op_18 := Op_17.below hB_18
              have Pp_18 := Pp_17.below hB_18
              have Oy_18 := Oy_17.below hB_18
              have Py_18 := Py_17.below hB_18
              have Oz_18 := Oz_17.below hB_18
              have Pz_18 := Pz_17.below hB_18
              have hbel_18 := hbel_17.next hB_18
              have hsz_18 := hB_18.size
              clear hB_18
              have Z_18 := hbx
              clear hbx hbB
              have cZ_18_0 : _ = some (Value.bool (qsg (fq f) 0)) := Z_18.cell 0
              have cZ_18_1 : _ = some (Value.slice za zn zc) := Z_18.cell 1
              have cZ_18_2 : _ = some (Value.slice zb zm zd) := Z_18.cell 2
              go_wp2_with fail
              clear R_17 cR_17_0 cR_17_1 cR_17_2 S_17 cS_17_0 cS_17_1 cS_17_2 T_17 cT_17_0 cT_17_1 cT_17_2 A_17 cA_17_0 cA_17_1 cA_17_2 B_17 cB_17_0 cB_17_1 cB_17_2 GL_17 hR_17 OS_17 OS'_17 OT_17 OT'_17 Op_17 Pp_17 Oy_17 Py_17 Oz_17 Pz_17 hbel_17
              generalize (w17.alloc (.cells #[Value.bool (qsg (fq f) 0), Value.slice za zn zc, Value.slice zb zm zd] 27)) = v18 at *
              go_wp2_with fail
              refine (HB.out _ GL_18 _ _ _ _ _ _ Oz_18.rd Pz_18.rd).mono ?_
              rintro e w19 ⟨rfl, hB⟩
              have hB_19 : Below v18.heap.size v18 w19 := (bl.next hB)
              have R_19 := R_18.next hB_19
              have cR_19_0 : _ = some (Value.bool s) := R_19.cell 0
              have cR_19_1 : _ = some (Value.slice a n c) := R_19.cell 1
              have cR_19_2 : _ = some (Value.slice b m d) := R_19.cell 2
              have S_19 := S_18.next hB_19
              have cS_19_0 : _ = some (Value.bool (decide ((p1).num < 0))) := S_19.cell 0
              have cS_19_1 : _ = some (Value.slice Sa Sn Sc) := S_19.cell 1
              have cS_19_2 : _ = some (Value.slice Sb Sm Sd) := S_19.cell 2
              have T_19 := T_18.next hB_19
              have cT_19_0 : _ = some (Value.bool (decide ((p2).num < 0))) := T_19.cell 0
              have cT_19_1 : _ = some (Value.slice Ta Tn Tc) := T_19.cell 1
              have cT_19_2 : _ = some (Value.slice Tb Tm Td) := T_19.cell 2
              have A_19 := A_18.next hB_19
              have cA_19_0 : _ = some (Value.bool (qsg (fq lo) 0)) := A_19.cell 0
              have cA_19_1 : _ = some (Value.slice pa pn pc) := A_19.cell 1
              have cA_19_2 : _ = some (Value.slice pb pm pd) := A_19.cell 2
              have B_19 := B_18.next hB_19
              have cB_19_0 : _ = some (Value.bool (qsg (fq hi) 0)) := B_19.cell 0
              have cB_19_1 : _ = some (Value.slice ya yn yc) := B_19.cell 1
              have cB_19_2 : _ = some (Value.slice yb ym yd) := B_19.cell 2
              have Z_19 := Z_18.next hB_19
              have cZ_19_0 : _ = some (Value.bool (qsg (fq f) 0)) := Z_19.cell 0
              have cZ_19_1 : _ = some (Value.slice za zn zc) := Z_19.cell 1
              have cZ_19_2 : _ = some (Value.slice zb zm zd) := Z_19.cell 2
              have GL_19 := GL_18.below hB_19
              have hR_19 := hR_18.below hB_19
              have OS_19 := OS_18.below hB_19
              have OS'_19 := OS'_18.below hB_19
              have OT_19 := OT_18.below hB_19
              have OT'_19 := OT'_18.below hB_19
              have Op_19 := Op_18.below hB_19
              have Pp_19 := Pp_18.below hB_19
              have Oy_19 := Oy_18.below hB_19
              have Py_19 := Py_18.below hB_19
              have Oz_19 := Oz_18.below hB_19
              have Pz_19 := Pz_18.below hB_19
              have hbel_19 := hbel_18.next hB_19
              have hsz_19 := hB_19.size
              clear R_18 cR_18_0 cR_18_1 cR_18_2 S_18 cS_18_0 cS_18_1 cS_18_2 T_18 cT_18_0 cT_18_1 cT_18_2 A_18 cA_18_0 cA_18_1 cA_18_2 B_18 cB_18_0 cB_18_1 cB_18_2 Z_18 cZ_18_0 cZ_18_1 cZ_18_2 GL_18 hR_18 OS_18 OS'_18 OT_18 OT'_18 Op_18 Pp_18 Oy_18 Py_18 Oz_18 Pz_18 hbel_18 hB_19
              try clear hB
              go_wp2
              go_ret
              exact ⟨rfl, hbel_19⟩
            · have HF := hid (fun w => near64 (w := w) f hfh.out)
              rw [show fe f = 13 from fe_nf hf1] at HF
              by_cases hf2 : fr f = 9218868437227405312
              · have hff : (FloatKind.f64.format.order f f != some .eq) = false := by rw [fcmp_self]; unfold fnan; rw [hf2]; rfl
                have HI := hid (fun w => isinf_i (w := w) hfh.out hf2)
                clear hf1 hf2
                go_wp2_with fail
                refine (HF.out _).mono ?_
                rintro e w17 ⟨za, zn, zc, zb, zm, zd, rfl, hO, hO', hD, hB⟩
                have hB_17 : Below w16.heap.size w16 w17 := (bl.next hB)
                have R_17 := R_16.next hB_17
                have cR_17_0 : _ = some (Value.bool s) := R_17.cell 0
                have cR_17_1 : _ = some (Value.slice a n c) := R_17.cell 1
                have cR_17_2 : _ = some (Value.slice b m d) := R_17.cell 2
                have S_17 := S_16.next hB_17
                have cS_17_0 : _ = some (Value.bool (decide ((p1).num < 0))) := S_17.cell 0
                have cS_17_1 : _ = some (Value.slice Sa Sn Sc) := S_17.cell 1
                have cS_17_2 : _ = some (Value.slice Sb Sm Sd) := S_17.cell 2
                have T_17 := T_16.next hB_17
                have cT_17_0 : _ = some (Value.bool (decide ((p2).num < 0))) := T_17.cell 0
                have cT_17_1 : _ = some (Value.slice Ta Tn Tc) := T_17.cell 1
                have cT_17_2 : _ = some (Value.slice Tb Tm Td) := T_17.cell 2
                have A_17 := A_16.next hB_17
                have cA_17_0 : _ = some (Value.bool (qsg (fq lo) 0)) := A_17.cell 0
                have cA_17_1 : _ = some (Value.slice pa pn pc) := A_17.cell 1
                have cA_17_2 : _ = some (Value.slice pb pm pd) := A_17.cell 2
                have B_17 := B_16.next hB_17
                have cB_17_0 : _ = some (Value.bool (qsg (fq hi) 0)) := B_17.cell 0
                have cB_17_1 : _ = some (Value.slice ya yn yc) := B_17.cell 1
                have cB_17_2 : _ = some (Value.slice yb ym yd) := B_17.cell 2
                have GL_17 := GL_16.below hB_17
                have hR_17 := hR_16.below hB_17
                have OS_17 := OS_16.below hB_17
                have OS'_17 := OS'_16.below hB_17
                have OT_17 := OT_16.below hB_17
                have OT'_17 := OT'_16.below hB_17
                have Op_17 := Op_16.below hB_17
                have Pp_17 := Pp_16.below hB_17
                have Oy_17 := Oy_16.below hB_17
                have Py_17 := Py_16.below hB_17
                have hbel_17 := hbel_16.next hB_17
                have hsz_17 := hB_17.size
                clear R_16 cR_16_0 cR_16_1 cR_16_2 S_16 cS_16_0 cS_16_1 cS_16_2 T_16 cT_16_0 cT_16_1 cT_16_2 A_16 cA_16_0 cA_16_1 cA_16_2 B_16 cB_16_0 cB_16_1 cB_16_2 GL_16 hR_16 OS_16 OS'_16 OT_16 OT'_16 Op_16 Pp_16 Oy_16 Py_16 hbel_16 hB_17
                have Oz_17 := hO
                have ltOz := hO.ltB
                have Pz_17 := hO'
                have ltPz := hO'.ltB
                clear hO hO' hD
                try clear hB
                have hbx := blk_new w17 #[Value.bool (qsg (fq f) 13), Value.slice za zn zc, Value.slice zb zm zd] 27
                have hbB := (Below.refl w17.heap.size w17).alloc (Nat.le_refl _) (.cells #[Value.bool (qsg (fq f) 13), Value.slice za zn zc, Value.slice zb zm zd] 27)
                have hltZ := hbx.lt
                have hB_18 : Below w17.heap.size w17 (w17.alloc (.cells #[Value.bool (qsg (fq f) 13), Value.slice za zn zc, Value.slice zb zm zd] 27)) := hbB
                have R_18 := R_17.next hB_18
                have cR_18_0 : _ = some (Value.bool s) := R_18.cell 0
                have cR_18_1 : _ = some (Value.slice a n c) := R_18.cell 1
                have cR_18_2 : _ = some (Value.slice b m d) := R_18.cell 2
                have S_18 := S_17.next hB_18
                have cS_18_0 : _ = some (Value.bool (decide ((p1).num < 0))) := S_18.cell 0
                have cS_18_1 : _ = some (Value.slice Sa Sn Sc) := S_18.cell 1
                have cS_18_2 : _ = some (Value.slice Sb Sm Sd) := S_18.cell 2
                have T_18 := T_17.next hB_18
                have cT_18_0 : _ = some (Value.bool (decide ((p2).num < 0))) := T_18.cell 0
                have cT_18_1 : _ = some (Value.slice Ta Tn Tc) := T_18.cell 1
                have cT_18_2 : _ = some (Value.slice Tb Tm Td) := T_18.cell 2
                have A_18 := A_17.next hB_18
                have cA_18_0 : _ = some (Value.bool (qsg (fq lo) 0)) := A_18.cell 0
                have cA_18_1 : _ = some (Value.slice pa pn pc) := A_18.cell 1
                have cA_18_2 : _ = some (Value.slice pb pm pd) := A_18.cell 2
                have B_18 := B_17.next hB_18
                have cB_18_0 : _ = some (Value.bool (qsg (fq hi) 0)) := B_18.cell 0
                have cB_18_1 : _ = some (Value.slice ya yn yc) := B_18.cell 1
                have cB_18_2 : _ = some (Value.slice yb ym yd) := B_18.cell 2
                have GL_18 := GL_17.below hB_18
                have hR_18 := hR_17.below hB_18
                have OS_18 := OS_17.below hB_18
                have OS'_18 := OS'_17.below hB_18
                have OT_18 := OT_17.below hB_18
                have OT'_18 := OT'_17.below hB_18
                have Op_18 := Op_17.below hB_18
                have Pp_18 := Pp_17.below hB_18
                have Oy_18 := Oy_17.below hB_18
                have Py_18 := Py_17.below hB_18
                have Oz_18 := Oz_17.below hB_18
                have Pz_18 := Pz_17.below hB_18
                have hbel_18 := hbel_17.next hB_18
                have hsz_18 := hB_18.size
                clear hB_18
                have Z_18 := hbx
                clear hbx hbB
                have cZ_18_0 : _ = some (Value.bool (qsg (fq f) 13)) := Z_18.cell 0
                have cZ_18_1 : _ = some (Value.slice za zn zc) := Z_18.cell 1
                have cZ_18_2 : _ = some (Value.slice zb zm zd) := Z_18.cell 2
                go_wp2_with fail
                clear R_17 cR_17_0 cR_17_1 cR_17_2 S_17 cS_17_0 cS_17_1 cS_17_2 T_17 cT_17_0 cT_17_1 cT_17_2 A_17 cA_17_0 cA_17_1 cA_17_2 B_17 cB_17_0 cB_17_1 cB_17_2 GL_17 hR_17 OS_17 OS'_17 OT_17 OT'_17 Op_17 Pp_17 Oy_17 Py_17 Oz_17 Pz_17 hbel_17
                generalize (w17.alloc (.cells #[Value.bool (qsg (fq f) 13), Value.slice za zn zc, Value.slice zb zm zd] 27)) = v18 at *
                go_wp2_with fail
                refine (HI.out _).mono ?_
                rintro e w19 ⟨rfl, hB⟩
                have hB_19 : Below v18.heap.size v18 w19 := (bl.next hB)
                have R_19 := R_18.next hB_19
                have cR_19_0 : _ = some (Value.bool s) := R_19.cell 0
                have cR_19_1 : _ = some (Value.slice a n c) := R_19.cell 1
                have cR_19_2 : _ = some (Value.slice b m d) := R_19.cell 2
                have S_19 := S_18.next hB_19
                have cS_19_0 : _ = some (Value.bool (decide ((p1).num < 0))) := S_19.cell 0
                have cS_19_1 : _ = some (Value.slice Sa Sn Sc) := S_19.cell 1
                have cS_19_2 : _ = some (Value.slice Sb Sm Sd) := S_19.cell 2
                have T_19 := T_18.next hB_19
                have cT_19_0 : _ = some (Value.bool (decide ((p2).num < 0))) := T_19.cell 0
                have cT_19_1 : _ = some (Value.slice Ta Tn Tc) := T_19.cell 1
                have cT_19_2 : _ = some (Value.slice Tb Tm Td) := T_19.cell 2
                have A_19 := A_18.next hB_19
                have cA_19_0 : _ = some (Value.bool (qsg (fq lo) 0)) := A_19.cell 0
                have cA_19_1 : _ = some (Value.slice pa pn pc) := A_19.cell 1
                have cA_19_2 : _ = some (Value.slice pb pm pd) := A_19.cell 2
                have B_19 := B_18.next hB_19
                have cB_19_0 : _ = some (Value.bool (qsg (fq hi) 0)) := B_19.cell 0
                have cB_19_1 : _ = some (Value.slice ya yn yc) := B_19.cell 1
                have cB_19_2 : _ = some (Value.slice yb ym yd) := B_19.cell 2
                have Z_19 := Z_18.next hB_19
                have cZ_19_0 : _ = some (Value.bool (qsg (fq f) 13)) := Z_19.cell 0
                have cZ_19_1 : _ = some (Value.slice za zn zc) := Z_19.cell 1
                have cZ_19_2 : _ = some (Value.slice zb zm zd) := Z_19.cell 2
                have GL_19 := GL_18.below hB_19
                have hR_19 := hR_18.below hB_19
                have OS_19 := OS_18.below hB_19
                have OS'_19 := OS'_18.below hB_19
                have OT_19 := OT_18.below hB_19
                have OT'_19 := OT'_18.below hB_19
                have Op_19 := Op_18.below hB_19
                have Pp_19 := Pp_18.below hB_19
                have Oy_19 := Oy_18.below hB_19
                have Py_19 := Py_18.below hB_19
                have Oz_19 := Oz_18.below hB_19
                have Pz_19 := Pz_18.below hB_19
                have hbel_19 := hbel_18.next hB_19
                have hsz_19 := hB_19.size
                clear R_18 cR_18_0 cR_18_1 cR_18_2 S_18 cS_18_0 cS_18_1 cS_18_2 T_18 cT_18_0 cT_18_1 cT_18_2 A_18 cA_18_0 cA_18_1 cA_18_2 B_18 cB_18_0 cB_18_1 cB_18_2 Z_18 cZ_18_0 cZ_18_1 cZ_18_2 GL_18 hR_18 OS_18 OS'_18 OT_18 OT'_18 Op_18 Pp_18 Oy_18 Py_18 Oz_18 Pz_18 hbel_18 hB_19
                try clear hB
                go_wp2
                go_ret
                exact ⟨rfl, hbel_19⟩
              · have hff : (FloatKind.f64.format.order f f != some .eq) = true := by rw [fcmp_self]; exact decide_eq_true (by omega)
                clear hf1 hf2
                go_wp2_with fail
                refine (HF.out _).mono ?_
                rintro e w17 ⟨za, zn, zc, zb, zm, zd, rfl, hO, hO', hD, hB⟩
                have hB_17 : Below w16.heap.size w16 w17 := (bl.next hB)
                have R_17 := R_16.next hB_17
                have cR_17_0 : _ = some (Value.bool s) := R_17.cell 0
                have cR_17_1 : _ = some (Value.slice a n c) := R_17.cell 1
                have cR_17_2 : _ = some (Value.slice b m d) := R_17.cell 2
                have S_17 := S_16.next hB_17
                have cS_17_0 : _ = some (Value.bool (decide ((p1).num < 0))) := S_17.cell 0
                have cS_17_1 : _ = some (Value.slice Sa Sn Sc) := S_17.cell 1
                have cS_17_2 : _ = some (Value.slice Sb Sm Sd) := S_17.cell 2
                have T_17 := T_16.next hB_17
                have cT_17_0 : _ = some (Value.bool (decide ((p2).num < 0))) := T_17.cell 0
                have cT_17_1 : _ = some (Value.slice Ta Tn Tc) := T_17.cell 1
                have cT_17_2 : _ = some (Value.slice Tb Tm Td) := T_17.cell 2
                have A_17 := A_16.next hB_17
                have cA_17_0 : _ = some (Value.bool (qsg (fq lo) 0)) := A_17.cell 0
                have cA_17_1 : _ = some (Value.slice pa pn pc) := A_17.cell 1
                have cA_17_2 : _ = some (Value.slice pb pm pd) := A_17.cell 2
                have B_17 := B_16.next hB_17
                have cB_17_0 : _ = some (Value.bool (qsg (fq hi) 0)) := B_17.cell 0
                have cB_17_1 : _ = some (Value.slice ya yn yc) := B_17.cell 1
                have cB_17_2 : _ = some (Value.slice yb ym yd) := B_17.cell 2
                have GL_17 := GL_16.below hB_17
                have hR_17 := hR_16.below hB_17
                have OS_17 := OS_16.below hB_17
                have OS'_17 := OS'_16.below hB_17
                have OT_17 := OT_16.below hB_17
                have OT'_17 := OT'_16.below hB_17
                have Op_17 := Op_16.below hB_17
                have Pp_17 := Pp_16.below hB_17
                have Oy_17 := Oy_16.below hB_17
                have Py_17 := Py_16.below hB_17
                have hbel_17 := hbel_16.next hB_17
                have hsz_17 := hB_17.size
                clear R_16 cR_16_0 cR_16_1 cR_16_2 S_16 cS_16_0 cS_16_1 cS_16_2 T_16 cT_16_0 cT_16_1 cT_16_2 A_16 cA_16_0 cA_16_1 cA_16_2 B_16 cB_16_0 cB_16_1 cB_16_2 GL_16 hR_16 OS_16 OS'_16 OT_16 OT'_16 Op_16 Pp_16 Oy_16 Py_16 hbel_16 hB_17
                have Oz_17 := hO
                have ltOz := hO.ltB
                have Pz_17 := hO'
                have ltPz := hO'.ltB
                clear hO hO' hD
                try clear hB
                have hbx := blk_new w17 #[Value.bool (qsg (fq f) 13), Value.slice za zn zc, Value.slice zb zm zd] 27
                have hbB := (Below.refl w17.heap.size w17).alloc (Nat.le_refl _) (.cells #[Value.bool (qsg (fq f) 13), Value.slice za zn zc, Value.slice zb zm zd] 27)
                have hltZ := hbx.lt
                have hB_18 : Below w17.heap.size w17 (w17.alloc (.cells #[Value.bool (qsg (fq f) 13), Value.slice za zn zc, Value.slice zb zm zd] 27)) := hbB
                have R_18 := R_17.next hB_18
                have cR_18_0 : _ = some (Value.bool s) := R_18.cell 0
                have cR_18_1 : _ = some (Value.slice a n c) := R_18.cell 1
                have cR_18_2 : _ = some (Value.slice b m d) := R_18.cell 2
                have S_18 := S_17.next hB_18
                have cS_18_0 : _ = some (Value.bool (decide ((p1).num < 0))) := S_18.cell 0
                have cS_18_1 : _ = some (Value.slice Sa Sn Sc) := S_18.cell 1
                have cS_18_2 : _ = some (Value.slice Sb Sm Sd) := S_18.cell 2
                have T_18 := T_17.next hB_18
                have cT_18_0 : _ = some (Value.bool (decide ((p2).num < 0))) := T_18.cell 0
                have cT_18_1 : _ = some (Value.slice Ta Tn Tc) := T_18.cell 1
                have cT_18_2 : _ = some (Value.slice Tb Tm Td) := T_18.cell 2
                have A_18 := A_17.next hB_18
                have cA_18_0 : _ = some (Value.bool (qsg (fq lo) 0)) := A_18.cell 0
                have cA_18_1 : _ = some (Value.slice pa pn pc) := A_18.cell 1
                have cA_18_2 : _ = some (Value.slice pb pm pd) := A_18.cell 2
                have B_18 := B_17.next hB_18
                have cB_18_0 : _ = some (Value.bool (qsg (fq hi) 0)) := B_18.cell 0
                have cB_18_1 : _ = some (Value.slice ya yn yc) := B_18.cell 1
                have cB_18_2 : _ = some (Value.slice yb ym yd) := B_18.cell 2
                have GL_18 := GL_17.below hB_18
                have hR_18 := hR_17.below hB_18
                have OS_18 := OS_17.below hB_18
                have OS'_18 := OS'_17.below hB_18
                have OT_18 := OT_17.below hB_18
                have OT'_18 := OT'_17.below hB_18
                have Op_18 := Op_17.below hB_18
                have Pp_18 := Pp_17.below hB_18
                have Oy_18 := Oy_17.below hB_18
                have Py_18 := Py_17.below hB_18
                have Oz_18 := Oz_17.below hB_18
                have Pz_18 := Pz_17.below hB_18
                have hbel_18 := hbel_17.next hB_18
                have hsz_18 := hB_18.size
                clear hB_18
                have Z_18 := hbx
                clear hbx hbB
                have cZ_18_0 : _ = some (Value.bool (qsg (fq f) 13)) := Z_18.cell 0
                have cZ_18_1 : _ = some (Value.slice za zn zc) := Z_18.cell 1
                have cZ_18_2 : _ = some (Value.slice zb zm zd) := Z_18.cell 2
                go_wp2_with fail
                clear R_17 cR_17_0 cR_17_1 cR_17_2 S_17 cS_17_0 cS_17_1 cS_17_2 T_17 cT_17_0 cT_17_1 cT_17_2 A_17 cA_17_0 cA_17_1 cA_17_2 B_17 cB_17_0 cB_17_1 cB_17_2 GL_17 hR_17 OS_17 OS'_17 OT_17 OT'_17 Op_17 Pp_17 Oy_17 Py_17 Oz_17 Pz_17 hbel_17
                generalize (w17.alloc (.cells #[Value.bool (qsg (fq f) 13), Value.slice za zn zc, Value.slice zb zm zd] 27)) = v18 at *
                go_wp2
                go_ret
                exact ⟨rfl, hbel_18⟩
        · skip
          have HI1 := hid (fun w => isinf_b (w := w) hNA.out.ll fl)
          have HI2 := hid (fun w => isinf_i (w := w) hNA.out.lh (by have := hNA.out.nh; omega))
          clear hE hlt hX fl fh
          clear nl nh nx one le
          go_wp2_with fail
          refine (HZ.out _).mono ?_
          rintro e w6 ⟨rfl, hB⟩
          have hB_6 : Below w5.heap.size w5 w6 := (bl.next hB)
          have R_6 := R_5.next hB_6
          have cR_6_0 : _ = some (Value.bool s) := R_6.cell 0
          have cR_6_1 : _ = some (Value.slice a n c) := R_6.cell 1
          have cR_6_2 : _ = some (Value.slice b m d) := R_6.cell 2
          have GL_6 := GL_5.below hB_6
          have hR_6 := hR_5.below hB_6
          have hbel_6 := hbel_5.next hB_6
          have hsz_6 := hB_6.size
          clear R_5 cR_5_0 cR_5_1 cR_5_2 GL_5 hR_5 hbel_5 hB_6
          try clear hB
          go_wp2_with fail
          refine (HI1.out _).mono ?_
          rintro e w7 ⟨rfl, hB⟩
          have hB_7 : Below w6.heap.size w6 w7 := (bl.next hB)
          have R_7 := R_6.next hB_7
          have cR_7_0 : _ = some (Value.bool s) := R_7.cell 0
          have cR_7_1 : _ = some (Value.slice a n c) := R_7.cell 1
          have cR_7_2 : _ = some (Value.slice b m d) := R_7.cell 2
          have GL_7 := GL_6.below hB_7
          have hR_7 := hR_6.below hB_7
          have hbel_7 := hbel_6.next hB_7
          have hsz_7 := hB_7.size
          clear R_6 cR_6_0 cR_6_1 cR_6_2 GL_6 hR_6 hbel_6 hB_7
          try clear hB
          go_wp2_with fail
          refine (HI2.out _).mono ?_
          rintro e w8 ⟨rfl, hB⟩
          have hB_8 : Below w7.heap.size w7 w8 := (bl.next hB)
          have R_8 := R_7.next hB_8
          have cR_8_0 : _ = some (Value.bool s) := R_8.cell 0
          have cR_8_1 : _ = some (Value.slice a n c) := R_8.cell 1
          have cR_8_2 : _ = some (Value.slice b m d) := R_8.cell 2
          have GL_8 := GL_7.below hB_8
          have hR_8 := hR_7.below hB_8
          have hbel_8 := hbel_7.next hB_8
          have hsz_8 := hB_8.size
          clear R_7 cR_7_0 cR_7_1 cR_7_2 GL_7 hR_7 hbel_7 hB_8
          try clear hB
          by_cases hf1 : fr f < 9218868437227405312
          · have HF := hid (fun w => near64 (w := w) f hfh.out)
            rw [show fe f = 0 from fe_fin hf1] at HF
            have HB := hid (fun w (g : Lng w) a n c b m d (ha : Rd w a n c (qnl (fq f) 0)) (hb : Rd w b m d (qdl (fq f) 0)) => near_back g hfh.out hf1 ha hb)
            have hfe := nz_eq hf1
            clear hf1
            go_wp2_with fail
            refine (HF.out _).mono ?_
            rintro e w9 ⟨za, zn, zc, zb, zm, zd, rfl, hO, hO', hD, hB⟩
            have hB_9 : Below w8.heap.size w8 w9 := (bl.next hB)
            have R_9 := R_8.next hB_9
            have cR_9_0 : _ = some (Value.bool s) := R_9.cell 0
            have cR_9_1 : _ = some (Value.slice a n c) := R_9.cell 1
            have cR_9_2 : _ = some (Value.slice b m d) := R_9.cell 2
            have GL_9 := GL_8.below hB_9
            have hR_9 := hR_8.below hB_9
            have hbel_9 := hbel_8.next hB_9
            have hsz_9 := hB_9.size
            clear R_8 cR_8_0 cR_8_1 cR_8_2 GL_8 hR_8 hbel_8 hB_9
            have Oz_9 := hO
            have ltOz := hO.ltB
            have Pz_9 := hO'
            have ltPz := hO'.ltB
            clear hO hO' hD
            try clear hB
            have hbx := blk_new w9 #[Value.bool (qsg (fq f) 0), Value.slice za zn zc, Value.slice zb zm zd] 27
            have hbB := (Below.refl w9.heap.size w9).alloc (Nat.le_refl _) (.cells #[Value.bool (qsg (fq f) 0), Value.slice za zn zc, Value.slice zb zm zd] 27)
            have hltZ := hbx.lt
            have hB_10 : Below w9.heap.size w9 (w9.alloc (.cells #[Value.bool (qsg (fq f) 0), Value.slice za zn zc, Value.slice zb zm zd] 27)) := hbB
            have R_10 := R_9.next hB_10
            have cR_10_0 : _ = some (Value.bool s) := R_10.cell 0
            have cR_10_1 : _ = some (Value.slice a n c) := R_10.cell 1
            have cR_10_2 : _ = some (Value.slice b m d) := R_10.cell 2
            have GL_10 := GL_9.below hB_10
            have hR_10 := hR_9.below hB_10
            have Oz_10 := Oz_9.below hB_10
            have Pz_10 := Pz_9.below hB_10
            have hbel_10 := hbel_9.next hB_10
            have hsz_10 := hB_10.size
            clear hB_10
            have Z_10 := hbx
            clear hbx hbB
            have cZ_10_0 : _ = some (Value.bool (qsg (fq f) 0)) := Z_10.cell 0
            have cZ_10_1 : _ = some (Value.slice za zn zc) := Z_10.cell 1
            have cZ_10_2 : _ = some (Value.slice zb zm zd) := Z_10.cell 2
            go_wp2_with fail
            clear R_9 cR_9_0 cR_9_1 cR_9_2 GL_9 hR_9 Oz_9 Pz_9 hbel_9
            generalize (w9.alloc (.cells #[Value.bool (qsg (fq f) 0), Value.slice za zn zc, Value.slice zb zm zd] 27)) = v10 at *
            go_wp2_with fail
            refine (HB.out _ GL_10 _ _ _ _ _ _ Oz_10.rd Pz_10.rd).mono ?_
            rintro e w11 ⟨rfl, hB⟩
            have hB_11 : Below v10.heap.size v10 w11 := (bl.next hB)
            have R_11 := R_10.next hB_11
            have cR_11_0 : _ = some (Value.bool s) := R_11.cell 0
            have cR_11_1 : _ = some (Value.slice a n c) := R_11.cell 1
            have cR_11_2 : _ = some (Value.slice b m d) := R_11.cell 2
            have Z_11 := Z_10.next hB_11
            have cZ_11_0 : _ = some (Value.bool (qsg (fq f) 0)) := Z_11.cell 0
            have cZ_11_1 : _ = some (Value.slice za zn zc) := Z_11.cell 1
            have cZ_11_2 : _ = some (Value.slice zb zm zd) := Z_11.cell 2
            have GL_11 := GL_10.below hB_11
            have hR_11 := hR_10.below hB_11
            have Oz_11 := Oz_10.below hB_11
            have Pz_11 := Pz_10.below hB_11
            have hbel_11 := hbel_10.next hB_11
            have hsz_11 := hB_11.size
            clear R_10 cR_10_0 cR_10_1 cR_10_2 Z_10 cZ_10_0 cZ_10_1 cZ_10_2 GL_10 hR_10 Oz_10 Pz_10 hbel_10 hB_11
            try clear hB
            go_wp2
            go_ret
            exact ⟨rfl, hbel_11⟩
          · have HF := hid (fun w => near64 (w := w) f hfh.out)
            rw [show fe f = 13 from fe_nf hf1] at HF
            by_cases hf2 : fr f = 9218868437227405312
            · have hff : (FloatKind.f64.format.order f f != some .eq) = false := by rw [fcmp_self]; unfold fnan; rw [hf2]; rfl
              have HI := hid (fun w => isinf_i (w := w) hfh.out hf2)
              clear hf1 hf2
              go_wp2_with fail
              refine (HF.out _).mono ?_
              rintro e w9 ⟨za, zn, zc, zb, zm, zd, rfl, hO, hO', hD, hB⟩
              have hB_9 : Below w8.heap.size w8 w9 := (bl.next hB)
              have R_9 := R_8.next hB_9
              have cR_9_0 : _ = some (Value.bool s) := R_9.cell 0
              have cR_9_1 : _ = some (Value.slice a n c) := R_9.cell 1
              have cR_9_2 : _ = some (Value.slice b m d) := R_9.cell 2
              have GL_9 := GL_8.below hB_9
              have hR_9 := hR_8.below hB_9
              have hbel_9 := hbel_8.next hB_9
              have hsz_9 := hB_9.size
              clear R_8 cR_8_0 cR_8_1 cR_8_2 GL_8 hR_8 hbel_8 hB_9
              have Oz_9 := hO
              have ltOz := hO.ltB
              have Pz_9 := hO'
              have ltPz := hO'.ltB
              clear hO hO' hD
              try clear hB
              have hbx := blk_new w9 #[Value.bool (qsg (fq f) 13), Value.slice za zn zc, Value.slice zb zm zd] 27
              have hbB := (Below.refl w9.heap.size w9).alloc (Nat.le_refl _) (.cells #[Value.bool (qsg (fq f) 13), Value.slice za zn zc, Value.slice zb zm zd] 27)
              have hltZ := hbx.lt
              have hB_10 : Below w9.heap.size w9 (w9.alloc (.cells #[Value.bool (qsg (fq f) 13), Value.slice za zn zc, Value.slice zb zm zd] 27)) := hbB
              have R_10 := R_9.next hB_10
              have cR_10_0 : _ = some (Value.bool s) := R_10.cell 0
              have cR_10_1 : _ = some (Value.slice a n c) := R_10.cell 1
              have cR_10_2 : _ = some (Value.slice b m d) := R_10.cell 2
              have GL_10 := GL_9.below hB_10
              have hR_10 := hR_9.below hB_10
              have Oz_10 := Oz_9.below hB_10
              have Pz_10 := Pz_9.below hB_10
              have hbel_10 := hbel_9.next hB_10
              have hsz_10 := hB_10.size
              clear hB_10
              have Z_10 := hbx
              clear hbx hbB
              have cZ_10_0 : _ = some (Value.bool (qsg (fq f) 13)) := Z_10.cell 0
              have cZ_10_1 : _ = some (Value.slice za zn zc) := Z_10.cell 1
              have cZ_10_2 : _ = some (Value.slice zb zm zd) := Z_10.cell 2
              go_wp2_with fail
              clear R_9 cR_9_0 cR_9_1 cR_9_2 GL_9 hR_9 Oz_9 Pz_9 hbel_9
              generalize (w9.alloc (.cells #[Value.bool (qsg (fq f) 13), Value.slice za zn zc, Value.slice zb zm zd] 27)) = v10 at *
              go_wp2_with fail
              refine (HI.out _).mono ?_
              rintro e w11 ⟨rfl, hB⟩
              have hB_11 : Below v10.heap.size v10 w11 := (bl.next hB)
              have R_11 := R_10.next hB_11
              have cR_11_0 : _ = some (Value.bool s) := R_11.cell 0
              have cR_11_1 : _ = some (Value.slice a n c) := R_11.cell 1
              have cR_11_2 : _ = some (Value.slice b m d) := R_11.cell 2
              have Z_11 := Z_10.next hB_11
              have cZ_11_0 : _ = some (Value.bool (qsg (fq f) 13)) := Z_11.cell 0
              have cZ_11_1 : _ = some (Value.slice za zn zc) := Z_11.cell 1
              have cZ_11_2 : _ = some (Value.slice zb zm zd) := Z_11.cell 2
              have GL_11 := GL_10.below hB_11
              have hR_11 := hR_10.below hB_11
              have Oz_11 := Oz_10.below hB_11
              have Pz_11 := Pz_10.below hB_11
              have hbel_11 := hbel_10.next hB_11
              have hsz_11 := hB_11.size
              clear R_10 cR_10_0 cR_10_1 cR_10_2 Z_10 cZ_10_0 cZ_10_1 cZ_10_2 GL_10 hR_10 Oz_10 Pz_10 hbel_10 hB_11
              try clear hB
              go_wp2
              go_ret
              exact ⟨rfl, hbel_11⟩
            · have hff : (FloatKind.f64.format.order f f != some .eq) = true := by rw [fcmp_self]; exact decide_eq_true (by omega)
              clear hf1 hf2
              go_wp2_with fail
              refine (HF.out _).mono ?_
              rintro e w9 ⟨za, zn, zc, zb, zm, zd, rfl, hO, hO', hD, hB⟩
              have hB_9 : Below w8.heap.size w8 w9 := (bl.next hB)
              have R_9 := R_8.next hB_9
              have cR_9_0 : _ = some (Value.bool s) := R_9.cell 0
              have cR_9_1 : _ = some (Value.slice a n c) := R_9.cell 1
              have cR_9_2 : _ = some (Value.slice b m d) := R_9.cell 2
              have GL_9 := GL_8.below hB_9
              have hR_9 := hR_8.below hB_9
              have hbel_9 := hbel_8.next hB_9
              have hsz_9 := hB_9.size
              clear R_8 cR_8_0 cR_8_1 cR_8_2 GL_8 hR_8 hbel_8 hB_9
              have Oz_9 := hO
              have ltOz := hO.ltB
              have Pz_9 := hO'
              have ltPz := hO'.ltB
              clear hO hO' hD
              try clear hB
              have hbx := blk_new w9 #[Value.bool (qsg (fq f) 13), Value.slice za zn zc, Value.slice zb zm zd] 27
              have hbB := (Below.refl w9.heap.size w9).alloc (Nat.le_refl _) (.cells #[Value.bool (qsg (fq f) 13), Value.slice za zn zc, Value.slice zb zm zd] 27)
              have hltZ := hbx.lt
              have hB_10 : Below w9.heap.size w9 (w9.alloc (.cells #[Value.bool (qsg (fq f) 13), Value.slice za zn zc, Value.slice zb zm zd] 27)) := hbB
              have R_10 := R_9.next hB_10
              have cR_10_0 : _ = some (Value.bool s) := R_10.cell 0
              have cR_10_1 : _ = some (Value.slice a n c) := R_10.cell 1
              have cR_10_2 : _ = some (Value.slice b m d) := R_10.cell 2
              have GL_10 := GL_9.below hB_10
              have hR_10 := hR_9.below hB_10
              have Oz_10 := Oz_9.below hB_10
              have Pz_10 := Pz_9.below hB_10
              have hbel_10 := hbel_9.next hB_10
              have hsz_10 := hB_10.size
              clear hB_10
              have Z_10 := hbx
              clear hbx hbB
              have cZ_10_0 : _ = some (Value.bool (qsg (fq f) 13)) := Z_10.cell 0
              have cZ_10_1 : _ = some (Value.slice za zn zc) := Z_10.cell 1
              have cZ_10_2 : _ = some (Value.slice zb zm zd) := Z_10.cell 2
              go_wp2_with fail
              clear R_9 cR_9_0 cR_9_1 cR_9_2 GL_9 hR_9 Oz_9 Pz_9 hbel_9
              generalize (w9.alloc (.cells #[Value.bool (qsg (fq f) 13), Value.slice za zn zc, Value.slice zb zm zd] 27)) = v10 at *
              go_wp2
              go_ret
              exact ⟨rfl, hbel_10⟩
      · skip
        by_cases fh : fr hi < 9218868437227405312
        · skip
          have HI1 := hid (fun w => isinf_i (w := w) hNA.out.ll (by have := hNA.out.nl; omega))
          have HI2 := hid (fun w => isinf_b (w := w) hNA.out.lh fh)
          clear hE hlt hX fl fh
          clear nl nh nx one le
          go_wp2_with fail
          refine (HZ.out _).mono ?_
          rintro e w6 ⟨rfl, hB⟩
          have hB_6 : Below w5.heap.size w5 w6 := (bl.next hB)
          have R_6 := R_5.next hB_6
          have cR_6_0 : _ = some (Value.bool s) := R_6.cell 0
          have cR_6_1 : _ = some (Value.slice a n c) := R_6.cell 1
          have cR_6_2 : _ = some (Value.slice b m d) := R_6.cell 2
          have GL_6 := GL_5.below hB_6
          have hR_6 := hR_5.below hB_6
          have hbel_6 := hbel_5.next hB_6
          have hsz_6 := hB_6.size
          clear R_5 cR_5_0 cR_5_1 cR_5_2 GL_5 hR_5 hbel_5 hB_6
          try clear hB
          go_wp2_with fail
          refine (HI1.out _).mono ?_
          rintro e w7 ⟨rfl, hB⟩
          have hB_7 : Below w6.heap.size w6 w7 := (bl.next hB)
          have R_7 := R_6.next hB_7
          have cR_7_0 : _ = some (Value.bool s) := R_7.cell 0
          have cR_7_1 : _ = some (Value.slice a n c) := R_7.cell 1
          have cR_7_2 : _ = some (Value.slice b m d) := R_7.cell 2
          have GL_7 := GL_6.below hB_7
          have hR_7 := hR_6.below hB_7
          have hbel_7 := hbel_6.next hB_7
          have hsz_7 := hB_7.size
          clear R_6 cR_6_0 cR_6_1 cR_6_2 GL_6 hR_6 hbel_6 hB_7
          try clear hB
          by_cases hf1 : fr f < 9218868437227405312
          · have HF := hid (fun w => near64 (w := w) f hfh.out)
            rw [show fe f = 0 from fe_fin hf1] at HF
            have HB := hid (fun w (g : Lng w) a n c b m d (ha : Rd w a n c (qnl (fq f) 0)) (hb : Rd w b m d (qdl (fq f) 0)) => near_back g hfh.out hf1 ha hb)
            have hfe := nz_eq hf1
            clear hf1
            go_wp2_with fail
            refine (HF.out _).mono ?_
            rintro e w8 ⟨za, zn, zc, zb, zm, zd, rfl, hO, hO', hD, hB⟩
            have hB_8 : Below w7.heap.size w7 w8 := (bl.next hB)
            have R_8 := R_7.next hB_8
            have cR_8_0 : _ = some (Value.bool s) := R_8.cell 0
            have cR_8_1 : _ = some (Value.slice a n c) := R_8.cell 1
            have cR_8_2 : _ = some (Value.slice b m d) := R_8.cell 2
            have GL_8 := GL_7.below hB_8
            have hR_8 := hR_7.below hB_8
            have hbel_8 := hbel_7.next hB_8
            have hsz_8 := hB_8.size
            clear R_7 cR_7_0 cR_7_1 cR_7_2 GL_7 hR_7 hbel_7 hB_8
            have Oz_8 := hO
            have ltOz := hO.ltB
            have Pz_8 := hO'
            have ltPz := hO'.ltB
            clear hO hO' hD
            try clear hB
            have hbx := blk_new w8 #[Value.bool (qsg (fq f) 0), Value.slice za zn zc, Value.slice zb zm zd] 27
            have hbB := (Below.refl w8.heap.size w8).alloc (Nat.le_refl _) (.cells #[Value.bool (qsg (fq f) 0), Value.slice za zn zc, Value.slice zb zm zd] 27)
            have hltZ := hbx.lt
            have hB_9 : Below w8.heap.size w8 (w8.alloc (.cells #[Value.bool (qsg (fq f) 0), Value.slice za zn zc, Value.slice zb zm zd] 27)) := hbB
            have R_9 := R_8.next hB_9
            have cR_9_0 : _ = some (Value.bool s) := R_9.cell 0
            have cR_9_1 : _ = some (Value.slice a n c) := R_9.cell 1
            have cR_9_2 : _ = some (Value.slice b m d) := R_9.cell 2
            have GL_9 := GL_8.below hB_9
            have hR_9 := hR_8.below hB_9
            have Oz_9 := Oz_8.below hB_9
            have Pz_9 := Pz_8.below hB_9
            have hbel_9 := hbel_8.next hB_9
            have hsz_9 := hB_9.size
            clear hB_9
            have Z_9 := hbx
            clear hbx hbB
            have cZ_9_0 : _ = some (Value.bool (qsg (fq f) 0)) := Z_9.cell 0
            have cZ_9_1 : _ = some (Value.slice za zn zc) := Z_9.cell 1
            have cZ_9_2 : _ = some (Value.slice zb zm zd) := Z_9.cell 2
            go_wp2_with fail
            clear R_8 cR_8_0 cR_8_1 cR_8_2 GL_8 hR_8 Oz_8 Pz_8 hbel_8
            generalize (w8.alloc (.cells #[Value.bool (qsg (fq f) 0), Value.slice za zn zc, Value.slice zb zm zd] 27)) = v9 at *
            go_wp2_with fail
            refine (HB.out _ GL_9 _ _ _ _ _ _ Oz_9.rd Pz_9.rd).mono ?_
            rintro e w10 ⟨rfl, hB⟩
            have hB_10 : Below v9.heap.size v9 w10 := (bl.next hB)
            have R_10 := R_9.next hB_10
            have cR_10_0 : _ = some (Value.bool s) := R_10.cell 0
            have cR_10_1 : _ = some (Value.slice a n c) := R_10.cell 1
            have cR_10_2 : _ = some (Value.slice b m d) := R_10.cell 2
            have Z_10 := Z_9.next hB_10
            have cZ_10_0 : _ = some (Value.bool (qsg (fq f) 0)) := Z_10.cell 0
            have cZ_10_1 : _ = some (Value.slice za zn zc) := Z_10.cell 1
            have cZ_10_2 : _ = some (Value.slice zb zm zd) := Z_10.cell 2
            have GL_10 := GL_9.below hB_10
            have hR_10 := hR_9.below hB_10
            have Oz_10 := Oz_9.below hB_10
            have Pz_10 := Pz_9.below hB_10
            have hbel_10 := hbel_9.next hB_10
            have hsz_10 := hB_10.size
            clear R_9 cR_9_0 cR_9_1 cR_9_2 Z_9 cZ_9_0 cZ_9_1 cZ_9_2 GL_9 hR_9 Oz_9 Pz_9 hbel_9 hB_10
            try clear hB
            go_wp2
            go_ret
            exact ⟨rfl, hbel_10⟩
          · have HF := hid (fun w => near64 (w := w) f hfh.out)
            rw [show fe f = 13 from fe_nf hf1] at HF
            by_cases hf2 : fr f = 9218868437227405312
            · have hff : (FloatKind.f64.format.order f f != some .eq) = false := by rw [fcmp_self]; unfold fnan; rw [hf2]; rfl
              have HI := hid (fun w => isinf_i (w := w) hfh.out hf2)
              clear hf1 hf2
              go_wp2_with fail
              refine (HF.out _).mono ?_
              rintro e w8 ⟨za, zn, zc, zb, zm, zd, rfl, hO, hO', hD, hB⟩
              have hB_8 : Below w7.heap.size w7 w8 := (bl.next hB)
              have R_8 := R_7.next hB_8
              have cR_8_0 : _ = some (Value.bool s) := R_8.cell 0
              have cR_8_1 : _ = some (Value.slice a n c) := R_8.cell 1
              have cR_8_2 : _ = some (Value.slice b m d) := R_8.cell 2
              have GL_8 := GL_7.below hB_8
              have hR_8 := hR_7.below hB_8
              have hbel_8 := hbel_7.next hB_8
              have hsz_8 := hB_8.size
              clear R_7 cR_7_0 cR_7_1 cR_7_2 GL_7 hR_7 hbel_7 hB_8
              have Oz_8 := hO
              have ltOz := hO.ltB
              have Pz_8 := hO'
              have ltPz := hO'.ltB
              clear hO hO' hD
              try clear hB
              have hbx := blk_new w8 #[Value.bool (qsg (fq f) 13), Value.slice za zn zc, Value.slice zb zm zd] 27
              have hbB := (Below.refl w8.heap.size w8).alloc (Nat.le_refl _) (.cells #[Value.bool (qsg (fq f) 13), Value.slice za zn zc, Value.slice zb zm zd] 27)
              have hltZ := hbx.lt
              have hB_9 : Below w8.heap.size w8 (w8.alloc (.cells #[Value.bool (qsg (fq f) 13), Value.slice za zn zc, Value.slice zb zm zd] 27)) := hbB
              have R_9 := R_8.next hB_9
              have cR_9_0 : _ = some (Value.bool s) := R_9.cell 0
              have cR_9_1 : _ = some (Value.slice a n c) := R_9.cell 1
              have cR_9_2 : _ = some (Value.slice b m d) := R_9.cell 2
              have GL_9 := GL_8.below hB_9
              have hR_9 := hR_8.below hB_9
              have Oz_9 := Oz_8.below hB_9
              have Pz_9 := Pz_8.below hB_9
              have hbel_9 := hbel_8.next hB_9
              have hsz_9 := hB_9.size
              clear hB_9
              have Z_9 := hbx
              clear hbx hbB
              have cZ_9_0 : _ = some (Value.bool (qsg (fq f) 13)) := Z_9.cell 0
              have cZ_9_1 : _ = some (Value.slice za zn zc) := Z_9.cell 1
              have cZ_9_2 : _ = some (Value.slice zb zm zd) := Z_9.cell 2
              go_wp2_with fail
              clear R_8 cR_8_0 cR_8_1 cR_8_2 GL_8 hR_8 Oz_8 Pz_8 hbel_8
              generalize (w8.alloc (.cells #[Value.bool (qsg (fq f) 13), Value.slice za zn zc, Value.slice zb zm zd] 27)) = v9 at *
              go_wp2_with fail
              refine (HI.out _).mono ?_
              rintro e w10 ⟨rfl, hB⟩
              have hB_10 : Below v9.heap.size v9 w10 := (bl.next hB)
              have R_10 := R_9.next hB_10
              have cR_10_0 : _ = some (Value.bool s) := R_10.cell 0
              have cR_10_1 : _ = some (Value.slice a n c) := R_10.cell 1
              have cR_10_2 : _ = some (Value.slice b m d) := R_10.cell 2
              have Z_10 := Z_9.next hB_10
              have cZ_10_0 : _ = some (Value.bool (qsg (fq f) 13)) := Z_10.cell 0
              have cZ_10_1 : _ = some (Value.slice za zn zc) := Z_10.cell 1
              have cZ_10_2 : _ = some (Value.slice zb zm zd) := Z_10.cell 2
              have GL_10 := GL_9.below hB_10
              have hR_10 := hR_9.below hB_10
              have Oz_10 := Oz_9.below hB_10
              have Pz_10 := Pz_9.below hB_10
              have hbel_10 := hbel_9.next hB_10
              have hsz_10 := hB_10.size
              clear R_9 cR_9_0 cR_9_1 cR_9_2 Z_9 cZ_9_0 cZ_9_1 cZ_9_2 GL_9 hR_9 Oz_9 Pz_9 hbel_9 hB_10
              try clear hB
              go_wp2
              go_ret
              exact ⟨rfl, hbel_10⟩
            · have hff : (FloatKind.f64.format.order f f != some .eq) = true := by rw [fcmp_self]; exact decide_eq_true (by omega)
              clear hf1 hf2
              go_wp2_with fail
              refine (HF.out _).mono ?_
              rintro e w8 ⟨za, zn, zc, zb, zm, zd, rfl, hO, hO', hD, hB⟩
              have hB_8 : Below w7.heap.size w7 w8 := (bl.next hB)
              have R_8 := R_7.next hB_8
              have cR_8_0 : _ = some (Value.bool s) := R_8.cell 0
              have cR_8_1 : _ = some (Value.slice a n c) := R_8.cell 1
              have cR_8_2 : _ = some (Value.slice b m d) := R_8.cell 2
              have GL_8 := GL_7.below hB_8
              have hR_8 := hR_7.below hB_8
              have hbel_8 := hbel_7.next hB_8
              have hsz_8 := hB_8.size
              clear R_7 cR_7_0 cR_7_1 cR_7_2 GL_7 hR_7 hbel_7 hB_8
              have Oz_8 := hO
              have ltOz := hO.ltB
              have Pz_8 := hO'
              have ltPz := hO'.ltB
              clear hO hO' hD
              try clear hB
              have hbx := blk_new w8 #[Value.bool (qsg (fq f) 13), Value.slice za zn zc, Value.slice zb zm zd] 27
              have hbB := (Below.refl w8.heap.size w8).alloc (Nat.le_refl _) (.cells #[Value.bool (qsg (fq f) 13), Value.slice za zn zc, Value.slice zb zm zd] 27)
              have hltZ := hbx.lt
              have hB_9 : Below w8.heap.size w8 (w8.alloc (.cells #[Value.bool (qsg (fq f) 13), Value.slice za zn zc, Value.slice zb zm zd] 27)) := hbB
              have R_9 := R_8.next hB_9
              have cR_9_0 : _ = some (Value.bool s) := R_9.cell 0
              have cR_9_1 : _ = some (Value.slice a n c) := R_9.cell 1
              have cR_9_2 : _ = some (Value.slice b m d) := R_9.cell 2
              have GL_9 := GL_8.below hB_9
              have hR_9 := hR_8.below hB_9
              have Oz_9 := Oz_8.below hB_9
              have Pz_9 := Pz_8.below hB_9
              have hbel_9 := hbel_8.next hB_9
              have hsz_9 := hB_9.size
              clear hB_9
              have Z_9 := hbx
              clear hbx hbB
              have cZ_9_0 : _ = some (Value.bool (qsg (fq f) 13)) := Z_9.cell 0
              have cZ_9_1 : _ = some (Value.slice za zn zc) := Z_9.cell 1
              have cZ_9_2 : _ = some (Value.slice zb zm zd) := Z_9.cell 2
              go_wp2_with fail
              clear R_8 cR_8_0 cR_8_1 cR_8_2 GL_8 hR_8 Oz_8 Pz_8 hbel_8
              generalize (w8.alloc (.cells #[Value.bool (qsg (fq f) 13), Value.slice za zn zc, Value.slice zb zm zd] 27)) = v9 at *
              go_wp2
              go_ret
              exact ⟨rfl, hbel_9⟩
        · skip
          exfalso
          have h1 := hNA.out.li fl
          have h2 := hNA.out.hi' fh
          rcases hNA.out.nxt hlt with ⟨h3, _⟩ | ⟨r', _, h3, h4, _⟩ | ⟨t', h3, _, _, h5⟩
          · omega
          · omega
          · rw [h2] at h5; have h6 : fk 9218868437227405312 = 9218868437227405312 := by decide
            omega
    · skip
      have hX2 : fk x = fk hi := by omega
      have x1 := od_ne nx nl hX
      have x2 := od_eq nx nh hX2
      have x3 := od_nef nx nl hX
      have x4 := od_eqt nx nh hX2
      by_cases fl : fr lo < 9218868437227405312
      · skip
        by_cases fh : fr hi < 9218868437227405312
        · skip
          have HI1 := hid (fun w => isinf_b (w := w) hNA.out.ll fl)
          have HI2 := hid (fun w => isinf_b (w := w) hNA.out.lh fh)
          rw [show fe _ = 0 from fe_fin fl] at HP
          rw [show fe _ = 0 from fe_fin fh] at HQ
          have HO1 : Hid (∀ w, RdQ 500 w s a n c b m d q → Calls Tryd.prog 12 #[.agg #[.bool s, .slice a n c, .slice b m d], .float .f64 lo] w (RetQ w (aq (q - fq lo)))) := fun w h => off_any h lo hNA.out.ll fl
          have HO2 : Hid (∀ w, RdQ 500 w s a n c b m d q → Calls Tryd.prog 12 #[.agg #[.bool s, .slice a n c, .slice b m d], .float .f64 hi] w (RetQ w (aq (q - fq hi)))) := fun w h => off_any h hi hNA.out.lh fh
          have c1 : decide (0 < C1) = false := decide_eq_false (by have h1 := hNA.out.low fl; rw [← fq_fin fl, hqh.out, hC1h.out] at h1; omega)
          have c2 : decide (0 < C2) = false := decide_eq_false (by have h1 := cmpQ_turn (hNA.out.high fh); rw [← fq_fin fh, hqh.out, hC2h.out] at h1; omega)
          have g2 : decide (0 < D2) = false := decide_eq_false (by have h1 := hND.out.dh fl fh hX2; rw [← fq_fin fl, ← fq_fin fh, hqh.out, hD2h.out] at h1; omega)
          clear hE hlt hX fl fh hX2
          clear nl nh nx one le
          go_wp2_with fail
          refine (HZ.out _).mono ?_
          rintro e w6 ⟨rfl, hB⟩
          have hB_6 : Below w5.heap.size w5 w6 := (bl.next hB)
          have R_6 := R_5.next hB_6
          have cR_6_0 : _ = some (Value.bool s) := R_6.cell 0
          have cR_6_1 : _ = some (Value.slice a n c) := R_6.cell 1
          have cR_6_2 : _ = some (Value.slice b m d) := R_6.cell 2
          have GL_6 := GL_5.below hB_6
          have hR_6 := hR_5.below hB_6
          have hbel_6 := hbel_5.next hB_6
          have hsz_6 := hB_6.size
          clear R_5 cR_5_0 cR_5_1 cR_5_2 GL_5 hR_5 hbel_5 hB_6
          try clear hB
          go_wp2_with fail
          refine (HI1.out _).mono ?_
          rintro e w7 ⟨rfl, hB⟩
          have hB_7 : Below w6.heap.size w6 w7 := (bl.next hB)
          have R_7 := R_6.next hB_7
          have cR_7_0 : _ = some (Value.bool s) := R_7.cell 0
          have cR_7_1 : _ = some (Value.slice a n c) := R_7.cell 1
          have cR_7_2 : _ = some (Value.slice b m d) := R_7.cell 2
          have GL_7 := GL_6.below hB_7
          have hR_7 := hR_6.below hB_7
          have hbel_7 := hbel_6.next hB_7
          have hsz_7 := hB_7.size
          clear R_6 cR_6_0 cR_6_1 cR_6_2 GL_6 hR_6 hbel_6 hB_7
          try clear hB
          go_wp2_with fail
          refine (HI2.out _).mono ?_
          rintro e w8 ⟨rfl, hB⟩
          have hB_8 : Below w7.heap.size w7 w8 := (bl.next hB)
          have R_8 := R_7.next hB_8
          have cR_8_0 : _ = some (Value.bool s) := R_8.cell 0
          have cR_8_1 : _ = some (Value.slice a n c) := R_8.cell 1
          have cR_8_2 : _ = some (Value.slice b m d) := R_8.cell 2
          have GL_8 := GL_7.below hB_8
          have hR_8 := hR_7.below hB_8
          have hbel_8 := hbel_7.next hB_8
          have hsz_8 := hB_8.size
          clear R_7 cR_7_0 cR_7_1 cR_7_2 GL_7 hR_7 hbel_7 hB_8
          try clear hB
          go_wp2_with fail
          obtain ⟨W1, hW1⟩ : ∃ y : World, y = w8 := ⟨_, rfl⟩
          subst hW1
          obtain ⟨p1, hp1⟩ : ∃ z, aq (q - fq lo) = z := ⟨_, rfl⟩
          obtain ⟨p2, hp2⟩ : ∃ z, aq (q - fq hi) = z := ⟨_, rfl⟩
          rw [hp1] at HO1 hs1 hD1h hD2h
          rw [hp2] at HO2 hs2 hD1h hD2h
          clear hp1 hp2
          go_cut [10, 11] (fun s10 s11 wx => BoxQ W1 p1 s10 wx ∧ BoxQ W1 p2 s11 wx)
          case first =>
            have acc_8 : Below W1.heap.size W1 W1 := Below.refl _ _
            go_wp2_with fail
            go_region_held3 (fun w' => w'.cell? ⟨w.heap.size, 0, none⟩ = some (Value.bool s) ∧ w'.cell? ⟨w.heap.size, 1, none⟩ = some (Value.slice a n c) ∧ w'.cell? ⟨w.heap.size, 2, none⟩ = some (Value.slice b m d))
              (first | with_reducible exact ⟨cR_8_0, cR_8_1, cR_8_2⟩ | with_reducible exact ⟨cR_9_0, cR_9_1, cR_9_2⟩ | with_reducible exact ⟨cR_10_0, cR_10_1, cR_10_2⟩ | with_reducible exact ⟨(R_8.alloc _).cell 0, (R_8.alloc _).cell 1, (R_8.alloc _).cell 2⟩ | with_reducible exact ⟨((R_8.alloc _).alloc _).cell 0, ((R_8.alloc _).alloc _).cell 1, ((R_8.alloc _).alloc _).cell 2⟩ | with_reducible exact ⟨(R_9.alloc _).cell 0, (R_9.alloc _).cell 1, (R_9.alloc _).cell 2⟩ | with_reducible exact ⟨((R_9.alloc _).alloc _).cell 0, ((R_9.alloc _).alloc _).cell 1, ((R_9.alloc _).alloc _).cell 2⟩ | with_reducible exact ⟨(R_10.alloc _).cell 0, (R_10.alloc _).cell 1, (R_10.alloc _).cell 2⟩ | with_reducible exact ⟨((R_10.alloc _).alloc _).cell 0, ((R_10.alloc _).alloc _).cell 1, ((R_10.alloc _).alloc _).cell 2⟩ | (refine (fun hX : Blk _ (w.heap.size) #[Value.bool s, Value.slice a n c, Value.slice b m d] => ⟨hX.cell 0, hX.cell 1, hX.cell 2⟩) ?_; (repeat (first | with_reducible exact R_10 | with_reducible exact R_9 | with_reducible exact R_8 | with_reducible refine Blk.set3 ?_ (by first | omega | (simp only [World.heap_alloc_size, World.heap_setCell_size]; omega) | (simp; done) | (simp [World.setCell]; omega) | (simp; omega)) _ _ _ | with_reducible refine Blk.alloc ?_ _)); done) | exact ⟨cR_8_0, cR_8_1, cR_8_2⟩ | go_keep)
              (first
                | (go_at_call 12; ((with_reducible refine (HO1.out _ (hR_8.below bl)).mono ?_); (rintro e w9 ⟨Sa, Sn, Sc, Sb, Sm, Sd, rfl, hO, hO', hD, hB⟩; have hB_9 : Below W1.heap.size W1 w9 := (bl.next hB); have R_9 := R_8.next hB_9; have cR_9_0 : _ = some (Value.bool s) := R_9.cell 0; have cR_9_1 : _ = some (Value.slice a n c) := R_9.cell 1; have cR_9_2 : _ = some (Value.slice b m d) := R_9.cell 2; have GL_9 := GL_8.below hB_9; have hR_9 := hR_8.below hB_9; have hbel_9 := hbel_8.next hB_9; have hsz_9 := hB_9.size; clear R_8 cR_8_0 cR_8_1 cR_8_2 GL_8 hR_8 hbel_8 hB_9; have acc_9 := acc_8.next (show Below _ _ _ from (bl.next hB)); (first | (have A := A.next (show Below _ _ _ from (bl.next hB)); have C := C.next (show Below _ _ _ from (bl.next hB)); have ltA := A.lt; have cA0 : _ = some (Value.bool false) := A.cell 0; have fA0 := A.free 0; have cA1 : _ = some (Value.slice none 0 0) := A.cell 1; have fA1 := A.free 1; have cA2 : _ = some (Value.slice none 0 0) := A.cell 2; have fA2 := A.free 2; have ltC := C.lt; have cC0 : _ = some (Value.bool false) := C.cell 0; have fC0 := C.free 0; have cC1 : _ = some (Value.slice none 0 0) := C.cell 1; have fC1 := C.free 1; have cC2 : _ = some (Value.slice none 0 0) := C.cell 2; have fC2 := C.free 2) | (have A := A.next (show Below _ _ _ from (bl.next hB)); have C := (blk_new' _ #[Value.bool false, Value.slice none 0 0, Value.slice none 0 0] 27 (g := W1.heap.size) rfl).next (by first | exact hB | exact below_drew hB); have hAC := Nat.ne_of_lt ltA; have hCA := Ne.symm hAC; have ltA := A.lt; have cA0 : _ = some (Value.bool false) := A.cell 0; have fA0 := A.free 0; have cA1 : _ = some (Value.slice none 0 0) := A.cell 1; have fA1 := A.free 1; have cA2 : _ = some (Value.slice none 0 0) := A.cell 2; have fA2 := A.free 2; have ltC := C.lt; have cC0 : _ = some (Value.bool false) := C.cell 0; have fC0 := C.free 0; have cC1 : _ = some (Value.slice none 0 0) := C.cell 1; have fC1 := C.free 1; have cC2 : _ = some (Value.slice none 0 0) := C.cell 2; have fC2 := C.free 2) | (have A := A.next (show Below _ _ _ from (bl.next hB)); have ltA := A.lt; have cA0 : _ = some (Value.bool false) := A.cell 0; have fA0 := A.free 0; have cA1 : _ = some (Value.slice none 0 0) := A.cell 1; have fA1 := A.free 1; have cA2 : _ = some (Value.slice none 0 0) := A.cell 2; have fA2 := A.free 2) | (have A := ((blk_new' W1 #[Value.bool false, Value.slice none 0 0, Value.slice none 0 0] 27 (g := W1.heap.size) rfl).alloc _).next (by first | exact hB | exact below_drew hB); have C := (blk_new' (W1.alloc (.cells #[Value.bool false, Value.slice none 0 0, Value.slice none 0 0] 27)) #[Value.bool false, Value.slice none 0 0, Value.slice none 0 0] 27 (g := W1.heap.size + 1) (by first | simp | simp [World.drew])).next (by first | exact hB | exact below_drew hB); have ltA := A.lt; have cA0 : _ = some (Value.bool false) := A.cell 0; have fA0 := A.free 0; have cA1 : _ = some (Value.slice none 0 0) := A.cell 1; have fA1 := A.free 1; have cA2 : _ = some (Value.slice none 0 0) := A.cell 2; have fA2 := A.free 2; have ltC := C.lt; have cC0 : _ = some (Value.bool false) := C.cell 0; have fC0 := C.free 0; have cC1 : _ = some (Value.slice none 0 0) := C.cell 1; have fC1 := C.free 1; have cC2 : _ = some (Value.slice none 0 0) := C.cell 2; have fC2 := C.free 2) | (have A := ((blk_new' W1.drew #[Value.bool false, Value.slice none 0 0, Value.slice none 0 0] 27 (g := W1.heap.size) rfl).alloc _).next (by first | exact hB | exact below_drew hB); have C := (blk_new' (W1.drew.alloc (.cells #[Value.bool false, Value.slice none 0 0, Value.slice none 0 0] 27)) #[Value.bool false, Value.slice none 0 0, Value.slice none 0 0] 27 (g := W1.heap.size + 1) (by first | simp | simp [World.drew])).next (by first | exact hB | exact below_drew hB); have ltA := A.lt; have cA0 : _ = some (Value.bool false) := A.cell 0; have fA0 := A.free 0; have cA1 : _ = some (Value.slice none 0 0) := A.cell 1; have fA1 := A.free 1; have cA2 : _ = some (Value.slice none 0 0) := A.cell 2; have fA2 := A.free 2; have ltC := C.lt; have cC0 : _ = some (Value.bool false) := C.cell 0; have fC0 := C.free 0; have cC1 : _ = some (Value.slice none 0 0) := C.cell 1; have fC1 := C.free 1; have cC2 : _ = some (Value.slice none 0 0) := C.cell 2; have fC2 := C.free 2) | (have A := (blk_new' _ #[Value.bool false, Value.slice none 0 0, Value.slice none 0 0] 27 (g := W1.heap.size) rfl).next (by first | exact hB | exact below_drew hB); have ltA := A.lt; have cA0 : _ = some (Value.bool false) := A.cell 0; have fA0 := A.free 0; have cA1 : _ = some (Value.slice none 0 0) := A.cell 1; have fA1 := A.free 1; have cA2 : _ = some (Value.slice none 0 0) := A.cell 2; have fA2 := A.free 2) | skip); have OS_9 := hO; have ltOS := hO.ltB; have PS_9 := hO'; have ltPS := hO'.ltB; clear hO hO' hD; try clear hB)))
                | (go_at_call 12; ((with_reducible refine (HO2.out _ (hR_9.below bl)).mono ?_); (rintro e w10 ⟨Ta, Tn, Tc, Tb, Tm, Td, rfl, hO, hO', hD, hB⟩; have hB_10 : Below w9.heap.size w9 w10 := (bl.next hB); have R_10 := R_9.next hB_10; have cR_10_0 : _ = some (Value.bool s) := R_10.cell 0; have cR_10_1 : _ = some (Value.slice a n c) := R_10.cell 1; have cR_10_2 : _ = some (Value.slice b m d) := R_10.cell 2; have GL_10 := GL_9.below hB_10; have hR_10 := hR_9.below hB_10; have OS_10 := OS_9.below hB_10; have PS_10 := PS_9.below hB_10; have hbel_10 := hbel_9.next hB_10; have hsz_10 := hB_10.size; clear R_9 cR_9_0 cR_9_1 cR_9_2 GL_9 hR_9 OS_9 PS_9 hbel_9 hB_10; have acc_10 := acc_9.next (show Below _ _ _ from (bl.next hB)); (first | (have A := A.next (show Below _ _ _ from (bl.next hB)); have C := C.next (show Below _ _ _ from (bl.next hB)); have ltA := A.lt; have cA0 : _ = some (Value.bool false) := A.cell 0; have fA0 := A.free 0; have cA1 : _ = some (Value.slice none 0 0) := A.cell 1; have fA1 := A.free 1; have cA2 : _ = some (Value.slice none 0 0) := A.cell 2; have fA2 := A.free 2; have ltC := C.lt; have cC0 : _ = some (Value.bool false) := C.cell 0; have fC0 := C.free 0; have cC1 : _ = some (Value.slice none 0 0) := C.cell 1; have fC1 := C.free 1; have cC2 : _ = some (Value.slice none 0 0) := C.cell 2; have fC2 := C.free 2) | (have A := A.next (show Below _ _ _ from (bl.next hB)); have C := (blk_new' _ #[Value.bool false, Value.slice none 0 0, Value.slice none 0 0] 27 (g := w9.heap.size) rfl).next (by first | exact hB | exact below_drew hB); have hAC := Nat.ne_of_lt ltA; have hCA := Ne.symm hAC; have ltA := A.lt; have cA0 : _ = some (Value.bool false) := A.cell 0; have fA0 := A.free 0; have cA1 : _ = some (Value.slice none 0 0) := A.cell 1; have fA1 := A.free 1; have cA2 : _ = some (Value.slice none 0 0) := A.cell 2; have fA2 := A.free 2; have ltC := C.lt; have cC0 : _ = some (Value.bool false) := C.cell 0; have fC0 := C.free 0; have cC1 : _ = some (Value.slice none 0 0) := C.cell 1; have fC1 := C.free 1; have cC2 : _ = some (Value.slice none 0 0) := C.cell 2; have fC2 := C.free 2) | (have A := A.next (show Below _ _ _ from (bl.next hB)); have ltA := A.lt; have cA0 : _ = some (Value.bool false) := A.cell 0; have fA0 := A.free 0; have cA1 : _ = some (Value.slice none 0 0) := A.cell 1; have fA1 := A.free 1; have cA2 : _ = some (Value.slice none 0 0) := A.cell 2; have fA2 := A.free 2) | (have A := ((blk_new' w9 #[Value.bool false, Value.slice none 0 0, Value.slice none 0 0] 27 (g := w9.heap.size) rfl).alloc _).next (by first | exact hB | exact below_drew hB); have C := (blk_new' (w9.alloc (.cells #[Value.bool false, Value.slice none 0 0, Value.slice none 0 0] 27)) #[Value.bool false, Value.slice none 0 0, Value.slice none 0 0] 27 (g := w9.heap.size + 1) (by first | simp | simp [World.drew])).next (by first | exact hB | exact below_drew hB); have ltA := A.lt; have cA0 : _ = some (Value.bool false) := A.cell 0; have fA0 := A.free 0; have cA1 : _ = some (Value.slice none 0 0) := A.cell 1; have fA1 := A.free 1; have cA2 : _ = some (Value.slice none 0 0) := A.cell 2; have fA2 := A.free 2; have ltC := C.lt; have cC0 : _ = some (Value.bool false) := C.cell 0; have fC0 := C.free 0; have cC1 : _ = some (Value.slice none 0 0) := C.cell 1; have fC1 := C.free 1; have cC2 : _ = some (Value.slice none 0 0) := C.cell 2; have fC2 := C.free 2) | (have A := ((blk_new' w9.drew #[Value.bool false, Value.slice none 0 0, Value.slice none 0 0] 27 (g := w9.heap.size) rfl).alloc _).next (by first | exact hB | exact below_drew hB); have C := (blk_new' (w9.drew.alloc (.cells #[Value.bool false, Value.slice none 0 0, Value.slice none 0 0] 27)) #[Value.bool false, Value.slice none 0 0, Value.slice none 0 0] 27 (g := w9.heap.size + 1) (by first | simp | simp [World.drew])).next (by first | exact hB | exact below_drew hB); have ltA := A.lt; have cA0 : _ = some (Value.bool false) := A.cell 0; have fA0 := A.free 0; have cA1 : _ = some (Value.slice none 0 0) := A.cell 1; have fA1 := A.free 1; have cA2 : _ = some (Value.slice none 0 0) := A.cell 2; have fA2 := A.free 2; have ltC := C.lt; have cC0 : _ = some (Value.bool false) := C.cell 0; have fC0 := C.free 0; have cC1 : _ = some (Value.slice none 0 0) := C.cell 1; have fC1 := C.free 1; have cC2 : _ = some (Value.slice none 0 0) := C.cell 2; have fC2 := C.free 2) | (have A := (blk_new' _ #[Value.bool false, Value.slice none 0 0, Value.slice none 0 0] 27 (g := w9.heap.size) rfl).next (by first | exact hB | exact below_drew hB); have ltA := A.lt; have cA0 : _ = some (Value.bool false) := A.cell 0; have fA0 := A.free 0; have cA1 : _ = some (Value.slice none 0 0) := A.cell 1; have fA1 := A.free 1; have cA2 : _ = some (Value.slice none 0 0) := A.cell 2; have fA2 := A.free 2) | skip); have OT_10 := hO; have ltOT := hO.ltB; have PT_10 := hO'; have ltPT := hO'.ltB; clear hO hO' hD; have f2 := (blk_new' w10 #[Value.bool false, Value.slice none 0 0, Value.slice none 0 0] 27 (g := w10.heap.size) rfl).alloc (.cells #[Value.bool false, Value.slice none 0 0, Value.slice none 0 0] 27); have ltf2 := f2.lt; have cf20 : _ = some (Value.bool false) := f2.cell 0; have ff20 := f2.free 0; have cf21 : _ = some (Value.slice none 0 0) := f2.cell 1; have ff21 := f2.free 1; have cf22 : _ = some (Value.slice none 0 0) := f2.cell 2; have ff22 := f2.free 2; have f3 := blk_new' (w10.alloc (.cells #[Value.bool false, Value.slice none 0 0, Value.slice none 0 0] 27)) #[Value.bool false, Value.slice none 0 0, Value.slice none 0 0] 27 (g := w10.heap.size + 1) (by simp); have ltf3 := f3.lt; have cf30 : _ = some (Value.bool false) := f3.cell 0; have ff30 := f3.free 0; have cf31 : _ = some (Value.slice none 0 0) := f3.cell 1; have ff31 := f3.free 1; have cf32 : _ = some (Value.slice none 0 0) := f3.cell 2; have ff32 := f3.free 2; (first | (have hAn := Nat.ne_of_lt ltA; have hnA := Ne.symm hAn; have f4 := A.alloc (.cells #[Value.bool false, Value.slice none 0 0, Value.slice none 0 0] 27); have ltf4 := f4.lt; have cf40 : _ = some (Value.bool false) := f4.cell 0; have ff40 := f4.free 0; have cf41 : _ = some (Value.slice none 0 0) := f4.cell 1; have ff41 := f4.free 1; have cf42 : _ = some (Value.slice none 0 0) := f4.cell 2; have ff42 := f4.free 2) | skip); try clear hB))))
            all_goals (go_wp2_with fail; go_meet; exact ⟨⟨_, Sa, Sn, Sc, Sb, Sm, Sd, rfl, by ((repeat (first | with_reducible exact A | with_reducible exact C | with_reducible exact blk_new' _ _ _ (by first | rfl | simp) | with_reducible apply blk_z3 | with_reducible refine Blk.set3 ?_ (by first | omega | (simp only [World.heap_alloc_size, World.heap_setCell_size]; omega) | (simp; done) | (simp [World.setCell]; omega) | (simp; omega)) _ _ _ | with_reducible refine Blk.alloc ?_ _)); done), by (first | omega | (simp only [World.heap_alloc_size, World.heap_setCell_size]; omega) | (simp; done) | (simp [World.setCell]; omega) | (simp; omega)), by (exact Own.mono (Own.block OS_10 (fun g e => by have h1 := Own.lt' OS_10 g e; have h2 := ltOS g e; (repeat (first | with_reducible rfl | rw [heap_setCell_other _ _ _ _ (show g ≠ _ from (by first | omega | (simp at h1 ⊢; omega) | (simp at h1; omega) | (simp; omega)))] | rw [Below.heap_alloc _ _ _ (by first | omega | (simp at h1 ⊢; omega) | (simp at h1; omega) | (simp; omega))])))) (by first | omega | (simp only [World.heap_alloc_size, World.heap_setCell_size]; omega) | (simp; done) | (simp [World.setCell]; omega) | (simp; omega))), by (exact Own.mono (Own.block PS_10 (fun g e => by have h1 := Own.lt' PS_10 g e; have h2 := ltPS g e; (repeat (first | with_reducible rfl | rw [heap_setCell_other _ _ _ _ (show g ≠ _ from (by first | omega | (simp at h1 ⊢; omega) | (simp at h1; omega) | (simp; omega)))] | rw [Below.heap_alloc _ _ _ (by first | omega | (simp at h1 ⊢; omega) | (simp at h1; omega) | (simp; omega))])))) (by first | omega | (simp only [World.heap_alloc_size, World.heap_setCell_size]; omega) | (simp; done) | (simp [World.setCell]; omega) | (simp; omega))), by (intro g' e; have h1 := Own.lt' OS_10 g' e; have h2 := ltOS g' e; first | omega | (simp at h1; omega) | (simp at h1 ⊢; omega)), by (intro g' e; have h1 := Own.lt' PS_10 g' e; have h2 := ltPS g' e; first | omega | (simp at h1; omega) | (simp at h1 ⊢; omega)), by ((repeat (first | with_reducible exact acc_10 | with_reducible refine Below.set3 ?_ (by first | omega | (simp only [World.heap_alloc_size, World.heap_setCell_size]; omega) | (simp; done) | (simp [World.setCell]; omega) | (simp; omega)) _ _ _ | with_reducible refine Below.alloc ?_ (by first | omega | (simp only [World.heap_alloc_size, World.heap_setCell_size]; omega) | (simp; done) | (simp [World.setCell]; omega) | (simp; omega)) _)); done)⟩, ⟨_, Ta, Tn, Tc, Tb, Tm, Td, rfl, by ((repeat (first | with_reducible exact A | with_reducible exact C | with_reducible exact blk_new' _ _ _ (by first | rfl | simp) | with_reducible apply blk_z3 | with_reducible refine Blk.set3 ?_ (by first | omega | (simp only [World.heap_alloc_size, World.heap_setCell_size]; omega) | (simp; done) | (simp [World.setCell]; omega) | (simp; omega)) _ _ _ | with_reducible refine Blk.alloc ?_ _)); done), by (first | omega | (simp only [World.heap_alloc_size, World.heap_setCell_size]; omega) | (simp; done) | (simp [World.setCell]; omega) | (simp; omega)), by (exact Own.mono (Own.block OT_10 (fun g e => by have h1 := Own.lt' OT_10 g e; have h2 := ltOT g e; (repeat (first | with_reducible rfl | rw [heap_setCell_other _ _ _ _ (show g ≠ _ from (by first | omega | (simp at h1 ⊢; omega) | (simp at h1; omega) | (simp; omega)))] | rw [Below.heap_alloc _ _ _ (by first | omega | (simp at h1 ⊢; omega) | (simp at h1; omega) | (simp; omega))])))) (by first | omega | (simp only [World.heap_alloc_size, World.heap_setCell_size]; omega) | (simp; done) | (simp [World.setCell]; omega) | (simp; omega))), by (exact Own.mono (Own.block PT_10 (fun g e => by have h1 := Own.lt' PT_10 g e; have h2 := ltPT g e; (repeat (first | with_reducible rfl | rw [heap_setCell_other _ _ _ _ (show g ≠ _ from (by first | omega | (simp at h1 ⊢; omega) | (simp at h1; omega) | (simp; omega)))] | rw [Below.heap_alloc _ _ _ (by first | omega | (simp at h1 ⊢; omega) | (simp at h1; omega) | (simp; omega))])))) (by first | omega | (simp only [World.heap_alloc_size, World.heap_setCell_size]; omega) | (simp; done) | (simp [World.setCell]; omega) | (simp; omega))), by (intro g' e; have h1 := Own.lt' OT_10 g' e; have h2 := ltOT g' e; first | omega | (simp at h1; omega) | (simp at h1 ⊢; omega)), by (intro g' e; have h1 := Own.lt' PT_10 g' e; have h2 := ltPT g' e; first | omega | (simp at h1; omega) | (simp at h1 ⊢; omega)), by ((repeat (first | with_reducible exact acc_10 | with_reducible refine Below.set3 ?_ (by first | omega | (simp only [World.heap_alloc_size, World.heap_setCell_size]; omega) | (simp; done) | (simp [World.setCell]; omega) | (simp; omega)) _ _ _ | with_reducible refine Below.alloc ?_ (by first | omega | (simp only [World.heap_alloc_size, World.heap_setCell_size]; omega) | (simp; done) | (simp [World.setCell]; omega) | (simp; omega)) _)); done)⟩⟩)
          case rest =>
            obtain ⟨⟨gS, Sa, Sn, Sc, Sb, Sm, Sd, rfl, hbS, hgeS, hOS, hOS', awS, awS', hBc⟩, ⟨gT, Ta, Tn, Tc, Tb, Tm, Td, rfl, hbT, hgeT, hOT, hOT', awT, awT', _⟩⟩ := hcut
            have hB_9 : Below W1.heap.size W1 wc := hBc
            have R_9 := R_8.next hB_9
            have cR_9_0 : _ = some (Value.bool s) := R_9.cell 0
            have cR_9_1 : _ = some (Value.slice a n c) := R_9.cell 1
            have cR_9_2 : _ = some (Value.slice b m d) := R_9.cell 2
            have GL_9 := GL_8.below hB_9
            have hR_9 := hR_8.below hB_9
            have hbel_9 := hbel_8.next hB_9
            have hsz_9 := hB_9.size
            clear R_8 cR_8_0 cR_8_1 cR_8_2 GL_8 hR_8 hbel_8 hB_9
            clear hBc
            obtain ⟨wc9, hwc⟩ : ∃ x : World, x = wc := ⟨_, rfl⟩
            subst hwc
            have S_9 := hbS
            have hltS := hbS.lt
            clear hbS
            have cS_9_0 : _ = some (Value.bool (decide ((p1).num < 0))) := S_9.cell 0
            have cS_9_1 : _ = some (Value.slice Sa Sn Sc) := S_9.cell 1
            have cS_9_2 : _ = some (Value.slice Sb Sm Sd) := S_9.cell 2
            have OS_9 := hOS
            have ltOS := hOS.ltB
            have OS'_9 := hOS'
            have ltOS' := hOS'.ltB
            clear hOS hOS'
            have T_9 := hbT
            have hltT := hbT.lt
            clear hbT
            have cT_9_0 : _ = some (Value.bool (decide ((p2).num < 0))) := T_9.cell 0
            have cT_9_1 : _ = some (Value.slice Ta Tn Tc) := T_9.cell 1
            have cT_9_2 : _ = some (Value.slice Tb Tm Td) := T_9.cell 2
            have OT_9 := hOT
            have ltOT := hOT.ltB
            have OT'_9 := hOT'
            have ltOT' := hOT'.ltB
            clear hOT hOT'
            go_wp2_with fail
            refine (HP.out _).mono ?_
            rintro e w10 ⟨pa, pn, pc, pb, pm, pd, rfl, hO, hO', hD, hB⟩
            have hB_10 : Below wc9.heap.size wc9 w10 := (bl.next hB)
            have R_10 := R_9.next hB_10
            have cR_10_0 : _ = some (Value.bool s) := R_10.cell 0
            have cR_10_1 : _ = some (Value.slice a n c) := R_10.cell 1
            have cR_10_2 : _ = some (Value.slice b m d) := R_10.cell 2
            have S_10 := S_9.next hB_10
            have cS_10_0 : _ = some (Value.bool (decide ((p1).num < 0))) := S_10.cell 0
            have cS_10_1 : _ = some (Value.slice Sa Sn Sc) := S_10.cell 1
            have cS_10_2 : _ = some (Value.slice Sb Sm Sd) := S_10.cell 2
            have T_10 := T_9.next hB_10
            have cT_10_0 : _ = some (Value.bool (decide ((p2).num < 0))) := T_10.cell 0
            have cT_10_1 : _ = some (Value.slice Ta Tn Tc) := T_10.cell 1
            have cT_10_2 : _ = some (Value.slice Tb Tm Td) := T_10.cell 2
            have GL_10 := GL_9.below hB_10
            have hR_10 := hR_9.below hB_10
            have OS_10 := OS_9.below hB_10
            have OS'_10 := OS'_9.below hB_10
            have OT_10 := OT_9.below hB_10
            have OT'_10 := OT'_9.below hB_10
            have hbel_10 := hbel_9.next hB_10
            have hsz_10 := hB_10.size
            clear R_9 cR_9_0 cR_9_1 cR_9_2 S_9 cS_9_0 cS_9_1 cS_9_2 T_9 cT_9_0 cT_9_1 cT_9_2 GL_9 hR_9 OS_9 OS'_9 OT_9 OT'_9 hbel_9 hB_10
            have Op_10 := hO
            have ltOp := hO.ltB
            have Pp_10 := hO'
            have ltPp := hO'.ltB
            clear hO hO' hD
            try clear hB
            have hbx := blk_new w10 #[Value.bool (qsg (fq lo) 0), Value.slice pa pn pc, Value.slice pb pm pd] 27
            have hbB := (Below.refl w10.heap.size w10).alloc (Nat.le_refl _) (.cells #[Value.bool (qsg (fq lo) 0), Value.slice pa pn pc, Value.slice pb pm pd] 27)
            have hltA := hbx.lt
            have hB_11 : Below w10.heap.size w10 (w10.alloc (.cells #[Value.bool (qsg (fq lo) 0), Value.slice pa pn pc, Value.slice pb pm pd] 27)) := hbB
            have R_11 := R_10.next hB_11
            have cR_11_0 : _ = some (Value.bool s) := R_11.cell 0
            have cR_11_1 : _ = some (Value.slice a n c) := R_11.cell 1
            have cR_11_2 : _ = some (Value.slice b m d) := R_11.cell 2
            have S_11 := S_10.next hB_11
            have cS_11_0 : _ = some (Value.bool (decide ((p1).num < 0))) := S_11.cell 0
            have cS_11_1 : _ = some (Value.slice Sa Sn Sc) := S_11.cell 1
            have cS_11_2 : _ = some (Value.slice Sb Sm Sd) := S_11.cell 2
            have T_11 := T_10.next hB_11
            have cT_11_0 : _ = some (Value.bool (decide ((p2).num < 0))) := T_11.cell 0
            have cT_11_1 : _ = some (Value.slice Ta Tn Tc) := T_11.cell 1
            have cT_11_2 : _ = some (Value.slice Tb Tm Td) := T_11.cell 2
            have GL_11 := GL_10.below hB_11
            have hR_11 := hR_10.below hB_11
            have OS_11 := OS_10.below hB_11
            have OS'_11 := OS'_10.below hB_11
            have OT_11 := OT_10.below hB_11
            have OT'_11 := OT'_10.below hB_11
            have Op_11 := Op_10.below hB_11
            have Pp_11 := Pp_10.below hB_11
            have hbel_11 := hbel_10.next hB_11
            have hsz_11 := hB_11.size
            clear hB_11
            have A_11 := hbx
            clear hbx hbB
            have cA_11_0 : _ = some (Value.bool (qsg (fq lo) 0)) := A_11.cell 0
            have cA_11_1 : _ = some (Value.slice pa pn pc) := A_11.cell 1
            have cA_11_2 : _ = some (Value.slice pb pm pd) := A_11.cell 2
            go_wp2_with fail
            clear R_10 cR_10_0 cR_10_1 cR_10_2 S_10 cS_10_0 cS_10_1 cS_10_2 T_10 cT_10_0 cT_10_1 cT_10_2 GL_10 hR_10 OS_10 OS'_10 OT_10 OT'_10 Op_10 Pp_10 hbel_10
            generalize (w10.alloc (.cells #[Value.bool (qsg (fq lo) 0), Value.slice pa pn pc, Value.slice pb pm pd] 27)) = v11 at *
            go_wp2_with fail
            refine (HQ.out _).mono ?_
            rintro e w12 ⟨ya, yn, yc, yb, ym, yd, rfl, hO, hO', hD, hB⟩
            have hB_12 : Below v11.heap.size v11 w12 := (bl.next hB)
            have R_12 := R_11.next hB_12
            have cR_12_0 : _ = some (Value.bool s) := R_12.cell 0
            have cR_12_1 : _ = some (Value.slice a n c) := R_12.cell 1
            have cR_12_2 : _ = some (Value.slice b m d) := R_12.cell 2
            have S_12 := S_11.next hB_12
            have cS_12_0 : _ = some (Value.bool (decide ((p1).num < 0))) := S_12.cell 0
            have cS_12_1 : _ = some (Value.slice Sa Sn Sc) := S_12.cell 1
            have cS_12_2 : _ = some (Value.slice Sb Sm Sd) := S_12.cell 2
            have T_12 := T_11.next hB_12
            have cT_12_0 : _ = some (Value.bool (decide ((p2).num < 0))) := T_12.cell 0
            have cT_12_1 : _ = some (Value.slice Ta Tn Tc) := T_12.cell 1
            have cT_12_2 : _ = some (Value.slice Tb Tm Td) := T_12.cell 2
            have A_12 := A_11.next hB_12
            have cA_12_0 : _ = some (Value.bool (qsg (fq lo) 0)) := A_12.cell 0
            have cA_12_1 : _ = some (Value.slice pa pn pc) := A_12.cell 1
            have cA_12_2 : _ = some (Value.slice pb pm pd) := A_12.cell 2
            have GL_12 := GL_11.below hB_12
            have hR_12 := hR_11.below hB_12
            have OS_12 := OS_11.below hB_12
            have OS'_12 := OS'_11.below hB_12
            have OT_12 := OT_11.below hB_12
            have OT'_12 := OT'_11.below hB_12
            have Op_12 := Op_11.below hB_12
            have Pp_12 := Pp_11.below hB_12
            have hbel_12 := hbel_11.next hB_12
            have hsz_12 := hB_12.size
            clear R_11 cR_11_0 cR_11_1 cR_11_2 S_11 cS_11_0 cS_11_1 cS_11_2 T_11 cT_11_0 cT_11_1 cT_11_2 A_11 cA_11_0 cA_11_1 cA_11_2 GL_11 hR_11 OS_11 OS'_11 OT_11 OT'_11 Op_11 Pp_11 hbel_11 hB_12
            have Oy_12 := hO
            have ltOy := hO.ltB
            have Py_12 := hO'
            have ltPy := hO'.ltB
            clear hO hO' hD
            try clear hB
            have hbx := blk_new w12 #[Value.bool (qsg (fq hi) 0), Value.slice ya yn yc, Value.slice yb ym yd] 27
            have hbB := (Below.refl w12.heap.size w12).alloc (Nat.le_refl _) (.cells #[Value.bool (qsg (fq hi) 0), Value.slice ya yn yc, Value.slice yb ym yd] 27)
            have hltB := hbx.lt
            have hB_13 : Below w12.heap.size w12 (w12.alloc (.cells #[Value.bool (qsg (fq hi) 0), Value.slice ya yn yc, Value.slice yb ym yd] 27)) := hbB
            have R_13 := R_12.next hB_13
            have cR_13_0 : _ = some (Value.bool s) := R_13.cell 0
            have cR_13_1 : _ = some (Value.slice a n c) := R_13.cell 1
            have cR_13_2 : _ = some (Value.slice b m d) := R_13.cell 2
            have S_13 := S_12.next hB_13
            have cS_13_0 : _ = some (Value.bool (decide ((p1).num < 0))) := S_13.cell 0
            have cS_13_1 : _ = some (Value.slice Sa Sn Sc) := S_13.cell 1
            have cS_13_2 : _ = some (Value.slice Sb Sm Sd) := S_13.cell 2
            have T_13 := T_12.next hB_13
            have cT_13_0 : _ = some (Value.bool (decide ((p2).num < 0))) := T_13.cell 0
            have cT_13_1 : _ = some (Value.slice Ta Tn Tc) := T_13.cell 1
            have cT_13_2 : _ = some (Value.slice Tb Tm Td) := T_13.cell 2
            have A_13 := A_12.next hB_13
            have cA_13_0 : _ = some (Value.bool (qsg (fq lo) 0)) := A_13.cell 0
            have cA_13_1 : _ = some (Value.slice pa pn pc) := A_13.cell 1
            have cA_13_2 : _ = some (Value.slice pb pm pd) := A_13.cell 2
            have GL_13 := GL_12.below hB_13
            have hR_13 := hR_12.below hB_13
            have OS_13 := OS_12.below hB_13
            have OS'_13 := OS'_12.below hB_13
            have OT_13 := OT_12.below hB_13
            have OT'_13 := OT'_12.below hB_13
            have Op_13 := Op_12.below hB_13
            have Pp_13 := Pp_12.below hB_13
            have Oy_13 := Oy_12.below hB_13
            have Py_13 := Py_12.below hB_13
            have hbel_13 := hbel_12.next hB_13
            have hsz_13 := hB_13.size
            clear hB_13
            have B_13 := hbx
            clear hbx hbB
            have cB_13_0 : _ = some (Value.bool (qsg (fq hi) 0)) := B_13.cell 0
            have cB_13_1 : _ = some (Value.slice ya yn yc) := B_13.cell 1
            have cB_13_2 : _ = some (Value.slice yb ym yd) := B_13.cell 2
            go_wp2_with fail
            clear R_12 cR_12_0 cR_12_1 cR_12_2 S_12 cS_12_0 cS_12_1 cS_12_2 T_12 cT_12_0 cT_12_1 cT_12_2 A_12 cA_12_0 cA_12_1 cA_12_2 GL_12 hR_12 OS_12 OS'_12 OT_12 OT'_12 Op_12 Pp_12 Oy_12 Py_12 hbel_12
            generalize (w12.alloc (.cells #[Value.bool (qsg (fq hi) 0), Value.slice ya yn yc, Value.slice yb ym yd] 27)) = v13 at *
            go_wp2_with fail
            refine (cmp_r hC1h.out (Op_13.rdQ Pp_13 hql.out) (by omega) hR_13 (by omega)).mono ?_
            rintro e w14 ⟨rfl, hB⟩
            have hB_14 : Below v13.heap.size v13 w14 := (bl.next hB)
            have R_14 := R_13.next hB_14
            have cR_14_0 : _ = some (Value.bool s) := R_14.cell 0
            have cR_14_1 : _ = some (Value.slice a n c) := R_14.cell 1
            have cR_14_2 : _ = some (Value.slice b m d) := R_14.cell 2
            have S_14 := S_13.next hB_14
            have cS_14_0 : _ = some (Value.bool (decide ((p1).num < 0))) := S_14.cell 0
            have cS_14_1 : _ = some (Value.slice Sa Sn Sc) := S_14.cell 1
            have cS_14_2 : _ = some (Value.slice Sb Sm Sd) := S_14.cell 2
            have T_14 := T_13.next hB_14
            have cT_14_0 : _ = some (Value.bool (decide ((p2).num < 0))) := T_14.cell 0
            have cT_14_1 : _ = some (Value.slice Ta Tn Tc) := T_14.cell 1
            have cT_14_2 : _ = some (Value.slice Tb Tm Td) := T_14.cell 2
            have A_14 := A_13.next hB_14
            have cA_14_0 : _ = some (Value.bool (qsg (fq lo) 0)) := A_14.cell 0
            have cA_14_1 : _ = some (Value.slice pa pn pc) := A_14.cell 1
            have cA_14_2 : _ = some (Value.slice pb pm pd) := A_14.cell 2
            have B_14 := B_13.next hB_14
            have cB_14_0 : _ = some (Value.bool (qsg (fq hi) 0)) := B_14.cell 0
            have cB_14_1 : _ = some (Value.slice ya yn yc) := B_14.cell 1
            have cB_14_2 : _ = some (Value.slice yb ym yd) := B_14.cell 2
            have GL_14 := GL_13.below hB_14
            have hR_14 := hR_13.below hB_14
            have OS_14 := OS_13.below hB_14
            have OS'_14 := OS'_13.below hB_14
            have OT_14 := OT_13.below hB_14
            have OT'_14 := OT'_13.below hB_14
            have Op_14 := Op_13.below hB_14
            have Pp_14 := Pp_13.below hB_14
            have Oy_14 := Oy_13.below hB_14
            have Py_14 := Py_13.below hB_14
            have hbel_14 := hbel_13.next hB_14
            have hsz_14 := hB_14.size
            clear R_13 cR_13_0 cR_13_1 cR_13_2 S_13 cS_13_0 cS_13_1 cS_13_2 T_13 cT_13_0 cT_13_1 cT_13_2 A_13 cA_13_0 cA_13_1 cA_13_2 B_13 cB_13_0 cB_13_1 cB_13_2 GL_13 hR_13 OS_13 OS'_13 OT_13 OT'_13 Op_13 Pp_13 Oy_13 Py_13 hbel_13 hB_14
            try clear hB
            go_wp2_with fail
            refine (cmp_r hC2h.out hR_14 (by omega) (Oy_14.rdQ Py_14 hqr.out) (by omega)).mono ?_
            rintro e w15 ⟨rfl, hB⟩
            have hB_15 : Below w14.heap.size w14 w15 := (bl.next hB)
            have R_15 := R_14.next hB_15
            have cR_15_0 : _ = some (Value.bool s) := R_15.cell 0
            have cR_15_1 : _ = some (Value.slice a n c) := R_15.cell 1
            have cR_15_2 : _ = some (Value.slice b m d) := R_15.cell 2
            have S_15 := S_14.next hB_15
            have cS_15_0 : _ = some (Value.bool (decide ((p1).num < 0))) := S_15.cell 0
            have cS_15_1 : _ = some (Value.slice Sa Sn Sc) := S_15.cell 1
            have cS_15_2 : _ = some (Value.slice Sb Sm Sd) := S_15.cell 2
            have T_15 := T_14.next hB_15
            have cT_15_0 : _ = some (Value.bool (decide ((p2).num < 0))) := T_15.cell 0
            have cT_15_1 : _ = some (Value.slice Ta Tn Tc) := T_15.cell 1
            have cT_15_2 : _ = some (Value.slice Tb Tm Td) := T_15.cell 2
            have A_15 := A_14.next hB_15
            have cA_15_0 : _ = some (Value.bool (qsg (fq lo) 0)) := A_15.cell 0
            have cA_15_1 : _ = some (Value.slice pa pn pc) := A_15.cell 1
            have cA_15_2 : _ = some (Value.slice pb pm pd) := A_15.cell 2
            have B_15 := B_14.next hB_15
            have cB_15_0 : _ = some (Value.bool (qsg (fq hi) 0)) := B_15.cell 0
            have cB_15_1 : _ = some (Value.slice ya yn yc) := B_15.cell 1
            have cB_15_2 : _ = some (Value.slice yb ym yd) := B_15.cell 2
            have GL_15 := GL_14.below hB_15
            have hR_15 := hR_14.below hB_15
            have OS_15 := OS_14.below hB_15
            have OS'_15 := OS'_14.below hB_15
            have OT_15 := OT_14.below hB_15
            have OT'_15 := OT'_14.below hB_15
            have Op_15 := Op_14.below hB_15
            have Pp_15 := Pp_14.below hB_15
            have Oy_15 := Oy_14.below hB_15
            have Py_15 := Py_14.below hB_15
            have hbel_15 := hbel_14.next hB_15
            have hsz_15 := hB_15.size
            clear R_14 cR_14_0 cR_14_1 cR_14_2 S_14 cS_14_0 cS_14_1 cS_14_2 T_14 cT_14_0 cT_14_1 cT_14_2 A_14 cA_14_0 cA_14_1 cA_14_2 B_14 cB_14_0 cB_14_1 cB_14_2 GL_14 hR_14 OS_14 OS'_14 OT_14 OT'_14 Op_14 Pp_14 Oy_14 Py_14 hbel_14 hB_15
            try clear hB
            go_wp2_with fail
            refine (cmp_r hD2h.out (OT_15.rdQ OT'_15 hs2.out) (by omega) (OS_15.rdQ OS'_15 hs1.out) (by omega)).mono ?_
            rintro e w16 ⟨rfl, hB⟩
            have hB_16 : Below w15.heap.size w15 w16 := (bl.next hB)
            have R_16 := R_15.next hB_16
            have cR_16_0 : _ = some (Value.bool s) := R_16.cell 0
            have cR_16_1 : _ = some (Value.slice a n c) := R_16.cell 1
            have cR_16_2 : _ = some (Value.slice b m d) := R_16.cell 2
            have S_16 := S_15.next hB_16
            have cS_16_0 : _ = some (Value.bool (decide ((p1).num < 0))) := S_16.cell 0
            have cS_16_1 : _ = some (Value.slice Sa Sn Sc) := S_16.cell 1
            have cS_16_2 : _ = some (Value.slice Sb Sm Sd) := S_16.cell 2
            have T_16 := T_15.next hB_16
            have cT_16_0 : _ = some (Value.bool (decide ((p2).num < 0))) := T_16.cell 0
            have cT_16_1 : _ = some (Value.slice Ta Tn Tc) := T_16.cell 1
            have cT_16_2 : _ = some (Value.slice Tb Tm Td) := T_16.cell 2
            have A_16 := A_15.next hB_16
            have cA_16_0 : _ = some (Value.bool (qsg (fq lo) 0)) := A_16.cell 0
            have cA_16_1 : _ = some (Value.slice pa pn pc) := A_16.cell 1
            have cA_16_2 : _ = some (Value.slice pb pm pd) := A_16.cell 2
            have B_16 := B_15.next hB_16
            have cB_16_0 : _ = some (Value.bool (qsg (fq hi) 0)) := B_16.cell 0
            have cB_16_1 : _ = some (Value.slice ya yn yc) := B_16.cell 1
            have cB_16_2 : _ = some (Value.slice yb ym yd) := B_16.cell 2
            have GL_16 := GL_15.below hB_16
            have hR_16 := hR_15.below hB_16
            have OS_16 := OS_15.below hB_16
            have OS'_16 := OS'_15.below hB_16
            have OT_16 := OT_15.below hB_16
            have OT'_16 := OT'_15.below hB_16
            have Op_16 := Op_15.below hB_16
            have Pp_16 := Pp_15.below hB_16
            have Oy_16 := Oy_15.below hB_16
            have Py_16 := Py_15.below hB_16
            have hbel_16 := hbel_15.next hB_16
            have hsz_16 := hB_16.size
            clear R_15 cR_15_0 cR_15_1 cR_15_2 S_15 cS_15_0 cS_15_1 cS_15_2 T_15 cT_15_0 cT_15_1 cT_15_2 A_15 cA_15_0 cA_15_1 cA_15_2 B_15 cB_15_0 cB_15_1 cB_15_2 GL_15 hR_15 OS_15 OS'_15 OT_15 OT'_15 Op_15 Pp_15 Oy_15 Py_15 hbel_15 hB_16
            try clear hB
            by_cases hf1 : fr f < 9218868437227405312
            · have HF := hid (fun w => near64 (w := w) f hfh.out)
              rw [show fe f = 0 from fe_fin hf1] at HF
              have HB := hid (fun w (g : Lng w) a n c b m d (ha : Rd w a n c (qnl (fq f) 0)) (hb : Rd w b m d (qdl (fq f) 0)) => near_back g hfh.out hf1 ha hb)
              have hfe := nz_eq hf1
              clear hf1
              go_wp2_with fail
              refine (HF.out _).mono ?_
              rintro e w17 ⟨za, zn, zc, zb, zm, zd, rfl, hO, hO', hD, hB⟩
              have hB_17 : Below w16.heap.size w16 w17 := (bl.next hB)
              have R_17 := R_16.next hB_17
              have cR_17_0 : _ = some (Value.bool s) := R_17.cell 0
              have cR_17_1 : _ = some (Value.slice a n c) := R_17.cell 1
              have cR_17_2 : _ = some (Value.slice b m d) := R_17.cell 2
              have S_17 := S_16.next hB_17
              have cS_17_0 : _ = some (Value.bool (decide ((p1).num < 0))) := S_17.cell 0
              have cS_17_1 : _ = some (Value.slice Sa Sn Sc) := S_17.cell 1
              have cS_17_2 : _ = some (Value.slice Sb Sm Sd) := S_17.cell 2
              have T_17 := T_16.next hB_17
              have cT_17_0 : _ = some (Value.bool (decide ((p2).num < 0))) := T_17.cell 0
              have cT_17_1 : _ = some (Value.slice Ta Tn Tc) := T_17.cell 1
              have cT_17_2 : _ = some (Value.slice Tb Tm Td) := T_17.cell 2
              have A_17 := A_16.next hB_17
              have cA_17_0 : _ = some (Value.bool (qsg (fq lo) 0)) := A_17.cell 0
              have cA_17_1 : _ = some (Value.slice pa pn pc) := A_17.cell 1
              have cA_17_2 : _ = some (Value.slice pb pm pd) := A_17.cell 2
              have B_17 := B_16.next hB_17
              have cB_17_0 : _ = some (Value.bool (qsg (fq hi) 0)) := B_17.cell 0
              have cB_17_1 : _ = some (Value.slice ya yn yc) := B_17.cell 1
              have cB_17_2 : _ = some (Value.slice yb ym yd) := B_17.cell 2
              have GL_17 := GL_16.below hB_17
              have hR_17 := hR_16.below hB_17
              have OS_17 := OS_16.below hB_17
              have OS'_17 := OS'_16.below hB_17
              have OT_17 := OT_16.below hB_17
              have OT'_17 := OT'_16.below hB_17
              have Op_17 := Op_16.below hB_17
              have Pp_17 := Pp_16.below hB_17
              have Oy_17 := Oy_16.below hB_17
              have Py_17 := Py_16.below hB_17
              have hbel_17 := hbel_16.next hB_17
              have hsz_17 := hB_17.size
              clear R_16 cR_16_0 cR_16_1 cR_16_2 S_16 cS_16_0 cS_16_1 cS_16_2 T_16 cT_16_0 cT_16_1 cT_16_2 A_16 cA_16_0 cA_16_1 cA_16_2 B_16 cB_16_0 cB_16_1 cB_16_2 GL_16 hR_16 OS_16 OS'_16 OT_16 OT'_16 Op_16 Pp_16 Oy_16 Py_16 hbel_16 hB_17
              have Oz_17 := hO
              have ltOz := hO.ltB
              have Pz_17 := hO'
              have ltPz := hO'.ltB
              clear hO hO' hD
              try clear hB
              have hbx := blk_new w17 #[Value.bool (qsg (fq f) 0), Value.slice za zn zc, Value.slice zb zm zd] 27
              have hbB := (Below.refl w17.heap.size w17).alloc (Nat.le_refl _) (.cells #[Value.bool (qsg (fq f) 0), Value.slice za zn zc, Value.slice zb zm zd] 27)
              have hltZ := hbx.lt
              have hB_18 : Below w17.heap.size w17 (w17.alloc (.cells #[Value.bool (qsg (fq f) 0), Value.slice za zn zc, Value.slice zb zm zd] 27)) := hbB
              have R_18 := R_17.next hB_18
              have cR_18_0 : _ = some (Value.bool s) := R_18.cell 0
              have cR_18_1 : _ = some (Value.slice a n c) := R_18.cell 1
              have cR_18_2 : _ = some (Value.slice b m d) := R_18.cell 2
              have S_18 := S_17.next hB_18
              have cS_18_0 : _ = some (Value.bool (decide ((p1).num < 0))) := S_18.cell 0
              have cS_18_1 : _ = some (Value.slice Sa Sn Sc) := S_18.cell 1
              have cS_18_2 : _ = some (Value.slice Sb Sm Sd) := S_18.cell 2
              have T_18 := T_17.next hB_18
              have cT_18_0 : _ = some (Value.bool (decide ((p2).num < 0))) := T_18.cell 0
              have cT_18_1 : _ = some (Value.slice Ta Tn Tc) := T_18.cell 1
              have cT_18_2 : _ = some (Value.slice Tb Tm Td) := T_18.cell 2
              have A_18 := A_17.next hB_18
              have cA_18_0 : _ = some (Value.bool (qsg (fq lo) 0)) := A_18.cell 0
              have cA_18_1 : _ = some (Value.slice pa pn pc) := A_18.cell 1
              have cA_18_2 : _ = some (Value.slice pb pm pd) := A_18.cell 2
              have B_18 := B_17.next hB_18
              have cB_18_0 : _ = some (Value.bool (qsg (fq hi) 0)) := B_18.cell 0
              have cB_18_1 : _ = some (Value.slice ya yn yc) := B_18.cell 1
              have cB_18_2 : _ = some (Value.slice yb ym yd) := B_18.cell 2
              have GL_18 := GL_17.below hB_18
              have hR_18 := hR_17.below hB_18
              have OS_18 := OS_17.below hB_18
              have OS'_18 := OS'_17.below hB_18
              have OT_18 := OT_17.below hB_18
              have OT'_18 := OT'_17.below hB_18
              have Op_18 := Op_17.below hB_18
              have Pp_18 := Pp_17.below hB_18
              have Oy_18 := Oy_17.below hB_18
              have Py_18 := Py_17.below hB_18
              have Oz_18 := Oz_17.below hB_18
              have Pz_18 := Pz_17.below hB_18
              have hbel_18 := hbel_17.next hB_18
              have hsz_18 := hB_18.size
              clear hB_18
              have Z_18 := hbx
              clear hbx hbB
              have cZ_18_0 : _ = some (Value.bool (qsg (fq f) 0)) := Z_18.cell 0
              have cZ_18_1 : _ = some (Value.slice za zn zc) := Z_18.cell 1
              have cZ_18_2 : _ = some (Value.slice zb zm zd) := Z_18.cell 2
              go_wp2_with fail
              clear R_17 cR_17_0 cR_17_1 cR_17_2 S_17 cS_17_0 cS_17_1 cS_17_2 T_17 cT_17_0 cT_17_1 cT_17_2 A_17 cA_17_0 cA_17_1 cA_17_2 B_17 cB_17_0 cB_17_1 cB_17_2 GL_17 hR_17 OS_17 OS'_17 OT_17 OT'_17 Op_17 Pp_17 Oy_17 Py_17 Oz_17 Pz_17 hbel_17
              generalize (w17.alloc (.cells #[Value.bool (qsg (fq f) 0), Value.slice za zn zc, Value.slice zb zm zd] 27)) = v18 at *
              go_wp2_with fail
              refine (HB.out _ GL_18 _ _ _ _ _ _ Oz_18.rd Pz_18.rd).mono ?_
              rintro e w19 ⟨rfl, hB⟩
              have hB_19 : Below v18.heap.size v18 w19 := (bl.next hB)
              have R_19 := R_18.next hB_19
              have cR_19_0 : _ = some (Value.bool s) := R_19.cell 0
              have cR_19_1 : _ = some (Value.slice a n c) := R_19.cell 1
              have cR_19_2 : _ = some (Value.slice b m d) := R_19.cell 2
              have S_19 := S_18.next hB_19
              have cS_19_0 : _ = some (Value.bool (decide ((p1).num < 0))) := S_19.cell 0
              have cS_19_1 : _ = some (Value.slice Sa Sn Sc) := S_19.cell 1
              have cS_19_2 : _ = some (Value.slice Sb Sm Sd) := S_19.cell 2
              have T_19 := T_18.next hB_19
              have cT_19_0 : _ = some (Value.bool (decide ((p2).num < 0))) := T_19.cell 0
              have cT_19_1 : _ = some (Value.slice Ta Tn Tc) := T_19.cell 1
              have cT_19_2 : _ = some (Value.slice Tb Tm Td) := T_19.cell 2
              have A_19 := A_18.next hB_19
              have cA_19_0 : _ = some (Value.bool (qsg (fq lo) 0)) := A_19.cell 0
              have cA_19_1 : _ = some (Value.slice pa pn pc) := A_19.cell 1
              have cA_19_2 : _ = some (Value.slice pb pm pd) := A_19.cell 2
              have B_19 := B_18.next hB_19
              have cB_19_0 : _ = some (Value.bool (qsg (fq hi) 0)) := B_19.cell 0
              have cB_19_1 : _ = some (Value.slice ya yn yc) := B_19.cell 1
              have cB_19_2 : _ = some (Value.slice yb ym yd) := B_19.cell 2
              have Z_19 := Z_18.next hB_19
              have cZ_19_0 : _ = some (Value.bool (qsg (fq f) 0)) := Z_19.cell 0
              have cZ_19_1 : _ = some (Value.slice za zn zc) := Z_19.cell 1
              have cZ_19_2 : _ = some (Value.slice zb zm zd) := Z_19.cell 2
              have GL_19 := GL_18.below hB_19
              have hR_19 := hR_18.below hB_19
              have OS_19 := OS_18.below hB_19
              have OS'_19 := OS'_18.below hB_19
              have OT_19 := OT_18.below hB_19
              have OT'_19 := OT'_18.below hB_19
              have Op_19 := Op_18.below hB_19
              have Pp_19 := Pp_18.below hB_19
              have Oy_19 := Oy_18.below hB_19
              have Py_19 := Py_18.below hB_19
              have Oz_19 := Oz_18.below hB_19
              have Pz_19 := Pz_18.below hB_19
              have hbel_19 := hbel_18.next hB_19
              have hsz_19 := hB_19.size
              clear R_18 cR_18_0 cR_18_1 cR_18_2 S_18 cS_18_0 cS_18_1 cS_18_2 T_18 cT_18_0 cT_18_1 cT_18_2 A_18 cA_18_0 cA_18_1 cA_18_2 B_18 cB_18_0 cB_18_1 cB_18_2 Z_18 cZ_18_0 cZ_18_1 cZ_18_2 GL_18 hR_18 OS_18 OS'_18 OT_18 OT'_18 Op_18 Pp_18 Oy_18 Py_18 Oz_18 Pz_18 hbel_18 hB_19
              try clear hB
              go_wp2
              go_ret
              exact ⟨rfl, hbel_19⟩
            · have HF := hid (fun w => near64 (w := w) f hfh.out)
              rw [show fe f = 13 from fe_nf hf1] at HF
              by_cases hf2 : fr f = 9218868437227405312
              · have hff : (FloatKind.f64.format.order f f != some .eq) = false := by rw [fcmp_self]; unfold fnan; rw [hf2]; rfl
                have HI := hid (fun w => isinf_i (w := w) hfh.out hf2)
                clear hf1 hf2
                go_wp2_with fail
                refine (HF.out _).mono ?_
                rintro e w17 ⟨za, zn, zc, zb, zm, zd, rfl, hO, hO', hD, hB⟩
                have hB_17 : Below w16.heap.size w16 w17 := (bl.next hB)
                have R_17 := R_16.next hB_17
                have cR_17_0 : _ = some (Value.bool s) := R_17.cell 0
                have cR_17_1 : _ = some (Value.slice a n c) := R_17.cell 1
                have cR_17_2 : _ = some (Value.slice b m d) := R_17.cell 2
                have S_17 := S_16.next hB_17
                have cS_17_0 : _ = some (Value.bool (decide ((p1).num < 0))) := S_17.cell 0
                have cS_17_1 : _ = some (Value.slice Sa Sn Sc) := S_17.cell 1
                have cS_17_2 : _ = some (Value.slice Sb Sm Sd) := S_17.cell 2
                have T_17 := T_16.next hB_17
                have cT_17_0 : _ = some (Value.bool (decide ((p2).num < 0))) := T_17.cell 0
                have cT_17_1 : _ = some (Value.slice Ta Tn Tc) := T_17.cell 1
                have cT_17_2 : _ = some (Value.slice Tb Tm Td) := T_17.cell 2
                have A_17 := A_16.next hB_17
                have cA_17_0 : _ = some (Value.bool (qsg (fq lo) 0)) := A_17.cell 0
                have cA_17_1 : _ = some (Value.slice pa pn pc) := A_17.cell 1
                have cA_17_2 : _ = some (Value.slice pb pm pd) := A_17.cell 2
                have B_17 := B_16.next hB_17
                have cB_17_0 : _ = some (Value.bool (qsg (fq hi) 0)) := B_17.cell 0
                have cB_17_1 : _ = some (Value.slice ya yn yc) := B_17.cell 1
                have cB_17_2 : _ = some (Value.slice yb ym yd) := B_17.cell 2
                have GL_17 := GL_16.below hB_17
                have hR_17 := hR_16.below hB_17
                have OS_17 := OS_16.below hB_17
                have OS'_17 := OS'_16.below hB_17
                have OT_17 := OT_16.below hB_17
                have OT'_17 := OT'_16.below hB_17
                have Op_17 := Op_16.below hB_17
                have Pp_17 := Pp_16.below hB_17
                have Oy_17 := Oy_16.below hB_17
                have Py_17 := Py_16.below hB_17
                have hbel_17 := hbel_16.next hB_17
                have hsz_17 := hB_17.size
                clear R_16 cR_16_0 cR_16_1 cR_16_2 S_16 cS_16_0 cS_16_1 cS_16_2 T_16 cT_16_0 cT_16_1 cT_16_2 A_16 cA_16_0 cA_16_1 cA_16_2 B_16 cB_16_0 cB_16_1 cB_16_2 GL_16 hR_16 OS_16 OS'_16 OT_16 OT'_16 Op_16 Pp_16 Oy_16 Py_16 hbel_16 hB_17
                have Oz_17 := hO
                have ltOz := hO.ltB
                have Pz_17 := hO'
                have ltPz := hO'.ltB
                clear hO hO' hD
                try clear hB
                have hbx := blk_new w17 #[Value.bool (qsg (fq f) 13), Value.slice za zn zc, Value.slice zb zm zd] 27
                have hbB := (Below.refl w17.heap.size w17).alloc (Nat.le_refl _) (.cells #[Value.bool (qsg (fq f) 13), Value.slice za zn zc, Value.slice zb zm zd] 27)
                have hltZ := hbx.lt
                have hB_18 : Below w17.heap.size w17 (w17.alloc (.cells #[Value.bool (qsg (fq f) 13), Value.slice za zn zc, Value.slice zb zm zd] 27)) := hbB
                have R_18 := R_17.next hB_18
                have cR_18_0 : _ = some (Value.bool s) := R_18.cell 0
                have cR_18_1 : _ = some (Value.slice a n c) := R_18.cell 1
                have cR_18_2 : _ = some (Value.slice b m d) := R_18.cell 2
                have S_18 := S_17.next hB_18
                have cS_18_0 : _ = some (Value.bool (decide ((p1).num < 0))) := S_18.cell 0
                have cS_18_1 : _ = some (Value.slice Sa Sn Sc) := S_18.cell 1
                have cS_18_2 : _ = some (Value.slice Sb Sm Sd) := S_18.cell 2
                have T_18 := T_17.next hB_18
                have cT_18_0 : _ = some (Value.bool (decide ((p2).num < 0))) := T_18.cell 0
                have cT_18_1 : _ = some (Value.slice Ta Tn Tc) := T_18.cell 1
                have cT_18_2 : _ = some (Value.slice Tb Tm Td) := T_18.cell 2
                have A_18 := A_17.next hB_18
                have cA_18_0 : _ = some (Value.bool (qsg (fq lo) 0)) := A_18.cell 0
                have cA_18_1 : _ = some (Value.slice pa pn pc) := A_18.cell 1
                have cA_18_2 : _ = some (Value.slice pb pm pd) := A_18.cell 2
                have B_18 := B_17.next hB_18
                have cB_18_0 : _ = some (Value.bool (qsg (fq hi) 0)) := B_18.cell 0
                have cB_18_1 : _ = some (Value.slice ya yn yc) := B_18.cell 1
                have cB_18_2 : _ = some (Value.slice yb ym yd) := B_18.cell 2
                have GL_18 := GL_17.below hB_18
                have hR_18 := hR_17.below hB_18
                have OS_18 := OS_17.below hB_18
                have OS'_18 := OS'_17.below hB_18
                have OT_18 := OT_17.below hB_18
                have OT'_18 := OT'_17.below hB_18
                have Op_18 := Op_17.below hB_18
                have Pp_18 := Pp_17.below hB_18
                have Oy_18 := Oy_17.below hB_18
                have Py_18 := Py_17.below hB_18
                have Oz_18 := Oz_17.below hB_18
                have Pz_18 := Pz_17.below hB_18
                have hbel_18 := hbel_17.next hB_18
                have hsz_18 := hB_18.size
                clear hB_18
                have Z_18 := hbx
                clear hbx hbB
                have cZ_18_0 : _ = some (Value.bool (qsg (fq f) 13)) := Z_18.cell 0
                have cZ_18_1 : _ = some (Value.slice za zn zc) := Z_18.cell 1
                have cZ_18_2 : _ = some (Value.slice zb zm zd) := Z_18.cell 2
                go_wp2_with fail
                clear R_17 cR_17_0 cR_17_1 cR_17_2 S_17 cS_17_0 cS_17_1 cS_17_2 T_17 cT_17_0 cT_17_1 cT_17_2 A_17 cA_17_0 cA_17_1 cA_17_2 B_17 cB_17_0 cB_17_1 cB_17_2 GL_17 hR_17 OS_17 OS'_17 OT_17 OT'_17 Op_17 Pp_17 Oy_17 Py_17 Oz_17 Pz_17 hbel_17
                generalize (w17.alloc (.cells #[Value.bool (qsg (fq f) 13), Value.slice za zn zc, Value.slice zb zm zd] 27)) = v18 at *
                go_wp2_with fail
                refine (HI.out _).mono ?_
                rintro e w19 ⟨rfl, hB⟩
                have hB_19 : Below v18.heap.size v18 w19 := (bl.next hB)
                have R_19 := R_18.next hB_19
                have cR_19_0 : _ = some (Value.bool s) := R_19.cell 0
                have cR_19_1 : _ = some (Value.slice a n c) := R_19.cell 1
                have cR_19_2 : _ = some (Value.slice b m d) := R_19.cell 2
                have S_19 := S_18.next hB_19
                have cS_19_0 : _ = some (Value.bool (decide ((p1).num < 0))) := S_19.cell 0
                have cS_19_1 : _ = some (Value.slice Sa Sn Sc) := S_19.cell 1
                have cS_19_2 : _ = some (Value.slice Sb Sm Sd) := S_19.cell 2
                have T_19 := T_18.next hB_19
                have cT_19_0 : _ = some (Value.bool (decide ((p2).num < 0))) := T_19.cell 0
                have cT_19_1 : _ = some (Value.slice Ta Tn Tc) := T_19.cell 1
                have cT_19_2 : _ = some (Value.slice Tb Tm Td) := T_19.cell 2
                have A_19 := A_18.next hB_19
                have cA_19_0 : _ = some (Value.bool (qsg (fq lo) 0)) := A_19.cell 0
                have cA_19_1 : _ = some (Value.slice pa pn pc) := A_19.cell 1
                have cA_19_2 : _ = some (Value.slice pb pm pd) := A_19.cell 2
                have B_19 := B_18.next hB_19
                have cB_19_0 : _ = some (Value.bool (qsg (fq hi) 0)) := B_19.cell 0
                have cB_19_1 : _ = some (Value.slice ya yn yc) := B_19.cell 1
                have cB_19_2 : _ = some (Value.slice yb ym yd) := B_19.cell 2
                have Z_19 := Z_18.next hB_19
                have cZ_19_0 : _ = some (Value.bool (qsg (fq f) 13)) := Z_19.cell 0
                have cZ_19_1 : _ = some (Value.slice za zn zc) := Z_19.cell 1
                have cZ_19_2 : _ = some (Value.slice zb zm zd) := Z_19.cell 2
                have GL_19 := GL_18.below hB_19
                have hR_19 := hR_18.below hB_19
                have OS_19 := OS_18.below hB_19
                have OS'_19 := OS'_18.below hB_19
                have OT_19 := OT_18.below hB_19
                have OT'_19 := OT'_18.below hB_19
                have Op_19 := Op_18.below hB_19
                have Pp_19 := Pp_18.below hB_19
                have Oy_19 := Oy_18.below hB_19
                have Py_19 := Py_18.below hB_19
                have Oz_19 := Oz_18.below hB_19
                have Pz_19 := Pz_18.below hB_19
                have hbel_19 := hbel_18.next hB_19
                have hsz_19 := hB_19.size
                clear R_18 cR_18_0 cR_18_1 cR_18_2 S_18 cS_18_0 cS_18_1 cS_18_2 T_18 cT_18_0 cT_18_1 cT_18_2 A_18 cA_18_0 cA_18_1 cA_18_2 B_18 cB_18_0 cB_18_1 cB_18_2 Z_18 cZ_18_0 cZ_18_1 cZ_18_2 GL_18 hR_18 OS_18 OS'_18 OT_18 OT'_18 Op_18 Pp_18 Oy_18 Py_18 Oz_18 Pz_18 hbel_18 hB_19
                try clear hB
                go_wp2
                go_ret
                exact ⟨rfl, hbel_19⟩
              · have hff : (FloatKind.f64.format.order f f != some .eq) = true := by rw [fcmp_self]; exact decide_eq_true (by omega)
                clear hf1 hf2
                go_wp2_with fail
                refine (HF.out _).mono ?_
                rintro e w17 ⟨za, zn, zc, zb, zm, zd, rfl, hO, hO', hD, hB⟩
                have hB_17 : Below w16.heap.size w16 w17 := (bl.next hB)
                have R_17 := R_16.next hB_17
                have cR_17_0 : _ = some (Value.bool s) := R_17.cell 0
                have cR_17_1 : _ = some (Value.slice a n c) := R_17.cell 1
                have cR_17_2 : _ = some (Value.slice b m d) := R_17.cell 2
                have S_17 := S_16.next hB_17
                have cS_17_0 : _ = some (Value.bool (decide ((p1).num < 0))) := S_17.cell 0
                have cS_17_1 : _ = some (Value.slice Sa Sn Sc) := S_17.cell 1
                have cS_17_2 : _ = some (Value.slice Sb Sm Sd) := S_17.cell 2
                have T_17 := T_16.next hB_17
                have cT_17_0 : _ = some (Value.bool (decide ((p2).num < 0))) := T_17.cell 0
                have cT_17_1 : _ = some (Value.slice Ta Tn Tc) := T_17.cell 1
                have cT_17_2 : _ = some (Value.slice Tb Tm Td) := T_17.cell 2
                have A_17 := A_16.next hB_17
                have cA_17_0 : _ = some (Value.bool (qsg (fq lo) 0)) := A_17.cell 0
                have cA_17_1 : _ = some (Value.slice pa pn pc) := A_17.cell 1
                have cA_17_2 : _ = some (Value.slice pb pm pd) := A_17.cell 2
                have B_17 := B_16.next hB_17
                have cB_17_0 : _ = some (Value.bool (qsg (fq hi) 0)) := B_17.cell 0
                have cB_17_1 : _ = some (Value.slice ya yn yc) := B_17.cell 1
                have cB_17_2 : _ = some (Value.slice yb ym yd) := B_17.cell 2
                have GL_17 := GL_16.below hB_17
                have hR_17 := hR_16.below hB_17
                have OS_17 := OS_16.below hB_17
                have OS'_17 := OS'_16.below hB_17
                have OT_17 := OT_16.below hB_17
                have OT'_17 := OT'_16.below hB_17
                have Op_17 := Op_16.below hB_17
                have Pp_17 := Pp_16.below hB_17
                have Oy_17 := Oy_16.below hB_17
                have Py_17 := Py_16.below hB_17
                have hbel_17 := hbel_16.next hB_17
                have hsz_17 := hB_17.size
                clear R_16 cR_16_0 cR_16_1 cR_16_2 S_16 cS_16_0 cS_16_1 cS_16_2 T_16 cT_16_0 cT_16_1 cT_16_2 A_16 cA_16_0 cA_16_1 cA_16_2 B_16 cB_16_0 cB_16_1 cB_16_2 GL_16 hR_16 OS_16 OS'_16 OT_16 OT'_16 Op_16 Pp_16 Oy_16 Py_16 hbel_16 hB_17
                have Oz_17 := hO
                have ltOz := hO.ltB
                have Pz_17 := hO'
                have ltPz := hO'.ltB
                clear hO hO' hD
                try clear hB
                have hbx := blk_new w17 #[Value.bool (qsg (fq f) 13), Value.slice za zn zc, Value.slice zb zm zd] 27
                have hbB := (Below.refl w17.heap.size w17).alloc (Nat.le_refl _) (.cells #[Value.bool (qsg (fq f) 13), Value.slice za zn zc, Value.slice zb zm zd] 27)
                have hltZ := hbx.lt
                have hB_18 : Below w17.heap.size w17 (w17.alloc (.cells #[Value.bool (qsg (fq f) 13), Value.slice za zn zc, Value.slice zb zm zd] 27)) := hbB
                have R_18 := R_17.next hB_18
                have cR_18_0 : _ = some (Value.bool s) := R_18.cell 0
                have cR_18_1 : _ = some (Value.slice a n c) := R_18.cell 1
                have cR_18_2 : _ = some (Value.slice b m d) := R_18.cell 2
                have S_18 := S_17.next hB_18
                have cS_18_0 : _ = some (Value.bool (decide ((p1).num < 0))) := S_18.cell 0
                have cS_18_1 : _ = some (Value.slice Sa Sn Sc) := S_18.cell 1
                have cS_18_2 : _ = some (Value.slice Sb Sm Sd) := S_18.cell 2
                have T_18 := T_17.next hB_18
                have cT_18_0 : _ = some (Value.bool (decide ((p2).num < 0))) := T_18.cell 0
                have cT_18_1 : _ = some (Value.slice Ta Tn Tc) := T_18.cell 1
                have cT_18_2 : _ = some (Value.slice Tb Tm Td) := T_18.cell 2
                have A_18 := A_17.next hB_18
                have cA_18_0 : _ = some (Value.bool (qsg (fq lo) 0)) := A_18.cell 0
                have cA_18_1 : _ = some (Value.slice pa pn pc) := A_18.cell 1
                have cA_18_2 : _ = some (Value.slice pb pm pd) := A_18.cell 2
                have B_18 := B_17.next hB_18
                have cB_18_0 : _ = some (Value.bool (qsg (fq hi) 0)) := B_18.cell 0
                have cB_18_1 : _ = some (Value.slice ya yn yc) := B_18.cell 1
                have cB_18_2 : _ = some (Value.slice yb ym yd) := B_18.cell 2
                have GL_18 := GL_17.below hB_18
                have hR_18 := hR_17.below hB_18
                have OS_18 := OS_17.below hB_18
                have OS'_18 := OS'_17.below hB_18
                have OT_18 := OT_17.below hB_18
                have OT'_18 := OT'_17.below hB_18
                have Op_18 := Op_17.below hB_18
                have Pp_18 := Pp_17.below hB_18
                have Oy_18 := Oy_17.below hB_18
                have Py_18 := Py_17.below hB_18
                have Oz_18 := Oz_17.below hB_18
                have Pz_18 := Pz_17.below hB_18
                have hbel_18 := hbel_17.next hB_18
                have hsz_18 := hB_18.size
                clear hB_18
                have Z_18 := hbx
                clear hbx hbB
                have cZ_18_0 : _ = some (Value.bool (qsg (fq f) 13)) := Z_18.cell 0
                have cZ_18_1 : _ = some (Value.slice za zn zc) := Z_18.cell 1
                have cZ_18_2 : _ = some (Value.slice zb zm zd) := Z_18.cell 2
                go_wp2_with fail
                clear R_17 cR_17_0 cR_17_1 cR_17_2 S_17 cS_17_0 cS_17_1 cS_17_2 T_17 cT_17_0 cT_17_1 cT_17_2 A_17 cA_17_0 cA_17_1 cA_17_2 B_17 cB_17_0 cB_17_1 cB_17_2 GL_17 hR_17 OS_17 OS'_17 OT_17 OT'_17 Op_17 Pp_17 Oy_17 Py_17 Oz_17 Pz_17 hbel_17
                generalize (w17.alloc (.cells #[Value.bool (qsg (fq f) 13), Value.slice za zn zc, Value.slice zb zm zd] 27)) = v18 at *
                go_wp2
                go_ret
                exact ⟨rfl, hbel_18⟩
        · skip
          have HI1 := hid (fun w => isinf_b (w := w) hNA.out.ll fl)
          have HI2 := hid (fun w => isinf_i (w := w) hNA.out.lh (by have := hNA.out.nh; omega))
          clear hE hlt hX fl fh hX2
          clear nl nh nx one le
          go_wp2_with fail
          refine (HZ.out _).mono ?_
          rintro e w6 ⟨rfl, hB⟩
          have hB_6 : Below w5.heap.size w5 w6 := (bl.next hB)
          have R_6 := R_5.next hB_6
          have cR_6_0 : _ = some (Value.bool s) := R_6.cell 0
          have cR_6_1 : _ = some (Value.slice a n c) := R_6.cell 1
          have cR_6_2 : _ = some (Value.slice b m d) := R_6.cell 2
          have GL_6 := GL_5.below hB_6
          have hR_6 := hR_5.below hB_6
          have hbel_6 := hbel_5.next hB_6
          have hsz_6 := hB_6.size
          clear R_5 cR_5_0 cR_5_1 cR_5_2 GL_5 hR_5 hbel_5 hB_6
          try clear hB
          go_wp2_with fail
          refine (HI1.out _).mono ?_
          rintro e w7 ⟨rfl, hB⟩
          have hB_7 : Below w6.heap.size w6 w7 := (bl.next hB)
          have R_7 := R_6.next hB_7
          have cR_7_0 : _ = some (Value.bool s) := R_7.cell 0
          have cR_7_1 : _ = some (Value.slice a n c) := R_7.cell 1
          have cR_7_2 : _ = some (Value.slice b m d) := R_7.cell 2
          have GL_7 := GL_6.below hB_7
          have hR_7 := hR_6.below hB_7
          have hbel_7 := hbel_6.next hB_7
          have hsz_7 := hB_7.size
          clear R_6 cR_6_0 cR_6_1 cR_6_2 GL_6 hR_6 hbel_6 hB_7
          try clear hB
          go_wp2_with fail
          refine (HI2.out _).mono ?_
          rintro e w8 ⟨rfl, hB⟩
          have hB_8 : Below w7.heap.size w7 w8 := (bl.next hB)
          have R_8 := R_7.next hB_8
          have cR_8_0 : _ = some (Value.bool s) := R_8.cell 0
          have cR_8_1 : _ = some (Value.slice a n c) := R_8.cell 1
          have cR_8_2 : _ = some (Value.slice b m d) := R_8.cell 2
          have GL_8 := GL_7.below hB_8
          have hR_8 := hR_7.below hB_8
          have hbel_8 := hbel_7.next hB_8
          have hsz_8 := hB_8.size
          clear R_7 cR_7_0 cR_7_1 cR_7_2 GL_7 hR_7 hbel_7 hB_8
          try clear hB
          by_cases hf1 : fr f < 9218868437227405312
          · have HF := hid (fun w => near64 (w := w) f hfh.out)
            rw [show fe f = 0 from fe_fin hf1] at HF
            have HB := hid (fun w (g : Lng w) a n c b m d (ha : Rd w a n c (qnl (fq f) 0)) (hb : Rd w b m d (qdl (fq f) 0)) => near_back g hfh.out hf1 ha hb)
            have hfe := nz_eq hf1
            clear hf1
            go_wp2_with fail
            refine (HF.out _).mono ?_
            rintro e w9 ⟨za, zn, zc, zb, zm, zd, rfl, hO, hO', hD, hB⟩
            have hB_9 : Below w8.heap.size w8 w9 := (bl.next hB)
            have R_9 := R_8.next hB_9
            have cR_9_0 : _ = some (Value.bool s) := R_9.cell 0
            have cR_9_1 : _ = some (Value.slice a n c) := R_9.cell 1
            have cR_9_2 : _ = some (Value.slice b m d) := R_9.cell 2
            have GL_9 := GL_8.below hB_9
            have hR_9 := hR_8.below hB_9
            have hbel_9 := hbel_8.next hB_9
            have hsz_9 := hB_9.size
            clear R_8 cR_8_0 cR_8_1 cR_8_2 GL_8 hR_8 hbel_8 hB_9
            have Oz_9 := hO
            have ltOz := hO.ltB
            have Pz_9 := hO'
            have ltPz := hO'.ltB
            clear hO hO' hD
            try clear hB
            have hbx := blk_new w9 #[Value.bool (qsg (fq f) 0), Value.slice za zn zc, Value.slice zb zm zd] 27
            have hbB := (Below.refl w9.heap.size w9).alloc (Nat.le_refl _) (.cells #[Value.bool (qsg (fq f) 0), Value.slice za zn zc, Value.slice zb zm zd] 27)
            have hltZ := hbx.lt
            have hB_10 : Below w9.heap.size w9 (w9.alloc (.cells #[Value.bool (qsg (fq f) 0), Value.slice za zn zc, Value.slice zb zm zd] 27)) := hbB
            have R_10 := R_9.next hB_10
            have cR_10_0 : _ = some (Value.bool s) := R_10.cell 0
            have cR_10_1 : _ = some (Value.slice a n c) := R_10.cell 1
            have cR_10_2 : _ = some (Value.slice b m d) := R_10.cell 2
            have GL_10 := GL_9.below hB_10
            have hR_10 := hR_9.below hB_10
            have Oz_10 := Oz_9.below hB_10
            have Pz_10 := Pz_9.below hB_10
            have hbel_10 := hbel_9.next hB_10
            have hsz_10 := hB_10.size
            clear hB_10
            have Z_10 := hbx
            clear hbx hbB
            have cZ_10_0 : _ = some (Value.bool (qsg (fq f) 0)) := Z_10.cell 0
            have cZ_10_1 : _ = some (Value.slice za zn zc) := Z_10.cell 1
            have cZ_10_2 : _ = some (Value.slice zb zm zd) := Z_10.cell 2
            go_wp2_with fail
            clear R_9 cR_9_0 cR_9_1 cR_9_2 GL_9 hR_9 Oz_9 Pz_9 hbel_9
            generalize (w9.alloc (.cells #[Value.bool (qsg (fq f) 0), Value.slice za zn zc, Value.slice zb zm zd] 27)) = v10 at *
            go_wp2_with fail
            refine (HB.out _ GL_10 _ _ _ _ _ _ Oz_10.rd Pz_10.rd).mono ?_
            rintro e w11 ⟨rfl, hB⟩
            have hB_11 : Below v10.heap.size v10 w11 := (bl.next hB)
            have R_11 := R_10.next hB_11
            have cR_11_0 : _ = some (Value.bool s) := R_11.cell 0
            have cR_11_1 : _ = some (Value.slice a n c) := R_11.cell 1
            have cR_11_2 : _ = some (Value.slice b m d) := R_11.cell 2
            have Z_11 := Z_10.next hB_11
            have cZ_11_0 : _ = some (Value.bool (qsg (fq f) 0)) := Z_11.cell 0
            have cZ_11_1 : _ = some (Value.slice za zn zc) := Z_11.cell 1
            have cZ_11_2 : _ = some (Value.slice zb zm zd) := Z_11.cell 2
            have GL_11 := GL_10.below hB_11
            have hR_11 := hR_10.below hB_11
            have Oz_11 := Oz_10.below hB_11
            have Pz_11 := Pz_10.below hB_11
            have hbel_11 := hbel_10.next hB_11
            have hsz_11 := hB_11.size
            clear R_10 cR_10_0 cR_10_1 cR_10_2 Z_10 cZ_10_0 cZ_10_1 cZ_10_2 GL_10 hR_10 Oz_10 Pz_10 hbel_10 hB_11
            try clear hB
            go_wp2
            go_ret
            exact ⟨rfl, hbel_11⟩
          · have HF := hid (fun w => near64 (w := w) f hfh.out)
            rw [show fe f = 13 from fe_nf hf1] at HF
            by_cases hf2 : fr f = 9218868437227405312
            · have hff : (FloatKind.f64.format.order f f != some .eq) = false := by rw [fcmp_self]; unfold fnan; rw [hf2]; rfl
              have HI := hid (fun w => isinf_i (w := w) hfh.out hf2)
              clear hf1 hf2
              go_wp2_with fail
              refine (HF.out _).mono ?_
              rintro e w9 ⟨za, zn, zc, zb, zm, zd, rfl, hO, hO', hD, hB⟩
              have hB_9 : Below w8.heap.size w8 w9 := (bl.next hB)
              have R_9 := R_8.next hB_9
              have cR_9_0 : _ = some (Value.bool s) := R_9.cell 0
              have cR_9_1 : _ = some (Value.slice a n c) := R_9.cell 1
              have cR_9_2 : _ = some (Value.slice b m d) := R_9.cell 2
              have GL_9 := GL_8.below hB_9
              have hR_9 := hR_8.below hB_9
              have hbel_9 := hbel_8.next hB_9
              have hsz_9 := hB_9.size
              clear R_8 cR_8_0 cR_8_1 cR_8_2 GL_8 hR_8 hbel_8 hB_9
              have Oz_9 := hO
              have ltOz := hO.ltB
              have Pz_9 := hO'
              have ltPz := hO'.ltB
              clear hO hO' hD
              try clear hB
              have hbx := blk_new w9 #[Value.bool (qsg (fq f) 13), Value.slice za zn zc, Value.slice zb zm zd] 27
              have hbB := (Below.refl w9.heap.size w9).alloc (Nat.le_refl _) (.cells #[Value.bool (qsg (fq f) 13), Value.slice za zn zc, Value.slice zb zm zd] 27)
              have hltZ := hbx.lt
              have hB_10 : Below w9.heap.size w9 (w9.alloc (.cells #[Value.bool (qsg (fq f) 13), Value.slice za zn zc, Value.slice zb zm zd] 27)) := hbB
              have R_10 := R_9.next hB_10
              have cR_10_0 : _ = some (Value.bool s) := R_10.cell 0
              have cR_10_1 : _ = some (Value.slice a n c) := R_10.cell 1
              have cR_10_2 : _ = some (Value.slice b m d) := R_10.cell 2
              have GL_10 := GL_9.below hB_10
              have hR_10 := hR_9.below hB_10
              have Oz_10 := Oz_9.below hB_10
              have Pz_10 := Pz_9.below hB_10
              have hbel_10 := hbel_9.next hB_10
              have hsz_10 := hB_10.size
              clear hB_10
              have Z_10 := hbx
              clear hbx hbB
              have cZ_10_0 : _ = some (Value.bool (qsg (fq f) 13)) := Z_10.cell 0
              have cZ_10_1 : _ = some (Value.slice za zn zc) := Z_10.cell 1
              have cZ_10_2 : _ = some (Value.slice zb zm zd) := Z_10.cell 2
              go_wp2_with fail
              clear R_9 cR_9_0 cR_9_1 cR_9_2 GL_9 hR_9 Oz_9 Pz_9 hbel_9
              generalize (w9.alloc (.cells #[Value.bool (qsg (fq f) 13), Value.slice za zn zc, Value.slice zb zm zd] 27)) = v10 at *
              go_wp2_with fail
              refine (HI.out _).mono ?_
              rintro e w11 ⟨rfl, hB⟩
              have hB_11 : Below v10.heap.size v10 w11 := (bl.next hB)
              have R_11 := R_10.next hB_11
              have cR_11_0 : _ = some (Value.bool s) := R_11.cell 0
              have cR_11_1 : _ = some (Value.slice a n c) := R_11.cell 1
              have cR_11_2 : _ = some (Value.slice b m d) := R_11.cell 2
              have Z_11 := Z_10.next hB_11
              have cZ_11_0 : _ = some (Value.bool (qsg (fq f) 13)) := Z_11.cell 0
              have cZ_11_1 : _ = some (Value.slice za zn zc) := Z_11.cell 1
              have cZ_11_2 : _ = some (Value.slice zb zm zd) := Z_11.cell 2
              have GL_11 := GL_10.below hB_11
              have hR_11 := hR_10.below hB_11
              have Oz_11 := Oz_10.below hB_11
              have Pz_11 := Pz_10.below hB_11
              have hbel_11 := hbel_10.next hB_11
              have hsz_11 := hB_11.size
              clear R_10 cR_10_0 cR_10_1 cR_10_2 Z_10 cZ_10_0 cZ_10_1 cZ_10_2 GL_10 hR_10 Oz_10 Pz_10 hbel_10 hB_11
              try clear hB
              go_wp2
              go_ret
              exact ⟨rfl, hbel_11⟩
            · have hff : (FloatKind.f64.format.order f f != some .eq) = true := by rw [fcmp_self]; exact decide_eq_true (by omega)
              clear hf1 hf2
              go_wp2_with fail
              refine (HF.out _).mono ?_
              rintro e w9 ⟨za, zn, zc, zb, zm, zd, rfl, hO, hO', hD, hB⟩
              have hB_9 : Below w8.heap.size w8 w9 := (bl.next hB)
              have R_9 := R_8.next hB_9
              have cR_9_0 : _ = some (Value.bool s) := R_9.cell 0
              have cR_9_1 : _ = some (Value.slice a n c) := R_9.cell 1
              have cR_9_2 : _ = some (Value.slice b m d) := R_9.cell 2
              have GL_9 := GL_8.below hB_9
              have hR_9 := hR_8.below hB_9
              have hbel_9 := hbel_8.next hB_9
              have hsz_9 := hB_9.size
              clear R_8 cR_8_0 cR_8_1 cR_8_2 GL_8 hR_8 hbel_8 hB_9
              have Oz_9 := hO
              have ltOz := hO.ltB
              have Pz_9 := hO'
              have ltPz := hO'.ltB
              clear hO hO' hD
              try clear hB
              have hbx := blk_new w9 #[Value.bool (qsg (fq f) 13), Value.slice za zn zc, Value.slice zb zm zd] 27
              have hbB := (Below.refl w9.heap.size w9).alloc (Nat.le_refl _) (.cells #[Value.bool (qsg (fq f) 13), Value.slice za zn zc, Value.slice zb zm zd] 27)
              have hltZ := hbx.lt
              have hB_10 : Below w9.heap.size w9 (w9.alloc (.cells #[Value.bool (qsg (fq f) 13), Value.slice za zn zc, Value.slice zb zm zd] 27)) := hbB
              have R_10 := R_9.next hB_10
              have cR_10_0 : _ = some (Value.bool s) := R_10.cell 0
              have cR_10_1 : _ = some (Value.slice a n c) := R_10.cell 1
              have cR_10_2 : _ = some (Value.slice b m d) := R_10.cell 2
              have GL_10 := GL_9.below hB_10
              have hR_10 := hR_9.below hB_10
              have Oz_10 := Oz_9.below hB_10
              have Pz_10 := Pz_9.below hB_10
              have hbel_10 := hbel_9.next hB_10
              have hsz_10 := hB_10.size
              clear hB_10
              have Z_10 := hbx
              clear hbx hbB
              have cZ_10_0 : _ = some (Value.bool (qsg (fq f) 13)) := Z_10.cell 0
              have cZ_10_1 : _ = some (Value.slice za zn zc) := Z_10.cell 1
              have cZ_10_2 : _ = some (Value.slice zb zm zd) := Z_10.cell 2
              go_wp2_with fail
              clear R_9 cR_9_0 cR_9_1 cR_9_2 GL_9 hR_9 Oz_9 Pz_9 hbel_9
              generalize (w9.alloc (.cells #[Value.bool (qsg (fq f) 13), Value.slice za zn zc, Value.slice zb zm zd] 27)) = v10 at *
              go_wp2
              go_ret
              exact ⟨rfl, hbel_10⟩
      · skip
        by_cases fh : fr hi < 9218868437227405312
        · skip
          have HI1 := hid (fun w => isinf_i (w := w) hNA.out.ll (by have := hNA.out.nl; omega))
          have HI2 := hid (fun w => isinf_b (w := w) hNA.out.lh fh)
          clear hE hlt hX fl fh hX2
          clear nl nh nx one le
          go_wp2_with fail
          refine (HZ.out _).mono ?_
          rintro e w6 ⟨rfl, hB⟩
          have hB_6 : Below w5.heap.size w5 w6 := (bl.next hB)
          have R_6 := R_5.next hB_6
          have cR_6_0 : _ = some (Value.bool s) := R_6.cell 0
          have cR_6_1 : _ = some (Value.slice a n c) := R_6.cell 1
          have cR_6_2 : _ = some (Value.slice b m d) := R_6.cell 2
          have GL_6 := GL_5.below hB_6
          have hR_6 := hR_5.below hB_6
          have hbel_6 := hbel_5.next hB_6
          have hsz_6 := hB_6.size
          clear R_5 cR_5_0 cR_5_1 cR_5_2 GL_5 hR_5 hbel_5 hB_6
          try clear hB
          go_wp2_with fail
          refine (HI1.out _).mono ?_
          rintro e w7 ⟨rfl, hB⟩
          have hB_7 : Below w6.heap.size w6 w7 := (bl.next hB)
          have R_7 := R_6.next hB_7
          have cR_7_0 : _ = some (Value.bool s) := R_7.cell 0
          have cR_7_1 : _ = some (Value.slice a n c) := R_7.cell 1
          have cR_7_2 : _ = some (Value.slice b m d) := R_7.cell 2
          have GL_7 := GL_6.below hB_7
          have hR_7 := hR_6.below hB_7
          have hbel_7 := hbel_6.next hB_7
          have hsz_7 := hB_7.size
          clear R_6 cR_6_0 cR_6_1 cR_6_2 GL_6 hR_6 hbel_6 hB_7
          try clear hB
          by_cases hf1 : fr f < 9218868437227405312
          · have HF := hid (fun w => near64 (w := w) f hfh.out)
            rw [show fe f = 0 from fe_fin hf1] at HF
            have HB := hid (fun w (g : Lng w) a n c b m d (ha : Rd w a n c (qnl (fq f) 0)) (hb : Rd w b m d (qdl (fq f) 0)) => near_back g hfh.out hf1 ha hb)
            have hfe := nz_eq hf1
            clear hf1
            go_wp2_with fail
            refine (HF.out _).mono ?_
            rintro e w8 ⟨za, zn, zc, zb, zm, zd, rfl, hO, hO', hD, hB⟩
            have hB_8 : Below w7.heap.size w7 w8 := (bl.next hB)
            have R_8 := R_7.next hB_8
            have cR_8_0 : _ = some (Value.bool s) := R_8.cell 0
            have cR_8_1 : _ = some (Value.slice a n c) := R_8.cell 1
            have cR_8_2 : _ = some (Value.slice b m d) := R_8.cell 2
            have GL_8 := GL_7.below hB_8
            have hR_8 := hR_7.below hB_8
            have hbel_8 := hbel_7.next hB_8
            have hsz_8 := hB_8.size
            clear R_7 cR_7_0 cR_7_1 cR_7_2 GL_7 hR_7 hbel_7 hB_8
            have Oz_8 := hO
            have ltOz := hO.ltB
            have Pz_8 := hO'
            have ltPz := hO'.ltB
            clear hO hO' hD
            try clear hB
            have hbx := blk_new w8 #[Value.bool (qsg (fq f) 0), Value.slice za zn zc, Value.slice zb zm zd] 27
            have hbB := (Below.refl w8.heap.size w8).alloc (Nat.le_refl _) (.cells #[Value.bool (qsg (fq f) 0), Value.slice za zn zc, Value.slice zb zm zd] 27)
            have hltZ := hbx.lt
            have hB_9 : Below w8.heap.size w8 (w8.alloc (.cells #[Value.bool (qsg (fq f) 0), Value.slice za zn zc, Value.slice zb zm zd] 27)) := hbB
            have R_9 := R_8.next hB_9
            have cR_9_0 : _ = some (Value.bool s) := R_9.cell 0
            have cR_9_1 : _ = some (Value.slice a n c) := R_9.cell 1
            have cR_9_2 : _ = some (Value.slice b m d) := R_9.cell 2
            have GL_9 := GL_8.below hB_9
            have hR_9 := hR_8.below hB_9
            have Oz_9 := Oz_8.below hB_9
            have Pz_9 := Pz_8.below hB_9
            have hbel_9 := hbel_8.next hB_9
            have hsz_9 := hB_9.size
            clear hB_9
            have Z_9 := hbx
            clear hbx hbB
            have cZ_9_0 : _ = some (Value.bool (qsg (fq f) 0)) := Z_9.cell 0
            have cZ_9_1 : _ = some (Value.slice za zn zc) := Z_9.cell 1
            have cZ_9_2 : _ = some (Value.slice zb zm zd) := Z_9.cell 2
            go_wp2_with fail
            clear R_8 cR_8_0 cR_8_1 cR_8_2 GL_8 hR_8 Oz_8 Pz_8 hbel_8
            generalize (w8.alloc (.cells #[Value.bool (qsg (fq f) 0), Value.slice za zn zc, Value.slice zb zm zd] 27)) = v9 at *
            go_wp2_with fail
            refine (HB.out _ GL_9 _ _ _ _ _ _ Oz_9.rd Pz_9.rd).mono ?_
            rintro e w10 ⟨rfl, hB⟩
            have hB_10 : Below v9.heap.size v9 w10 := (bl.next hB)
            have R_10 := R_9.next hB_10
            have cR_10_0 : _ = some (Value.bool s) := R_10.cell 0
            have cR_10_1 : _ = some (Value.slice a n c) := R_10.cell 1
            have cR_10_2 : _ = some (Value.slice b m d) := R_10.cell 2
            have Z_10 := Z_9.next hB_10
            have cZ_10_0 : _ = some (Value.bool (qsg (fq f) 0)) := Z_10.cell 0
            have cZ_10_1 : _ = some (Value.slice za zn zc) := Z_10.cell 1
            have cZ_10_2 : _ = some (Value.slice zb zm zd) := Z_10.cell 2
            have GL_10 := GL_9.below hB_10
            have hR_10 := hR_9.below hB_10
            have Oz_10 := Oz_9.below hB_10
            have Pz_10 := Pz_9.below hB_10
            have hbel_10 := hbel_9.next hB_10
            have hsz_10 := hB_10.size
            clear R_9 cR_9_0 cR_9_1 cR_9_2 Z_9 cZ_9_0 cZ_9_1 cZ_9_2 GL_9 hR_9 Oz_9 Pz_9 hbel_9 hB_10
            try clear hB
            go_wp2
            go_ret
            exact ⟨rfl, hbel_10⟩
          · have HF := hid (fun w => near64 (w := w) f hfh.out)
            rw [show fe f = 13 from fe_nf hf1] at HF
            by_cases hf2 : fr f = 9218868437227405312
            · have hff : (FloatKind.f64.format.order f f != some .eq) = false := by rw [fcmp_self]; unfold fnan; rw [hf2]; rfl
              have HI := hid (fun w => isinf_i (w := w) hfh.out hf2)
              clear hf1 hf2
              go_wp2_with fail
              refine (HF.out _).mono ?_
              rintro e w8 ⟨za, zn, zc, zb, zm, zd, rfl, hO, hO', hD, hB⟩
              have hB_8 : Below w7.heap.size w7 w8 := (bl.next hB)
              have R_8 := R_7.next hB_8
              have cR_8_0 : _ = some (Value.bool s) := R_8.cell 0
              have cR_8_1 : _ = some (Value.slice a n c) := R_8.cell 1
              have cR_8_2 : _ = some (Value.slice b m d) := R_8.cell 2
              have GL_8 := GL_7.below hB_8
              have hR_8 := hR_7.below hB_8
              have hbel_8 := hbel_7.next hB_8
              have hsz_8 := hB_8.size
              clear R_7 cR_7_0 cR_7_1 cR_7_2 GL_7 hR_7 hbel_7 hB_8
              have Oz_8 := hO
              have ltOz := hO.ltB
              have Pz_8 := hO'
              have ltPz := hO'.ltB
              clear hO hO' hD
              try clear hB
              have hbx := blk_new w8 #[Value.bool (qsg (fq f) 13), Value.slice za zn zc, Value.slice zb zm zd] 27
              have hbB := (Below.refl w8.heap.size w8).alloc (Nat.le_refl _) (.cells #[Value.bool (qsg (fq f) 13), Value.slice za zn zc, Value.slice zb zm zd] 27)
              have hltZ := hbx.lt
              have hB_9 : Below w8.heap.size w8 (w8.alloc (.cells #[Value.bool (qsg (fq f) 13), Value.slice za zn zc, Value.slice zb zm zd] 27)) := hbB
              have R_9 := R_8.next hB_9
              have cR_9_0 : _ = some (Value.bool s) := R_9.cell 0
              have cR_9_1 : _ = some (Value.slice a n c) := R_9.cell 1
              have cR_9_2 : _ = some (Value.slice b m d) := R_9.cell 2
              have GL_9 := GL_8.below hB_9
              have hR_9 := hR_8.below hB_9
              have Oz_9 := Oz_8.below hB_9
              have Pz_9 := Pz_8.below hB_9
              have hbel_9 := hbel_8.next hB_9
              have hsz_9 := hB_9.size
              clear hB_9
              have Z_9 := hbx
              clear hbx hbB
              have cZ_9_0 : _ = some (Value.bool (qsg (fq f) 13)) := Z_9.cell 0
              have cZ_9_1 : _ = some (Value.slice za zn zc) := Z_9.cell 1
              have cZ_9_2 : _ = some (Value.slice zb zm zd) := Z_9.cell 2
              go_wp2_with fail
              clear R_8 cR_8_0 cR_8_1 cR_8_2 GL_8 hR_8 Oz_8 Pz_8 hbel_8
              generalize (w8.alloc (.cells #[Value.bool (qsg (fq f) 13), Value.slice za zn zc, Value.slice zb zm zd] 27)) = v9 at *
              go_wp2_with fail
              refine (HI.out _).mono ?_
              rintro e w10 ⟨rfl, hB⟩
              have hB_10 : Below v9.heap.size v9 w10 := (bl.next hB)
              have R_10 := R_9.next hB_10
              have cR_10_0 : _ = some (Value.bool s) := R_10.cell 0
              have cR_10_1 : _ = some (Value.slice a n c) := R_10.cell 1
              have cR_10_2 : _ = some (Value.slice b m d) := R_10.cell 2
              have Z_10 := Z_9.next hB_10
              have cZ_10_0 : _ = some (Value.bool (qsg (fq f) 13)) := Z_10.cell 0
              have cZ_10_1 : _ = some (Value.slice za zn zc) := Z_10.cell 1
              have cZ_10_2 : _ = some (Value.slice zb zm zd) := Z_10.cell 2
              have GL_10 := GL_9.below hB_10
              have hR_10 := hR_9.below hB_10
              have Oz_10 := Oz_9.below hB_10
              have Pz_10 := Pz_9.below hB_10
              have hbel_10 := hbel_9.next hB_10
              have hsz_10 := hB_10.size
              clear R_9 cR_9_0 cR_9_1 cR_9_2 Z_9 cZ_9_0 cZ_9_1 cZ_9_2 GL_9 hR_9 Oz_9 Pz_9 hbel_9 hB_10
              try clear hB
              go_wp2
              go_ret
              exact ⟨rfl, hbel_10⟩
            · have hff : (FloatKind.f64.format.order f f != some .eq) = true := by rw [fcmp_self]; exact decide_eq_true (by omega)
              clear hf1 hf2
              go_wp2_with fail
              refine (HF.out _).mono ?_
              rintro e w8 ⟨za, zn, zc, zb, zm, zd, rfl, hO, hO', hD, hB⟩
              have hB_8 : Below w7.heap.size w7 w8 := (bl.next hB)
              have R_8 := R_7.next hB_8
              have cR_8_0 : _ = some (Value.bool s) := R_8.cell 0
              have cR_8_1 : _ = some (Value.slice a n c) := R_8.cell 1
              have cR_8_2 : _ = some (Value.slice b m d) := R_8.cell 2
              have GL_8 := GL_7.below hB_8
              have hR_8 := hR_7.below hB_8
              have hbel_8 := hbel_7.next hB_8
              have hsz_8 := hB_8.size
              clear R_7 cR_7_0 cR_7_1 cR_7_2 GL_7 hR_7 hbel_7 hB_8
              have Oz_8 := hO
              have ltOz := hO.ltB
              have Pz_8 := hO'
              have ltPz := hO'.ltB
              clear hO hO' hD
              try clear hB
              have hbx := blk_new w8 #[Value.bool (qsg (fq f) 13), Value.slice za zn zc, Value.slice zb zm zd] 27
              have hbB := (Below.refl w8.heap.size w8).alloc (Nat.le_refl _) (.cells #[Value.bool (qsg (fq f) 13), Value.slice za zn zc, Value.slice zb zm zd] 27)
              have hltZ := hbx.lt
              have hB_9 : Below w8.heap.size w8 (w8.alloc (.cells #[Value.bool (qsg (fq f) 13), Value.slice za zn zc, Value.slice zb zm zd] 27)) := hbB
              have R_9 := R_8.next hB_9
              have cR_9_0 : _ = some (Value.bool s) := R_9.cell 0
              have cR_9_1 : _ = some (Value.slice a n c) := R_9.cell 1
              have cR_9_2 : _ = some (Value.slice b m d) := R_9.cell 2
              have GL_9 := GL_8.below hB_9
              have hR_9 := hR_8.below hB_9
              have Oz_9 := Oz_8.below hB_9
              have Pz_9 := Pz_8.below hB_9
              have hbel_9 := hbel_8.next hB_9
              have hsz_9 := hB_9.size
              clear hB_9
              have Z_9 := hbx
              clear hbx hbB
              have cZ_9_0 : _ = some (Value.bool (qsg (fq f) 13)) := Z_9.cell 0
              have cZ_9_1 : _ = some (Value.slice za zn zc) := Z_9.cell 1
              have cZ_9_2 : _ = some (Value.slice zb zm zd) := Z_9.cell 2
              go_wp2_with fail
              clear R_8 cR_8_0 cR_8_1 cR_8_2 GL_8 hR_8 Oz_8 Pz_8 hbel_8
              generalize (w8.alloc (.cells #[Value.bool (qsg (fq f) 13), Value.slice za zn zc, Value.slice zb zm zd] 27)) = v9 at *
              go_wp2
              go_ret
              exact ⟨rfl, hbel_9⟩
        · skip
          exfalso
          have h1 := hNA.out.li fl
          have h2 := hNA.out.hi' fh
          rcases hNA.out.nxt hlt with ⟨h3, _⟩ | ⟨r', _, h3, h4, _⟩ | ⟨t', h3, _, _, h5⟩
          · omega
          · omega
          · rw [h2] at h5; have h6 : fk 9218868437227405312 = 9218868437227405312 := by decide
            omega

theorem topNear_walk {w : World} (hc : w.cell? ⟨0, 0, none⟩ = some (.int .i64 53) ∧ w.cell? ⟨0, 1, none⟩ = some (.int .i64 (-1074)) ∧ w.cell? ⟨0, 2, none⟩ = some (.int .i64 971)) (s : Bool) {a b : Option Addr} {n c m d : Nat} {la lb : List Nat} (ha : Rd w a n c la) (hb : Rd w b m d lb) (f : Nat) (hf : f < 18446744073709551616) : Calls Tryd.prog 3 #[.agg #[.bool s, .slice a n c, .slice b m d], .float .f64 f] w (fun e w' => e = .returned (.bool true) ∧ Below w.heap.size w w') := by
  have GL : Lng w := ⟨hc.1, hc.2.1, hc.2.2⟩
  by_cases h : 500 < n
  · exact topNear_biga GL h
  by_cases h2 : 500 < m
  · exact topNear_bigb GL (by omega) h2
  · exact topNear_small GL ha hb (by omega) (by omega) f hf
end Go.Proofs.YtoeldbdcbfgmoaaDoor
