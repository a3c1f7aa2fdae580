/- THE WALK OF credencelaw05.NearAround: the two floats round a fraction. -/
import Derived.Test.YtoeldbdcbfgmoaaDoorAl
import Derived.Test.YtoeldbdcbfgmoaaDoorPA
namespace Go.Proofs.YtoeldbdcbfgmoaaDoor
set_option linter.unusedVariables false
set_option linter.unusedSimpArgs false
open Go.ChangeShapes Go.WideShapes Go.ChangeAt Go.RowKit Go.NatP Go.FloatP

theorem cmp_k {w : World} {a1 b1 : Option Addr} {n1 c1 m1 d1 : Nat} {s : Bool} {x : Rat} {a2 b2 : Option Addr} {n2 c2 m2 d2 : Nat} {t : Bool} {y : Rat} {J K : Nat} {k : Int} (hk : cmpQ x y = k) (hx : RdQ J w s a1 n1 c1 b1 m1 d1 x) (hJ : J ≤ 1000000) (hy : RdQ K w t a2 n2 c2 b2 m2 d2 y) (hK : K ≤ 1000000) :
    Calls Tryd.prog 20 #[.agg #[.bool s, .slice a1 n1 c1, .slice b1 m1 d1], .agg #[.bool t, .slice a2 n2 c2, .slice b2 m2 d2]] w (RetIb w k) := hk ▸ qcmp hx hJ hy hK
theorem fq_fin {f : Nat} (h : fr f < 9218868437227405312) : fq f = flV (fs f) (fr f) := if_pos h
theorem fe_fin {f : Nat} (h : fr f < 9218868437227405312) : fe f = 0 := if_pos h
theorem fe_nf {f : Nat} (h : ¬ fr f < 9218868437227405312) : fe f = 13 := if_neg h

theorem num_fnan {x : Nat} (h : fr x ≤ 9218868437227405312) : fnan x = false := decide_eq_false (by omega)
theorem od {x y : Nat} (hx : fr x ≤ 9218868437227405312) (hy : fr y ≤ 9218868437227405312) : FloatKind.f64.format.order x y = some (ic (fk x) (fk y)) := fcmp_num (num_fnan hx) (num_fnan hy)
theorem od_eq {x y : Nat} (hx : fr x ≤ 9218868437227405312) (hy : fr y ≤ 9218868437227405312) (h : fk x = fk y) : (FloatKind.f64.format.order x y != some .eq) = false := by
  rw [od hx hy]; unfold ic; rw [if_neg (by omega), if_pos h]; rfl
theorem od_eqt {x y : Nat} (hx : fr x ≤ 9218868437227405312) (hy : fr y ≤ 9218868437227405312) (h : fk x = fk y) : (FloatKind.f64.format.order x y == some .eq) = true := by
  rw [od hx hy]; unfold ic; rw [if_neg (by omega), if_pos h]; rfl
theorem od_ne {x y : Nat} (hx : fr x ≤ 9218868437227405312) (hy : fr y ≤ 9218868437227405312) (h : fk x ≠ fk y) : (FloatKind.f64.format.order x y != some .eq) = true := by
  rw [od hx hy]; unfold ic; split <;> (try rw [if_neg h]) <;> rfl
theorem od_nef {x y : Nat} (hx : fr x ≤ 9218868437227405312) (hy : fr y ≤ 9218868437227405312) (h : fk x ≠ fk y) : (FloatKind.f64.format.order x y == some .eq) = false := by
  rw [od hx hy]; unfold ic; split <;> (try rw [if_neg h]) <;> rfl
theorem od_gtf {x y : Nat} (hx : fr x ≤ 9218868437227405312) (hy : fr y ≤ 9218868437227405312) (h : fk x ≤ fk y) : (FloatKind.f64.format.order x y == some .gt) = false := by
  rw [od hx hy]; unfold ic; split
  · rfl
  · rw [if_pos (by omega)]; rfl
theorem od_gtt {x y : Nat} (hx : fr x ≤ 9218868437227405312) (hy : fr y ≤ 9218868437227405312) (h : fk y < fk x) : (FloatKind.f64.format.order x y == some .gt) = true := by
  rw [od hx hy]; unfold ic; rw [if_neg (by omega), if_neg (by omega)]; rfl
theorem isnan_b {w : World} {x : Nat} (h : fr x ≤ 9218868437227405312) : Calls Tryd.prog 29 #[.float .f64 x] w fun e w' => e = .returned (.bool false) ∧ Below w.heap.size w w' :=
  (isnan_any x).mono fun e w' ⟨h1, h2⟩ => ⟨by rw [h1, num_fnan h], h2 ▸ Below.refl _ _⟩
set_option maxRecDepth 100000 in
theorem copy11 {w : World} : Calls Tryd.prog 31 #[.float .f64 1, .float .f64 1] w fun e w' => e = .returned (.float .f64 1) ∧ Below w.heap.size w w' := by
  have hb : ∀ w, Sem.run Tryd.prog (callFunc 33 #[Value.float FloatKind.f64 1]) w = .ok (.value (.int .u64 1)) w := f64bits 1
  have hf : ∀ w, Sem.run Tryd.prog (callFunc 32 #[Value.int .u64 1]) w = .ok (.value (.float .f64 1)) w := f64from 1
  have h1 : bits BinOp.andNot IntKind.u64 1 9223372036854775808 = 1 := by decide +kernel
  have h2 : bits BinOp.and IntKind.u64 1 9223372036854775808 = 0 := by decide +kernel
  have h3 : bits BinOp.or IntKind.u64 1 0 = 1 := by decide +kernel
  go_enter Tryd.func31, Tryd.ntmps31
  go_wp2
  go_ret
  exact ⟨rfl, Below.refl _ _⟩
set_option maxRecDepth 100000 in
theorem isinf_n {w : World} : Calls Tryd.prog 11 #[.float .f64 18442240474082181120, .int .i64 (-1)] w fun e w' => e = .returned (.bool true) ∧ Below w.heap.size w w' := by
  have ho : FloatKind.f64.format.order 9218868437227405312 9218868437227405311 = some .gt := by decide +kernel
  have hn : ∀ w, Sem.run Tryd.prog (Op.unary .neg (.float .f64 18442240474082181120)) w = .ok (.float .f64 9218868437227405312) w := negf (x := 18442240474082181120) (by decide) (by decide)
  go_enter Tryd.func11, Tryd.ntmps11
  go_wp2
  go_ret
  exact ⟨rfl, Below.refl _ _⟩
set_option maxRecDepth 100000 in
theorem isinf_p {w : World} : Calls Tryd.prog 11 #[.float .f64 9218868437227405312, .int .i64 1] w fun e w' => e = .returned (.bool true) ∧ Below w.heap.size w w' := by
  have ho : FloatKind.f64.format.order 9218868437227405312 9218868437227405311 = some .gt := by decide +kernel
  go_enter Tryd.func11, Tryd.ntmps11
  go_wp2
  go_ret
  exact ⟨rfl, Below.refl _ _⟩

set_option maxRecDepth 100000 in
set_option maxHeartbeats 2000000 in
theorem nxa_01 {w : World}  :
    Calls Tryd.prog 10 #[.float .f64 0, .float .f64 1] w (fun e w' => e = .returned (.float .f64 1) ∧ Below w.heap.size w w') := by
  have h1 : (FloatKind.f64.format.order 0 1 == some .eq) = false := by decide +kernel
  have h2 : (FloatKind.f64.format.order 0 0 == some .eq) = true := by decide +kernel
  have hf : ∀ w, Sem.run Tryd.prog (callFunc 32 #[Value.int .u64 1]) w = .ok (.value (.float .f64 1)) w := f64from 1
  have N1 := hid (fun w => isnan_b (w := w) (x := 0) (by decide))
  have N2 := hid (fun w => isnan_b (w := w) (x := 1) (by decide))
  have HC := hid (fun w => copy11 (w := w))
  go_enter Tryd.func10, Tryd.ntmps10
  have hbel_0 : Below w.heap.size w w := Below.refl _ _
  go_wp2_with fail
  refine (N1.out _).mono ?_
  rintro e w1 ⟨rfl, hB⟩
  have hB_1 : Below w.heap.size w w1 := (bl.next hB)
  have hbel_1 := hbel_0.next hB_1
  have hsz_1 := hB_1.size
  clear hbel_0 hB_1
  try clear hB
  go_wp2_with fail
  refine (N2.out _).mono ?_
  rintro e w2 ⟨rfl, hB⟩
  have hB_2 : Below w1.heap.size w1 w2 := (bl.next hB)
  have hbel_2 := hbel_1.next hB_2
  have hsz_2 := hB_2.size
  clear hbel_1 hB_2
  try clear hB
  go_wp2_with fail
  refine (HC.out _).mono ?_
  rintro e w3 ⟨rfl, hB⟩
  have hB_3 : Below w2.heap.size w2 w3 := (bl.next hB)
  have hbel_3 := hbel_2.next hB_3
  have hsz_3 := hB_3.size
  clear hbel_2 hB_3
  try clear hB
  go_wp2
  go_ret
  exact ⟨rfl, hbel_3⟩

set_option maxRecDepth 100000 in
set_option maxHeartbeats 2000000 in
theorem nxa_pos {w : World} {r y : Nat} (h0 : 0 < r) (hr : r < 9218868437227405312) (hy : fr y ≤ 9218868437227405312) (hgt : fk r < fk y) :
    Calls Tryd.prog 10 #[.float .f64 r, .float .f64 y] w (fun e w' => e = .returned (.float .f64 (r + 1)) ∧ Below w.heap.size w w') := by
  have hrr : fr r = r := fr_low (by omega)
  have hk : fk r = r := by unfold fk; rw [(fs_low (by omega)).1, hrr]; rfl
  have hk0 : fk 0 = 0 := by decide
  have h1 : (FloatKind.f64.format.order r y == some .eq) = false := od_nef (by omega) hy (by omega)
  have h2 : (FloatKind.f64.format.order r 0 == some .eq) = false := od_nef (by omega) (by decide) (by omega)
  have h3 : (FloatKind.f64.format.order y r == some .gt) = true := od_gtt hy (by omega) hgt
  have h4 : (FloatKind.f64.format.order r 0 == some .gt) = true := od_gtt (by omega) (by decide) (by omega)
  have hb := f64bits r
  have hf : ∀ w, Sem.run Tryd.prog (callFunc 32 #[Value.int .u64 ((r : Int) + 1)]) w = .ok (.value (.float .f64 (r + 1))) w := fun w => by have h := f64from (r + 1) w; rwa [Int.natCast_succ] at h
  have N1 := hid (fun w => isnan_b (w := w) (x := r) (by omega))
  have N2 := hid (fun w => isnan_b (w := w) hy)
  have hr2 : r < 18446744073709551615 := by omega
  clear hk hk0 hrr hgt hy h0 hr
  go_enter Tryd.func10, Tryd.ntmps10
  have hbel_0 : Below w.heap.size w w := Below.refl _ _
  go_wp2_with fail
  refine (N1.out _).mono ?_
  rintro e w1 ⟨rfl, hB⟩
  have hB_1 : Below w.heap.size w w1 := (bl.next hB)
  have hbel_1 := hbel_0.next hB_1
  have hsz_1 := hB_1.size
  clear hbel_0 hB_1
  try clear hB
  go_wp2_with fail
  refine (N2.out _).mono ?_
  rintro e w2 ⟨rfl, hB⟩
  have hB_2 : Below w1.heap.size w1 w2 := (bl.next hB)
  have hbel_2 := hbel_1.next hB_2
  have hsz_2 := hB_2.size
  clear hbel_1 hB_2
  try clear hB
  go_wp2
  go_ret
  exact ⟨rfl, hbel_2⟩

set_option maxRecDepth 100000 in
set_option maxHeartbeats 2000000 in
theorem nxa_neg {w : World} {t y : Nat} (h0 : 0 < t) (ht : t ≤ 9218868437227405312) (hy : fr y ≤ 9218868437227405312) (hgt : -(t : Int) < fk y) :
    Calls Tryd.prog 10 #[.float .f64 (9223372036854775808 + t), .float .f64 y] w (fun e w' => e = .returned (.float .f64 (9223372036854775808 + t - 1)) ∧ Below w.heap.size w w') := by
  obtain ⟨x, hx⟩ : ∃ x, 9223372036854775808 + t = x := ⟨_, rfl⟩
  obtain ⟨hs, hr⟩ := fs_high (x := x) (by omega) (by omega)
  have hk : fk x = -(t : Int) := by unfold fk; rw [hs, hr]; simp; omega
  have hk0 : fk 0 = 0 := by decide
  have h1 : (FloatKind.f64.format.order x y == some .eq) = false := od_nef (by omega) hy (by omega)
  have h2 : (FloatKind.f64.format.order x 0 == some .eq) = false := od_nef (by omega) (by decide) (by omega)
  have h3 : (FloatKind.f64.format.order y x == some .gt) = true := od_gtt hy (by omega) (by omega)
  have h4 : (FloatKind.f64.format.order x 0 == some .gt) = false := od_gtf (by omega) (by decide) (by omega)
  have hb := f64bits x
  have hf : ∀ w, Sem.run Tryd.prog (callFunc 32 #[Value.int .u64 ((x : Int) - 1)]) w = .ok (.value (.float .f64 (x - 1))) w := fun w => by have h := f64from (x - 1) w; rwa [show ((x - 1 : Nat) : Int) = (x : Int) - 1 by omega] at h
  have N1 := hid (fun w => isnan_b (w := w) (x := x) (by omega))
  have N2 := hid (fun w => isnan_b (w := w) hy)
  have hx1 : 1 ≤ x := by omega
  have hx2 : x < 18446744073709551616 := by omega
  rw [hx]
  clear hk hk0 hr hs hgt hy h0 ht hx
  go_enter Tryd.func10, Tryd.ntmps10
  have hbel_0 : Below w.heap.size w w := Below.refl _ _
  go_wp2_with fail
  refine (N1.out _).mono ?_
  rintro e w1 ⟨rfl, hB⟩
  have hB_1 : Below w.heap.size w w1 := (bl.next hB)
  have hbel_1 := hbel_0.next hB_1
  have hsz_1 := hB_1.size
  clear hbel_0 hB_1
  try clear hB
  go_wp2_with fail
  refine (N2.out _).mono ?_
  rintro e w2 ⟨rfl, hB⟩
  have hB_2 : Below w1.heap.size w1 w2 := (bl.next hB)
  have hbel_2 := hbel_1.next hB_2
  have hsz_2 := hB_2.size
  clear hbel_1 hB_2
  try clear hB
  go_wp2
  go_ret
  exact ⟨rfl, hbel_2⟩

/-- the next float upwards of a low one: the high one, as floats compare -/
theorem nxa {w : World} {s : Bool} {u v0 lo hi x : Nat} (h : NA s u v0 lo hi x) (hlt : fk lo < fk hi) : ∃ z, (∀ w, Calls Tryd.prog 10 #[.float .f64 lo, .float .f64 hi] w fun e w' => e = .returned (.float .f64 z) ∧ Below w.heap.size w w') ∧ (FloatKind.f64.format.order z hi != some .eq) = false := by
  rcases h.nxt hlt with ⟨rfl, rfl⟩ | ⟨r, h0, h1, rfl, rfl⟩ | ⟨t, h0, h1, rfl, h2⟩
  · exact ⟨1, fun w => nxa_01, by decide +kernel⟩
  · exact ⟨lo + 1, fun w => nxa_pos h0 h1 h.nh hlt, od_eq h.nh h.nh rfl⟩
  · have h3 := fs_high (x := 9223372036854775808 + t) (by omega) (by omega)
    have h4 : fk (9223372036854775808 + t) = -(t : Int) := by unfold fk; rw [h3.1, h3.2, if_pos rfl]; omega
    have h5 := fs_high (x := 9223372036854775808 + t - 1) (by omega) (by omega)
    have h6 : fk (9223372036854775808 + t - 1) = -((t - 1 : Nat) : Int) := by unfold fk; rw [h5.1, h5.2, if_pos rfl]; omega
    exact ⟨9223372036854775808 + t - 1, fun w => nxa_neg h0 h1 h.nh (by rw [← h4]; exact hlt), od_eq (by omega) h.nh (by rw [h6, h2])⟩

set_option maxRecDepth 100000 in
set_option maxHeartbeats 4000000 in
theorem big05a {w : World} {s : Bool} {a b : Option Addr} {n c m d : Nat} (h1 : 200 < n) :
    Calls Tryd.prog 19 #[.agg #[.bool s, .slice a n c, .slice b m d]] w (fun e w' => e = .returned (.bool true) ∧ Below w.heap.size w w') := by
  have d1 : decide ((200 : Int) < (n : Int)) = true := decide_eq_true (by omega)
  clear h1
  have hent := ent1 w #[Value.bool s, Value.slice a n c, Value.slice b m d] 27
  go_enter Tryd.func19, Tryd.ntmps19
  go_wp2_with fail
  generalize (w.alloc (.cells #[Value.bool s, Value.slice a n c, Value.slice b m d] 27)) = W0 at hent ⊢
  obtain ⟨X_0, hbel_0, hsz_0⟩ := hent
  have cX_0_0 : _ = some (Value.bool s) := X_0.cell 0
  have cX_0_1 : _ = some (Value.slice a n c) := X_0.cell 1
  have cX_0_2 : _ = some (Value.slice b m d) := X_0.cell 2
  go_wp2
  go_ret
  exact ⟨rfl, hbel_0⟩

set_option maxRecDepth 100000 in
set_option maxHeartbeats 4000000 in
theorem big05b {w : World} {s : Bool} {a b : Option Addr} {n c m d : Nat} (h1 : n ≤ 200) (h2 : 200 < m) :
    Calls Tryd.prog 19 #[.agg #[.bool s, .slice a n c, .slice b m d]] w (fun e w' => e = .returned (.bool true) ∧ Below w.heap.size w w') := by
  have d1 : decide ((200 : Int) < (n : Int)) = false := decide_eq_false (by omega)
  have d2 : decide ((200 : Int) < (m : Int)) = true := decide_eq_true (by omega)
  clear h1 h2
  have hent := ent1 w #[Value.bool s, Value.slice a n c, Value.slice b m d] 27
  go_enter Tryd.func19, Tryd.ntmps19
  go_wp2_with fail
  generalize (w.alloc (.cells #[Value.bool s, Value.slice a n c, Value.slice b m d] 27)) = W0 at hent ⊢
  obtain ⟨X_0, hbel_0, hsz_0⟩ := hent
  have cX_0_0 : _ = some (Value.bool s) := X_0.cell 0
  have cX_0_1 : _ = some (Value.slice a n c) := X_0.cell 1
  have cX_0_2 : _ = some (Value.slice b m d) := X_0.cell 2
  go_wp2
  go_ret
  exact ⟨rfl, hbel_0⟩

set_option maxRecDepth 100000 in
set_option maxHeartbeats 4000000 in
theorem big05c {w : World} {s : Bool} {a b : Option Addr} {n c m d : Nat} (h1 : n ≤ 200) (h2 : m ≤ 200) :
    Calls Tryd.prog 19 #[.agg #[.bool s, .slice a n c, .slice b m d]] w (fun e w' => e = .returned (.bool false) ∧ Below w.heap.size w w') := by
  have d1 : decide ((200 : Int) < (n : Int)) = false := decide_eq_false (by omega)
  have d2 : decide ((200 : Int) < (m : Int)) = false := decide_eq_false (by omega)
  clear h1 h2
  have hent := ent1 w #[Value.bool s, Value.slice a n c, Value.slice b m d] 27
  go_enter Tryd.func19, Tryd.ntmps19
  go_wp2_with fail
  generalize (w.alloc (.cells #[Value.bool s, Value.slice a n c, Value.slice b m d] 27)) = W0 at hent ⊢
  obtain ⟨X_0, hbel_0, hsz_0⟩ := hent
  have cX_0_0 : _ = some (Value.bool s) := X_0.cell 0
  have cX_0_1 : _ = some (Value.slice a n c) := X_0.cell 1
  have cX_0_2 : _ = some (Value.slice b m d) := X_0.cell 2
  go_wp2
  go_ret
  exact ⟨rfl, hbel_0⟩

set_option maxRecDepth 100000 in
set_option maxHeartbeats 4000000 in
theorem nearAround_big {w : World} (GL : Lng w) (GS : Sht w) {s : Bool} {a b : Option Addr} {n c m d : Nat} (h : 200 < n ∨ 200 < m) :
    Calls Tryd.prog 5 #[.agg #[.bool s, .slice a n c, .slice b m d]] w (fun e w' => e = .returned (.bool true) ∧ Below w.heap.size w w') := by
  have HA := hid (fun w (g : Lng w) (h : Sht w) => alive05 g h)
  have HB : Hid (∀ w, Calls Tryd.prog 19 #[.agg #[.bool s, .slice a n c, .slice b m d]] w fun e w' => e = .returned (.bool true) ∧ Below w.heap.size w w') := fun w => by
    by_cases h1 : 200 < n
    · exact big05a h1
    · exact big05b (by omega) (by omega)
  clear h
  have hent := ent1 w #[Value.bool s, Value.slice a n c, Value.slice b m d] 27
  go_enter Tryd.func5, Tryd.ntmps5
  go_wp2_with fail
  generalize (w.alloc (.cells #[Value.bool s, Value.slice a n c, Value.slice b m d] 27)) = W0 at hent ⊢
  obtain ⟨R_0, hbel_0, hsz_0⟩ := hent
  have cR_0_0 : _ = some (Value.bool s) := R_0.cell 0
  have cR_0_1 : _ = some (Value.slice a n c) := R_0.cell 1
  have cR_0_2 : _ = some (Value.slice b m d) := R_0.cell 2
  have GL_0 := GL.below hbel_0
  clear GL
  have GS_0 := GS.below hbel_0
  clear GS
  go_wp2_with fail
  refine (HA.out _ GL_0 GS_0).mono ?_
  rintro e w1 ⟨rfl, hB⟩
  have hB_1 : Below W0.heap.size W0 w1 := (bl.next hB)
  have R_1 := R_0.next hB_1
  have cR_1_0 : _ = some (Value.bool s) := R_1.cell 0
  have cR_1_1 : _ = some (Value.slice a n c) := R_1.cell 1
  have cR_1_2 : _ = some (Value.slice b m d) := R_1.cell 2
  have GL_1 := GL_0.below hB_1
  have GS_1 := GS_0.below hB_1
  have hbel_1 := hbel_0.next hB_1
  have hsz_1 := hB_1.size
  clear R_0 cR_0_0 cR_0_1 cR_0_2 GL_0 GS_0 hbel_0 hB_1
  try clear hB
  go_wp2_with fail
  refine (HB.out _).mono ?_
  rintro e w2 ⟨rfl, hB⟩
  have hB_2 : Below w1.heap.size w1 w2 := (bl.next hB)
  have R_2 := R_1.next hB_2
  have cR_2_0 : _ = some (Value.bool s) := R_2.cell 0
  have cR_2_1 : _ = some (Value.slice a n c) := R_2.cell 1
  have cR_2_2 : _ = some (Value.slice b m d) := R_2.cell 2
  have GL_2 := GL_1.below hB_2
  have GS_2 := GS_1.below hB_2
  have hbel_2 := hbel_1.next hB_2
  have hsz_2 := hB_2.size
  clear R_1 cR_1_0 cR_1_1 cR_1_2 GL_1 GS_1 hbel_1 hB_2
  try clear hB
  go_wp2
  go_ret
  exact ⟨rfl, hbel_2⟩

set_option maxRecDepth 100000 in
set_option maxHeartbeats 32000000 in
theorem nearAround_small {w : World} (GL : Lng w) (GS : Sht w) {s : Bool} {a b : Option Addr} {n c m d : Nat} {la lb : List Nat} (ha : Rd w a n c la) (hb : Rd w b m d lb) (hn : n ≤ 200) (hm : m ≤ 200) :
    Calls Tryd.prog 5 #[.agg #[.bool s, .slice a n c, .slice b m d]] w (fun e w' => e = .returned (.bool true) ∧ Below w.heap.size w w') := by
  have HA := hid (fun w (g : Lng w) (h : Sht w) => alive05 g h)
  have HB := hid (fun w => big05c (w := w) (s := s) (a := a) (b := b) (c := c) (d := d) hn hm)
  have HR := hid (fun w (g : Lng w) (ha : Rd w a n c la) (hb : Rd w b m d lb) => around_g (s := s) g ha hb (by omega) (by omega) rfl rfl)
  have HN := hid (fun w (g : Lng w) (ha : Rd w a n c la) (hb : Rd w b m d lb) => nearest_g (s := s) g ha hb (by omega) (by omega) rfl rfl)
  obtain ⟨q, hq⟩ : ∃ q, qv s (val la) (val lb) = q := ⟨_, rfl⟩
  have hqh := hid hq
  have hR : RdQ 200 w s a n c b m d q := ⟨_, _, ha.rdN hn, hb.rdN hm, hq⟩
  clear hn hm hq
  have hent := ent1 w #[Value.bool s, Value.slice a n c, Value.slice b m d] 27
  go_enter Tryd.func5, Tryd.ntmps5
  go_wp2_with fail
  generalize (w.alloc (.cells #[Value.bool s, Value.slice a n c, Value.slice b m d] 27)) = W0 at hent ⊢
  obtain ⟨R_0, hbel_0, hsz_0⟩ := hent
  have cR_0_0 : _ = some (Value.bool s) := R_0.cell 0
  have cR_0_1 : _ = some (Value.slice a n c) := R_0.cell 1
  have cR_0_2 : _ = some (Value.slice b m d) := R_0.cell 2
  have GL_0 := GL.below hbel_0
  clear GL
  have GS_0 := GS.below hbel_0
  clear GS
  have ha_0 := ha.below hbel_0
  clear ha
  have hb_0 := hb.below hbel_0
  clear hb
  have hR_0 := hR.below hbel_0
  clear hR
  go_wp2_with fail
  refine (HA.out _ GL_0 GS_0).mono ?_
  rintro e w1 ⟨rfl, hB⟩
  have hB_1 : Below W0.heap.size W0 w1 := (bl.next hB)
  have R_1 := R_0.next hB_1
  have cR_1_0 : _ = some (Value.bool s) := R_1.cell 0
  have cR_1_1 : _ = some (Value.slice a n c) := R_1.cell 1
  have cR_1_2 : _ = some (Value.slice b m d) := R_1.cell 2
  have GL_1 := GL_0.below hB_1
  have GS_1 := GS_0.below hB_1
  have ha_1 := ha_0.below hB_1
  have hb_1 := hb_0.below hB_1
  have hR_1 := hR_0.below hB_1
  have hbel_1 := hbel_0.next hB_1
  have hsz_1 := hB_1.size
  clear R_0 cR_0_0 cR_0_1 cR_0_2 GL_0 GS_0 ha_0 hb_0 hR_0 hbel_0 hB_1
  try clear hB
  clear GS_1
  go_wp2_with fail
  refine (HB.out _).mono ?_
  rintro e w2 ⟨rfl, hB⟩
  have hB_2 : Below w1.heap.size w1 w2 := (bl.next hB)
  have R_2 := R_1.next hB_2
  have cR_2_0 : _ = some (Value.bool s) := R_2.cell 0
  have cR_2_1 : _ = some (Value.slice a n c) := R_2.cell 1
  have cR_2_2 : _ = some (Value.slice b m d) := R_2.cell 2
  have GL_2 := GL_1.below hB_2
  have ha_2 := ha_1.below hB_2
  have hb_2 := hb_1.below hB_2
  have hR_2 := hR_1.below hB_2
  have hbel_2 := hbel_1.next hB_2
  have hsz_2 := hB_2.size
  clear R_1 cR_1_0 cR_1_1 cR_1_2 GL_1 ha_1 hb_1 hR_1 hbel_1 hB_2
  try clear hB
  go_wp2_with fail
  refine (HR.out _ GL_2 ha_2 hb_2).mono ?_
  rintro e w3 ⟨r, t, rfl, hAr, hB⟩
  have hB_3 : Below w2.heap.size w2 w3 := (bl.next hB)
  have R_3 := R_2.next hB_3
  have cR_3_0 : _ = some (Value.bool s) := R_3.cell 0
  have cR_3_1 : _ = some (Value.slice a n c) := R_3.cell 1
  have cR_3_2 : _ = some (Value.slice b m d) := R_3.cell 2
  have GL_3 := GL_2.below hB_3
  have ha_3 := ha_2.below hB_3
  have hb_3 := hb_2.below hB_3
  have hR_3 := hR_2.below hB_3
  have hbel_3 := hbel_2.next hB_3
  have hsz_3 := hB_3.size
  clear R_2 cR_2_0 cR_2_1 cR_2_2 GL_2 ha_2 hb_2 hR_2 hbel_2 hB_3
  have hArh := hid hAr
  clear hAr
  obtain ⟨lo, hlo⟩ : ∃ z, (if s = true then sb true t else r) = z := ⟨_, rfl⟩
  obtain ⟨hi, hhi⟩ : ∃ z, (if s = true then sb true r else t) = z := ⟨_, rfl⟩
  rw [hlo, hhi]
  have hloh := hid hlo
  have hhih := hid hhi
  clear hlo hhi
  try clear hB
  go_wp2_with fail
  refine (HN.out _ GL_3 ha_3 hb_3).mono ?_
  rintro e w4 ⟨q1, E, more, half, far, rfl, hC, hB⟩
  have hB_4 : Below w3.heap.size w3 w4 := (bl.next hB)
  have R_4 := R_3.next hB_4
  have cR_4_0 : _ = some (Value.bool s) := R_4.cell 0
  have cR_4_1 : _ = some (Value.slice a n c) := R_4.cell 1
  have cR_4_2 : _ = some (Value.slice b m d) := R_4.cell 2
  have GL_4 := GL_3.below hB_4
  have ha_4 := ha_3.below hB_4
  have hb_4 := hb_3.below hB_4
  have hR_4 := hR_3.below hB_4
  have hbel_4 := hbel_3.next hB_4
  have hsz_4 := hB_4.size
  clear R_3 cR_3_0 cR_3_1 cR_3_2 GL_3 ha_3 hb_3 hR_3 hbel_3 hB_4
  have hNA0 := na_of (s := s) hArh.out (near_of_cut hC)
  obtain ⟨x, hx⟩ : ∃ z, sb s (rndR q1 E half far) = z := ⟨_, rfl⟩
  rw [hloh.out, hhih.out, hx] at hNA0
  rw [hx]
  have hNA := hid hNA0
  clear hNA0 hx hC hArh hloh hhih
  try clear hB
  clear ha_4
  clear hb_4
  clear GL_4
  have nl := hNA.out.nl
  have nh := hNA.out.nh
  have nx := hNA.out.nx
  have le := hNA.out.le
  have one := hNA.out.one
  have e1 := od_eq nl nl rfl
  have e2 := od_eq nh nh rfl
  have e3 := od_gtf nl nh le
  have HP := hid (fun w => near64 (w := w) lo hNA.out.ll)
  have HQ := hid (fun w => near64 (w := w) hi hNA.out.lh)
  have hql := hid (fq_qs lo)
  have hqr := hid (fq_qs hi)
  obtain ⟨C1, hC1⟩ : ∃ z, cmpQ (fq lo) q = z := ⟨_, rfl⟩
  obtain ⟨C2, hC2⟩ : ∃ z, cmpQ (fq hi) q = z := ⟨_, rfl⟩
  have hC1h := hid hC1
  have hC2h := hid hC2
  clear hC1 hC2
  have cl : fr lo < 9218868437227405312 → C1 ≤ 0 := fun h => by have h1 := hNA.out.low h; rwa [← fq_fin h, hqh.out, hC1h.out] at h1
  have ch : fr hi < 9218868437227405312 → 0 ≤ C2 := fun h => by have h1 := hNA.out.high h; rwa [← fq_fin h, hqh.out, hC2h.out] at h1
  by_cases hE : fk lo = fk hi
  · obtain ⟨fl, fh, hz⟩ := hNA.out.ex hE
    have x1 := od_eq nx nl (by omega)
    have e6 := od_eq nl nh hE
    rw [← fq_fin fl, hqh.out, hC1h.out] at hz
    subst hz
    have d2 : decide (C2 < 0) = false := decide_eq_false (by have := ch fh; omega)
    rw [fe_fin fl] at HP
    rw [fe_fin fh] at HQ
    clear cl ch hE fl fh
    clear nl nh nx one le
    go_wp2_with fail
    refine (HP.out _).mono ?_
    rintro e w5 ⟨pa, pn, pc, pb, pm, pd, rfl, hO, hO', hD, hB⟩
    have hB_5 : Below w4.heap.size w4 w5 := (bl.next hB)
    have R_5 := R_4.next hB_5
    have cR_5_0 : _ = some (Value.bool s) := R_5.cell 0
    have cR_5_1 : _ = some (Value.slice a n c) := R_5.cell 1
    have cR_5_2 : _ = some (Value.slice b m d) := R_5.cell 2
    have hR_5 := hR_4.below hB_5
    have hbel_5 := hbel_4.next hB_5
    have hsz_5 := hB_5.size
    clear R_4 cR_4_0 cR_4_1 cR_4_2 hR_4 hbel_4 hB_5
    have Op_5 := hO
    have ltOp := hO.ltB
    have Pp_5 := hO'
    have ltPp := hO'.ltB
    clear hO hO' hD
    try clear hB
    have hbx := blk_new w5 #[Value.bool (qsg (fq lo) 0), Value.slice pa pn pc, Value.slice pb pm pd] 27
    have hbB := (Below.refl w5.heap.size w5).alloc (Nat.le_refl _) (.cells #[Value.bool (qsg (fq lo) 0), Value.slice pa pn pc, Value.slice pb pm pd] 27)
    have hltA := hbx.lt
    have hB_6 : Below w5.heap.size w5 (w5.alloc (.cells #[Value.bool (qsg (fq lo) 0), Value.slice pa pn pc, Value.slice pb pm pd] 27)) := hbB
    have R_6 := R_5.next hB_6
    have cR_6_0 : _ = some (Value.bool s) := R_6.cell 0
    have cR_6_1 : _ = some (Value.slice a n c) := R_6.cell 1
    have cR_6_2 : _ = some (Value.slice b m d) := R_6.cell 2
    have hR_6 := hR_5.below hB_6
    have Op_6 := Op_5.below hB_6
    have Pp_6 := Pp_5.below hB_6
    have hbel_6 := hbel_5.next hB_6
    have hsz_6 := hB_6.size
    clear hB_6
    have A_6 := hbx
    clear hbx hbB
    have cA_6_0 : _ = some (Value.bool (qsg (fq lo) 0)) := A_6.cell 0
    have cA_6_1 : _ = some (Value.slice pa pn pc) := A_6.cell 1
    have cA_6_2 : _ = some (Value.slice pb pm pd) := A_6.cell 2
    go_wp2_with fail
    clear R_5 cR_5_0 cR_5_1 cR_5_2 hR_5 Op_5 Pp_5 hbel_5
    generalize (w5.alloc (.cells #[Value.bool (qsg (fq lo) 0), Value.slice pa pn pc, Value.slice pb pm pd] 27)) = v6 at *
    go_wp2_with fail
    refine (HQ.out _).mono ?_
    rintro e w7 ⟨ya, yn, yc, yb, ym, yd, rfl, hO, hO', hD, hB⟩
    have hB_7 : Below v6.heap.size v6 w7 := (bl.next hB)
    have R_7 := R_6.next hB_7
    have cR_7_0 : _ = some (Value.bool s) := R_7.cell 0
    have cR_7_1 : _ = some (Value.slice a n c) := R_7.cell 1
    have cR_7_2 : _ = some (Value.slice b m d) := R_7.cell 2
    have A_7 := A_6.next hB_7
    have cA_7_0 : _ = some (Value.bool (qsg (fq lo) 0)) := A_7.cell 0
    have cA_7_1 : _ = some (Value.slice pa pn pc) := A_7.cell 1
    have cA_7_2 : _ = some (Value.slice pb pm pd) := A_7.cell 2
    have hR_7 := hR_6.below hB_7
    have Op_7 := Op_6.below hB_7
    have Pp_7 := Pp_6.below hB_7
    have hbel_7 := hbel_6.next hB_7
    have hsz_7 := hB_7.size
    clear R_6 cR_6_0 cR_6_1 cR_6_2 A_6 cA_6_0 cA_6_1 cA_6_2 hR_6 Op_6 Pp_6 hbel_6 hB_7
    have Oy_7 := hO
    have ltOy := hO.ltB
    have Py_7 := hO'
    have ltPy := hO'.ltB
    clear hO hO' hD
    try clear hB
    have hbx := blk_new w7 #[Value.bool (qsg (fq hi) 0), Value.slice ya yn yc, Value.slice yb ym yd] 27
    have hbB := (Below.refl w7.heap.size w7).alloc (Nat.le_refl _) (.cells #[Value.bool (qsg (fq hi) 0), Value.slice ya yn yc, Value.slice yb ym yd] 27)
    have hltB := hbx.lt
    have hB_8 : Below w7.heap.size w7 (w7.alloc (.cells #[Value.bool (qsg (fq hi) 0), Value.slice ya yn yc, Value.slice yb ym yd] 27)) := hbB
    have R_8 := R_7.next hB_8
    have cR_8_0 : _ = some (Value.bool s) := R_8.cell 0
    have cR_8_1 : _ = some (Value.slice a n c) := R_8.cell 1
    have cR_8_2 : _ = some (Value.slice b m d) := R_8.cell 2
    have A_8 := A_7.next hB_8
    have cA_8_0 : _ = some (Value.bool (qsg (fq lo) 0)) := A_8.cell 0
    have cA_8_1 : _ = some (Value.slice pa pn pc) := A_8.cell 1
    have cA_8_2 : _ = some (Value.slice pb pm pd) := A_8.cell 2
    have hR_8 := hR_7.below hB_8
    have Op_8 := Op_7.below hB_8
    have Pp_8 := Pp_7.below hB_8
    have Oy_8 := Oy_7.below hB_8
    have Py_8 := Py_7.below hB_8
    have hbel_8 := hbel_7.next hB_8
    have hsz_8 := hB_8.size
    clear hB_8
    have B_8 := hbx
    clear hbx hbB
    have cB_8_0 : _ = some (Value.bool (qsg (fq hi) 0)) := B_8.cell 0
    have cB_8_1 : _ = some (Value.slice ya yn yc) := B_8.cell 1
    have cB_8_2 : _ = some (Value.slice yb ym yd) := B_8.cell 2
    go_wp2_with fail
    clear R_7 cR_7_0 cR_7_1 cR_7_2 A_7 cA_7_0 cA_7_1 cA_7_2 hR_7 Op_7 Pp_7 Oy_7 Py_7 hbel_7
    generalize (w7.alloc (.cells #[Value.bool (qsg (fq hi) 0), Value.slice ya yn yc, Value.slice yb ym yd] 27)) = v8 at *
    go_wp2_with fail
    refine (cmp_k hC1h.out (Op_8.rdQ Pp_8 hql.out) (by omega) hR_8 (by omega)).mono ?_
    rintro e w9 ⟨rfl, hB⟩
    have hB_9 : Below v8.heap.size v8 w9 := (bl.next hB)
    have R_9 := R_8.next hB_9
    have cR_9_0 : _ = some (Value.bool s) := R_9.cell 0
    have cR_9_1 : _ = some (Value.slice a n c) := R_9.cell 1
    have cR_9_2 : _ = some (Value.slice b m d) := R_9.cell 2
    have A_9 := A_8.next hB_9
    have cA_9_0 : _ = some (Value.bool (qsg (fq lo) 0)) := A_9.cell 0
    have cA_9_1 : _ = some (Value.slice pa pn pc) := A_9.cell 1
    have cA_9_2 : _ = some (Value.slice pb pm pd) := A_9.cell 2
    have B_9 := B_8.next hB_9
    have cB_9_0 : _ = some (Value.bool (qsg (fq hi) 0)) := B_9.cell 0
    have cB_9_1 : _ = some (Value.slice ya yn yc) := B_9.cell 1
    have cB_9_2 : _ = some (Value.slice yb ym yd) := B_9.cell 2
    have hR_9 := hR_8.below hB_9
    have Op_9 := Op_8.below hB_9
    have Pp_9 := Pp_8.below hB_9
    have Oy_9 := Oy_8.below hB_9
    have Py_9 := Py_8.below hB_9
    have hbel_9 := hbel_8.next hB_9
    have hsz_9 := hB_9.size
    clear R_8 cR_8_0 cR_8_1 cR_8_2 A_8 cA_8_0 cA_8_1 cA_8_2 B_8 cB_8_0 cB_8_1 cB_8_2 hR_8 Op_8 Pp_8 Oy_8 Py_8 hbel_8 hB_9
    try clear hB
    go_wp2_with fail
    refine (cmp_k hC2h.out (Oy_9.rdQ Py_9 hqr.out) (by omega) hR_9 (by omega)).mono ?_
    rintro e w10 ⟨rfl, hB⟩
    have hB_10 : Below w9.heap.size w9 w10 := (bl.next hB)
    have R_10 := R_9.next hB_10
    have cR_10_0 : _ = some (Value.bool s) := R_10.cell 0
    have cR_10_1 : _ = some (Value.slice a n c) := R_10.cell 1
    have cR_10_2 : _ = some (Value.slice b m d) := R_10.cell 2
    have A_10 := A_9.next hB_10
    have cA_10_0 : _ = some (Value.bool (qsg (fq lo) 0)) := A_10.cell 0
    have cA_10_1 : _ = some (Value.slice pa pn pc) := A_10.cell 1
    have cA_10_2 : _ = some (Value.slice pb pm pd) := A_10.cell 2
    have B_10 := B_9.next hB_10
    have cB_10_0 : _ = some (Value.bool (qsg (fq hi) 0)) := B_10.cell 0
    have cB_10_1 : _ = some (Value.slice ya yn yc) := B_10.cell 1
    have cB_10_2 : _ = some (Value.slice yb ym yd) := B_10.cell 2
    have hR_10 := hR_9.below hB_10
    have Op_10 := Op_9.below hB_10
    have Pp_10 := Pp_9.below hB_10
    have Oy_10 := Oy_9.below hB_10
    have Py_10 := Py_9.below hB_10
    have hbel_10 := hbel_9.next hB_10
    have hsz_10 := hB_10.size
    clear R_9 cR_9_0 cR_9_1 cR_9_2 A_9 cA_9_0 cA_9_1 cA_9_2 B_9 cB_9_0 cB_9_1 cB_9_2 hR_9 Op_9 Pp_9 Oy_9 Py_9 hbel_9 hB_10
    try clear hB
    go_wp2_with fail
    refine (cmp_k hC1h.out (Op_10.rdQ Pp_10 hql.out) (by omega) hR_10 (by omega)).mono ?_
    rintro e w11 ⟨rfl, hB⟩
    have hB_11 : Below w10.heap.size w10 w11 := (bl.next hB)
    have R_11 := R_10.next hB_11
    have cR_11_0 : _ = some (Value.bool s) := R_11.cell 0
    have cR_11_1 : _ = some (Value.slice a n c) := R_11.cell 1
    have cR_11_2 : _ = some (Value.slice b m d) := R_11.cell 2
    have A_11 := A_10.next hB_11
    have cA_11_0 : _ = some (Value.bool (qsg (fq lo) 0)) := A_11.cell 0
    have cA_11_1 : _ = some (Value.slice pa pn pc) := A_11.cell 1
    have cA_11_2 : _ = some (Value.slice pb pm pd) := A_11.cell 2
    have B_11 := B_10.next hB_11
    have cB_11_0 : _ = some (Value.bool (qsg (fq hi) 0)) := B_11.cell 0
    have cB_11_1 : _ = some (Value.slice ya yn yc) := B_11.cell 1
    have cB_11_2 : _ = some (Value.slice yb ym yd) := B_11.cell 2
    have hR_11 := hR_10.below hB_11
    have Op_11 := Op_10.below hB_11
    have Pp_11 := Pp_10.below hB_11
    have Oy_11 := Oy_10.below hB_11
    have Py_11 := Py_10.below hB_11
    have hbel_11 := hbel_10.next hB_11
    have hsz_11 := hB_11.size
    clear R_10 cR_10_0 cR_10_1 cR_10_2 A_10 cA_10_0 cA_10_1 cA_10_2 B_10 cB_10_0 cB_10_1 cB_10_2 hR_10 Op_10 Pp_10 Oy_10 Py_10 hbel_10 hB_11
    try clear hB
    go_wp2
    go_ret
    exact ⟨rfl, hbel_11⟩
  · have hlt : fk lo < fk hi := by omega
    have e6 := od_ne nl nh hE
    obtain ⟨z, HZ, ez⟩ := nxa (w := w) hNA.out hlt
    have HZ := hid HZ
    by_cases hX : fk x = fk lo
    · skip
      have x1 := od_eq nx nl hX
      by_cases fl : fr lo < 9218868437227405312
      · skip
        by_cases fh : fr hi < 9218868437227405312
        · skip
          have d1 : decide (0 < C1) = false := decide_eq_false (by have := cl fl; omega)
          have d2 : decide (C2 < 0) = false := decide_eq_false (by have := ch fh; omega)
          rw [fe_fin fl] at HP
          rw [fe_fin fh] at HQ
          clear cl ch hE hlt hX fl fh
          clear nl nh nx one le
          go_wp2_with fail
          refine (HZ.out _).mono ?_
          rintro e w5 ⟨rfl, hB⟩
          have hB_5 : Below w4.heap.size w4 w5 := (bl.next hB)
          have R_5 := R_4.next hB_5
          have cR_5_0 : _ = some (Value.bool s) := R_5.cell 0
          have cR_5_1 : _ = some (Value.slice a n c) := R_5.cell 1
          have cR_5_2 : _ = some (Value.slice b m d) := R_5.cell 2
          have hR_5 := hR_4.below hB_5
          have hbel_5 := hbel_4.next hB_5
          have hsz_5 := hB_5.size
          clear R_4 cR_4_0 cR_4_1 cR_4_2 hR_4 hbel_4 hB_5
          try clear hB
          go_wp2_with fail
          refine (HP.out _).mono ?_
          rintro e w6 ⟨pa, pn, pc, pb, pm, pd, rfl, hO, hO', hD, hB⟩
          have hB_6 : Below w5.heap.size w5 w6 := (bl.next hB)
          have R_6 := R_5.next hB_6
          have cR_6_0 : _ = some (Value.bool s) := R_6.cell 0
          have cR_6_1 : _ = some (Value.slice a n c) := R_6.cell 1
          have cR_6_2 : _ = some (Value.slice b m d) := R_6.cell 2
          have hR_6 := hR_5.below hB_6
          have hbel_6 := hbel_5.next hB_6
          have hsz_6 := hB_6.size
          clear R_5 cR_5_0 cR_5_1 cR_5_2 hR_5 hbel_5 hB_6
          have Op_6 := hO
          have ltOp := hO.ltB
          have Pp_6 := hO'
          have ltPp := hO'.ltB
          clear hO hO' hD
          try clear hB
          have hbx := blk_new w6 #[Value.bool (qsg (fq lo) 0), Value.slice pa pn pc, Value.slice pb pm pd] 27
          have hbB := (Below.refl w6.heap.size w6).alloc (Nat.le_refl _) (.cells #[Value.bool (qsg (fq lo) 0), Value.slice pa pn pc, Value.slice pb pm pd] 27)
          have hltA := hbx.lt
          have hB_7 : Below w6.heap.size w6 (w6.alloc (.cells #[Value.bool (qsg (fq lo) 0), Value.slice pa pn pc, Value.slice pb pm pd] 27)) := hbB
          have R_7 := R_6.next hB_7
          have cR_7_0 : _ = some (Value.bool s) := R_7.cell 0
          have cR_7_1 : _ = some (Value.slice a n c) := R_7.cell 1
          have cR_7_2 : _ = some (Value.slice b m d) := R_7.cell 2
          have hR_7 := hR_6.below hB_7
          have Op_7 := Op_6.below hB_7
          have Pp_7 := Pp_6.below hB_7
          have hbel_7 := hbel_6.next hB_7
          have hsz_7 := hB_7.size
          clear hB_7
          have A_7 := hbx
          clear hbx hbB
          have cA_7_0 : _ = some (Value.bool (qsg (fq lo) 0)) := A_7.cell 0
          have cA_7_1 : _ = some (Value.slice pa pn pc) := A_7.cell 1
          have cA_7_2 : _ = some (Value.slice pb pm pd) := A_7.cell 2
          go_wp2_with fail
          clear R_6 cR_6_0 cR_6_1 cR_6_2 hR_6 Op_6 Pp_6 hbel_6
          generalize (w6.alloc (.cells #[Value.bool (qsg (fq lo) 0), Value.slice pa pn pc, Value.slice pb pm pd] 27)) = v7 at *
          go_wp2_with fail
          refine (HQ.out _).mono ?_
          rintro e w8 ⟨ya, yn, yc, yb, ym, yd, rfl, hO, hO', hD, hB⟩
          have hB_8 : Below v7.heap.size v7 w8 := (bl.next hB)
          have R_8 := R_7.next hB_8
          have cR_8_0 : _ = some (Value.bool s) := R_8.cell 0
          have cR_8_1 : _ = some (Value.slice a n c) := R_8.cell 1
          have cR_8_2 : _ = some (Value.slice b m d) := R_8.cell 2
          have A_8 := A_7.next hB_8
          have cA_8_0 : _ = some (Value.bool (qsg (fq lo) 0)) := A_8.cell 0
          have cA_8_1 : _ = some (Value.slice pa pn pc) := A_8.cell 1
          have cA_8_2 : _ = some (Value.slice pb pm pd) := A_8.cell 2
          have hR_8 := hR_7.below hB_8
          have Op_8 := Op_7.below hB_8
          have Pp_8 := Pp_7.below hB_8
          have hbel_8 := hbel_7.next hB_8
          have hsz_8 := hB_8.size
          clear R_7 cR_7_0 cR_7_1 cR_7_2 A_7 cA_7_0 cA_7_1 cA_7_2 hR_7 Op_7 Pp_7 hbel_7 hB_8
          have Oy_8 := hO
          have ltOy := hO.ltB
          have Py_8 := hO'
          have ltPy := hO'.ltB
          clear hO hO' hD
          try clear hB
          have hbx := blk_new w8 #[Value.bool (qsg (fq hi) 0), Value.slice ya yn yc, Value.slice yb ym yd] 27
          have hbB := (Below.refl w8.heap.size w8).alloc (Nat.le_refl _) (.cells #[Value.bool (qsg (fq hi) 0), Value.slice ya yn yc, Value.slice yb ym yd] 27)
          have hltB := hbx.lt
          have hB_9 : Below w8.heap.size w8 (w8.alloc (.cells #[Value.bool (qsg (fq hi) 0), Value.slice ya yn yc, Value.slice yb ym yd] 27)) := hbB
          have R_9 := R_8.next hB_9
          have cR_9_0 : _ = some (Value.bool s) := R_9.cell 0
          have cR_9_1 : _ = some (Value.slice a n c) := R_9.cell 1
          have cR_9_2 : _ = some (Value.slice b m d) := R_9.cell 2
          have A_9 := A_8.next hB_9
          have cA_9_0 : _ = some (Value.bool (qsg (fq lo) 0)) := A_9.cell 0
          have cA_9_1 : _ = some (Value.slice pa pn pc) := A_9.cell 1
          have cA_9_2 : _ = some (Value.slice pb pm pd) := A_9.cell 2
          have hR_9 := hR_8.below hB_9
          have Op_9 := Op_8.below hB_9
          have Pp_9 := Pp_8.below hB_9
          have Oy_9 := Oy_8.below hB_9
          have Py_9 := Py_8.below hB_9
          have hbel_9 := hbel_8.next hB_9
          have hsz_9 := hB_9.size
          clear hB_9
          have B_9 := hbx
          clear hbx hbB
          have cB_9_0 : _ = some (Value.bool (qsg (fq hi) 0)) := B_9.cell 0
          have cB_9_1 : _ = some (Value.slice ya yn yc) := B_9.cell 1
          have cB_9_2 : _ = some (Value.slice yb ym yd) := B_9.cell 2
          go_wp2_with fail
          clear R_8 cR_8_0 cR_8_1 cR_8_2 A_8 cA_8_0 cA_8_1 cA_8_2 hR_8 Op_8 Pp_8 Oy_8 Py_8 hbel_8
          generalize (w8.alloc (.cells #[Value.bool (qsg (fq hi) 0), Value.slice ya yn yc, Value.slice yb ym yd] 27)) = v9 at *
          go_wp2_with fail
          refine (cmp_k hC1h.out (Op_9.rdQ Pp_9 hql.out) (by omega) hR_9 (by omega)).mono ?_
          rintro e w10 ⟨rfl, hB⟩
          have hB_10 : Below v9.heap.size v9 w10 := (bl.next hB)
          have R_10 := R_9.next hB_10
          have cR_10_0 : _ = some (Value.bool s) := R_10.cell 0
          have cR_10_1 : _ = some (Value.slice a n c) := R_10.cell 1
          have cR_10_2 : _ = some (Value.slice b m d) := R_10.cell 2
          have A_10 := A_9.next hB_10
          have cA_10_0 : _ = some (Value.bool (qsg (fq lo) 0)) := A_10.cell 0
          have cA_10_1 : _ = some (Value.slice pa pn pc) := A_10.cell 1
          have cA_10_2 : _ = some (Value.slice pb pm pd) := A_10.cell 2
          have B_10 := B_9.next hB_10
          have cB_10_0 : _ = some (Value.bool (qsg (fq hi) 0)) := B_10.cell 0
          have cB_10_1 : _ = some (Value.slice ya yn yc) := B_10.cell 1
          have cB_10_2 : _ = some (Value.slice yb ym yd) := B_10.cell 2
          have hR_10 := hR_9.below hB_10
          have Op_10 := Op_9.below hB_10
          have Pp_10 := Pp_9.below hB_10
          have Oy_10 := Oy_9.below hB_10
          have Py_10 := Py_9.below hB_10
          have hbel_10 := hbel_9.next hB_10
          have hsz_10 := hB_10.size
          clear R_9 cR_9_0 cR_9_1 cR_9_2 A_9 cA_9_0 cA_9_1 cA_9_2 B_9 cB_9_0 cB_9_1 cB_9_2 hR_9 Op_9 Pp_9 Oy_9 Py_9 hbel_9 hB_10
          try clear hB
          go_wp2_with fail
          refine (cmp_k hC2h.out (Oy_10.rdQ Py_10 hqr.out) (by omega) hR_10 (by omega)).mono ?_
          rintro e w11 ⟨rfl, hB⟩
          have hB_11 : Below w10.heap.size w10 w11 := (bl.next hB)
          have R_11 := R_10.next hB_11
          have cR_11_0 : _ = some (Value.bool s) := R_11.cell 0
          have cR_11_1 : _ = some (Value.slice a n c) := R_11.cell 1
          have cR_11_2 : _ = some (Value.slice b m d) := R_11.cell 2
          have A_11 := A_10.next hB_11
          have cA_11_0 : _ = some (Value.bool (qsg (fq lo) 0)) := A_11.cell 0
          have cA_11_1 : _ = some (Value.slice pa pn pc) := A_11.cell 1
          have cA_11_2 : _ = some (Value.slice pb pm pd) := A_11.cell 2
          have B_11 := B_10.next hB_11
          have cB_11_0 : _ = some (Value.bool (qsg (fq hi) 0)) := B_11.cell 0
          have cB_11_1 : _ = some (Value.slice ya yn yc) := B_11.cell 1
          have cB_11_2 : _ = some (Value.slice yb ym yd) := B_11.cell 2
          have hR_11 := hR_10.below hB_11
          have Op_11 := Op_10.below hB_11
          have Pp_11 := Pp_10.below hB_11
          have Oy_11 := Oy_10.below hB_11
          have Py_11 := Py_10.below hB_11
          have hbel_11 := hbel_10.next hB_11
          have hsz_11 := hB_11.size
          clear R_10 cR_10_0 cR_10_1 cR_10_2 A_10 cA_10_0 cA_10_1 cA_10_2 B_10 cB_10_0 cB_10_1 cB_10_2 hR_10 Op_10 Pp_10 Oy_10 Py_10 hbel_10 hB_11
          try clear hB
          go_wp2
          go_ret
          exact ⟨rfl, hbel_11⟩
        · skip
          have d1 : decide (0 < C1) = false := decide_eq_false (by have := cl fl; omega)
          have HI := hid (fun w => isinf_p (w := w))
          rw [← hNA.out.hi' fh] at HI
          rw [fe_fin fl] at HP
          rw [fe_nf fh] at HQ
          clear cl ch hE hlt hX fl fh
          clear nl nh nx one le
          go_wp2_with fail
          refine (HZ.out _).mono ?_
          rintro e w5 ⟨rfl, hB⟩
          have hB_5 : Below w4.heap.size w4 w5 := (bl.next hB)
          have R_5 := R_4.next hB_5
          have cR_5_0 : _ = some (Value.bool s) := R_5.cell 0
          have cR_5_1 : _ = some (Value.slice a n c) := R_5.cell 1
          have cR_5_2 : _ = some (Value.slice b m d) := R_5.cell 2
          have hR_5 := hR_4.below hB_5
          have hbel_5 := hbel_4.next hB_5
          have hsz_5 := hB_5.size
          clear R_4 cR_4_0 cR_4_1 cR_4_2 hR_4 hbel_4 hB_5
          try clear hB
          go_wp2_with fail
          refine (HP.out _).mono ?_
          rintro e w6 ⟨pa, pn, pc, pb, pm, pd, rfl, hO, hO', hD, hB⟩
          have hB_6 : Below w5.heap.size w5 w6 := (bl.next hB)
          have R_6 := R_5.next hB_6
          have cR_6_0 : _ = some (Value.bool s) := R_6.cell 0
          have cR_6_1 : _ = some (Value.slice a n c) := R_6.cell 1
          have cR_6_2 : _ = some (Value.slice b m d) := R_6.cell 2
          have hR_6 := hR_5.below hB_6
          have hbel_6 := hbel_5.next hB_6
          have hsz_6 := hB_6.size
          clear R_5 cR_5_0 cR_5_1 cR_5_2 hR_5 hbel_5 hB_6
          have Op_6 := hO
          have ltOp := hO.ltB
          have Pp_6 := hO'
          have ltPp := hO'.ltB
          clear hO hO' hD
          try clear hB
          have hbx := blk_new w6 #[Value.bool (qsg (fq lo) 0), Value.slice pa pn pc, Value.slice pb pm pd] 27
          have hbB := (Below.refl w6.heap.size w6).alloc (Nat.le_refl _) (.cells #[Value.bool (qsg (fq lo) 0), Value.slice pa pn pc, Value.slice pb pm pd] 27)
          have hltA := hbx.lt
          have hB_7 : Below w6.heap.size w6 (w6.alloc (.cells #[Value.bool (qsg (fq lo) 0), Value.slice pa pn pc, Value.slice pb pm pd] 27)) := hbB
          have R_7 := R_6.next hB_7
          have cR_7_0 : _ = some (Value.bool s) := R_7.cell 0
          have cR_7_1 : _ = some (Value.slice a n c) := R_7.cell 1
          have cR_7_2 : _ = some (Value.slice b m d) := R_7.cell 2
          have hR_7 := hR_6.below hB_7
          have Op_7 := Op_6.below hB_7
          have Pp_7 := Pp_6.below hB_7
          have hbel_7 := hbel_6.next hB_7
          have hsz_7 := hB_7.size
          clear hB_7
          have A_7 := hbx
          clear hbx hbB
          have cA_7_0 : _ = some (Value.bool (qsg (fq lo) 0)) := A_7.cell 0
          have cA_7_1 : _ = some (Value.slice pa pn pc) := A_7.cell 1
          have cA_7_2 : _ = some (Value.slice pb pm pd) := A_7.cell 2
          go_wp2_with fail
          clear R_6 cR_6_0 cR_6_1 cR_6_2 hR_6 Op_6 Pp_6 hbel_6
          generalize (w6.alloc (.cells #[Value.bool (qsg (fq lo) 0), Value.slice pa pn pc, Value.slice pb pm pd] 27)) = v7 at *
          go_wp2_with fail
          refine (HQ.out _).mono ?_
          rintro e w8 ⟨ya, yn, yc, yb, ym, yd, rfl, hO, hO', hD, hB⟩
          have hB_8 : Below v7.heap.size v7 w8 := (bl.next hB)
          have R_8 := R_7.next hB_8
          have cR_8_0 : _ = some (Value.bool s) := R_8.cell 0
          have cR_8_1 : _ = some (Value.slice a n c) := R_8.cell 1
          have cR_8_2 : _ = some (Value.slice b m d) := R_8.cell 2
          have A_8 := A_7.next hB_8
          have cA_8_0 : _ = some (Value.bool (qsg (fq lo) 0)) := A_8.cell 0
          have cA_8_1 : _ = some (Value.slice pa pn pc) := A_8.cell 1
          have cA_8_2 : _ = some (Value.slice pb pm pd) := A_8.cell 2
          have hR_8 := hR_7.below hB_8
          have Op_8 := Op_7.below hB_8
          have Pp_8 := Pp_7.below hB_8
          have hbel_8 := hbel_7.next hB_8
          have hsz_8 := hB_8.size
          clear R_7 cR_7_0 cR_7_1 cR_7_2 A_7 cA_7_0 cA_7_1 cA_7_2 hR_7 Op_7 Pp_7 hbel_7 hB_8
          have Oy_8 := hO
          have ltOy := hO.ltB
          have Py_8 := hO'
          have ltPy := hO'.ltB
          clear hO hO' hD
          try clear hB
          have hbx := blk_new w8 #[Value.bool (qsg (fq hi) 13), Value.slice ya yn yc, Value.slice yb ym yd] 27
          have hbB := (Below.refl w8.heap.size w8).alloc (Nat.le_refl _) (.cells #[Value.bool (qsg (fq hi) 13), Value.slice ya yn yc, Value.slice yb ym yd] 27)
          have hltB := hbx.lt
          have hB_9 : Below w8.heap.size w8 (w8.alloc (.cells #[Value.bool (qsg (fq hi) 13), Value.slice ya yn yc, Value.slice yb ym yd] 27)) := hbB
          have R_9 := R_8.next hB_9
          have cR_9_0 : _ = some (Value.bool s) := R_9.cell 0
          have cR_9_1 : _ = some (Value.slice a n c) := R_9.cell 1
          have cR_9_2 : _ = some (Value.slice b m d) := R_9.cell 2
          have A_9 := A_8.next hB_9
          have cA_9_0 : _ = some (Value.bool (qsg (fq lo) 0)) := A_9.cell 0
          have cA_9_1 : _ = some (Value.slice pa pn pc) := A_9.cell 1
          have cA_9_2 : _ = some (Value.slice pb pm pd) := A_9.cell 2
          have hR_9 := hR_8.below hB_9
          have Op_9 := Op_8.below hB_9
          have Pp_9 := Pp_8.below hB_9
          have Oy_9 := Oy_8.below hB_9
          have Py_9 := Py_8.below hB_9
          have hbel_9 := hbel_8.next hB_9
          have hsz_9 := hB_9.size
          clear hB_9
          have B_9 := hbx
          clear hbx hbB
          have cB_9_0 : _ = some (Value.bool (qsg (fq hi) 13)) := B_9.cell 0
          have cB_9_1 : _ = some (Value.slice ya yn yc) := B_9.cell 1
          have cB_9_2 : _ = some (Value.slice yb ym yd) := B_9.cell 2
          go_wp2_with fail
          clear R_8 cR_8_0 cR_8_1 cR_8_2 A_8 cA_8_0 cA_8_1 cA_8_2 hR_8 Op_8 Pp_8 Oy_8 Py_8 hbel_8
          generalize (w8.alloc (.cells #[Value.bool (qsg (fq hi) 13), Value.slice ya yn yc, Value.slice yb ym yd] 27)) = v9 at *
          go_wp2_with fail
          refine (cmp_k hC1h.out (Op_9.rdQ Pp_9 hql.out) (by omega) hR_9 (by omega)).mono ?_
          rintro e w10 ⟨rfl, hB⟩
          have hB_10 : Below v9.heap.size v9 w10 := (bl.next hB)
          have R_10 := R_9.next hB_10
          have cR_10_0 : _ = some (Value.bool s) := R_10.cell 0
          have cR_10_1 : _ = some (Value.slice a n c) := R_10.cell 1
          have cR_10_2 : _ = some (Value.slice b m d) := R_10.cell 2
          have A_10 := A_9.next hB_10
          have cA_10_0 : _ = some (Value.bool (qsg (fq lo) 0)) := A_10.cell 0
          have cA_10_1 : _ = some (Value.slice pa pn pc) := A_10.cell 1
          have cA_10_2 : _ = some (Value.slice pb pm pd) := A_10.cell 2
          have B_10 := B_9.next hB_10
          have cB_10_0 : _ = some (Value.bool (qsg (fq hi) 13)) := B_10.cell 0
          have cB_10_1 : _ = some (Value.slice ya yn yc) := B_10.cell 1
          have cB_10_2 : _ = some (Value.slice yb ym yd) := B_10.cell 2
          have hR_10 := hR_9.below hB_10
          have Op_10 := Op_9.below hB_10
          have Pp_10 := Pp_9.below hB_10
          have Oy_10 := Oy_9.below hB_10
          have Py_10 := Py_9.below hB_10
          have hbel_10 := hbel_9.next hB_10
          have hsz_10 := hB_10.size
          clear R_9 cR_9_0 cR_9_1 cR_9_2 A_9 cA_9_0 cA_9_1 cA_9_2 B_9 cB_9_0 cB_9_1 cB_9_2 hR_9 Op_9 Pp_9 Oy_9 Py_9 hbel_9 hB_10
          try clear hB
          go_wp2_with fail
          refine (HI.out _).mono ?_
          rintro e w11 ⟨rfl, hB⟩
          have hB_11 : Below w10.heap.size w10 w11 := (bl.next hB)
          have R_11 := R_10.next hB_11
          have cR_11_0 : _ = some (Value.bool s) := R_11.cell 0
          have cR_11_1 : _ = some (Value.slice a n c) := R_11.cell 1
          have cR_11_2 : _ = some (Value.slice b m d) := R_11.cell 2
          have A_11 := A_10.next hB_11
          have cA_11_0 : _ = some (Value.bool (qsg (fq lo) 0)) := A_11.cell 0
          have cA_11_1 : _ = some (Value.slice pa pn pc) := A_11.cell 1
          have cA_11_2 : _ = some (Value.slice pb pm pd) := A_11.cell 2
          have B_11 := B_10.next hB_11
          have cB_11_0 : _ = some (Value.bool (qsg (fq hi) 13)) := B_11.cell 0
          have cB_11_1 : _ = some (Value.slice ya yn yc) := B_11.cell 1
          have cB_11_2 : _ = some (Value.slice yb ym yd) := B_11.cell 2
          have hR_11 := hR_10.below hB_11
          have Op_11 := Op_10.below hB_11
          have Pp_11 := Pp_10.below hB_11
          have Oy_11 := Oy_10.below hB_11
          have Py_11 := Py_10.below hB_11
          have hbel_11 := hbel_10.next hB_11
          have hsz_11 := hB_11.size
          clear R_10 cR_10_0 cR_10_1 cR_10_2 A_10 cA_10_0 cA_10_1 cA_10_2 B_10 cB_10_0 cB_10_1 cB_10_2 hR_10 Op_10 Pp_10 Oy_10 Py_10 hbel_10 hB_11
          try clear hB
          go_wp2
          go_ret
          exact ⟨rfl, hbel_11⟩
      · skip
        by_cases fh : fr hi < 9218868437227405312
        · skip
          have HI := hid (fun w => isinf_n (w := w))
          rw [← hNA.out.li fl] at HI
          have d2 : decide (C2 < 0) = false := decide_eq_false (by have := ch fh; omega)
          rw [fe_nf fl] at HP
          rw [fe_fin fh] at HQ
          clear cl ch hE hlt hX fl fh
          clear nl nh nx one le
          go_wp2_with fail
          refine (HZ.out _).mono ?_
          rintro e w5 ⟨rfl, hB⟩
          have hB_5 : Below w4.heap.size w4 w5 := (bl.next hB)
          have R_5 := R_4.next hB_5
          have cR_5_0 : _ = some (Value.bool s) := R_5.cell 0
          have cR_5_1 : _ = some (Value.slice a n c) := R_5.cell 1
          have cR_5_2 : _ = some (Value.slice b m d) := R_5.cell 2
          have hR_5 := hR_4.below hB_5
          have hbel_5 := hbel_4.next hB_5
          have hsz_5 := hB_5.size
          clear R_4 cR_4_0 cR_4_1 cR_4_2 hR_4 hbel_4 hB_5
          try clear hB
          go_wp2_with fail
          refine (HP.out _).mono ?_
          rintro e w6 ⟨pa, pn, pc, pb, pm, pd, rfl, hO, hO', hD, hB⟩
          have hB_6 : Below w5.heap.size w5 w6 := (bl.next hB)
          have R_6 := R_5.next hB_6
          have cR_6_0 : _ = some (Value.bool s) := R_6.cell 0
          have cR_6_1 : _ = some (Value.slice a n c) := R_6.cell 1
          have cR_6_2 : _ = some (Value.slice b m d) := R_6.cell 2
          have hR_6 := hR_5.below hB_6
          have hbel_6 := hbel_5.next hB_6
          have hsz_6 := hB_6.size
          clear R_5 cR_5_0 cR_5_1 cR_5_2 hR_5 hbel_5 hB_6
          have Op_6 := hO
          have ltOp := hO.ltB
          have Pp_6 := hO'
          have ltPp := hO'.ltB
          clear hO hO' hD
          try clear hB
          have hbx := blk_new w6 #[Value.bool (qsg (fq lo) 13), Value.slice pa pn pc, Value.slice pb pm pd] 27
          have hbB := (Below.refl w6.heap.size w6).alloc (Nat.le_refl _) (.cells #[Value.bool (qsg (fq lo) 13), Value.slice pa pn pc, Value.slice pb pm pd] 27)
          have hltA := hbx.lt
          have hB_7 : Below w6.heap.size w6 (w6.alloc (.cells #[Value.bool (qsg (fq lo) 13), Value.slice pa pn pc, Value.slice pb pm pd] 27)) := hbB
          have R_7 := R_6.next hB_7
          have cR_7_0 : _ = some (Value.bool s) := R_7.cell 0
          have cR_7_1 : _ = some (Value.slice a n c) := R_7.cell 1
          have cR_7_2 : _ = some (Value.slice b m d) := R_7.cell 2
          have hR_7 := hR_6.below hB_7
          have Op_7 := Op_6.below hB_7
          have Pp_7 := Pp_6.below hB_7
          have hbel_7 := hbel_6.next hB_7
          have hsz_7 := hB_7.size
          clear hB_7
          have A_7 := hbx
          clear hbx hbB
          have cA_7_0 : _ = some (Value.bool (qsg (fq lo) 13)) := A_7.cell 0
          have cA_7_1 : _ = some (Value.slice pa pn pc) := A_7.cell 1
          have cA_7_2 : _ = some (Value.slice pb pm pd) := A_7.cell 2
          go_wp2_with fail
          clear R_6 cR_6_0 cR_6_1 cR_6_2 hR_6 Op_6 Pp_6 hbel_6
          generalize (w6.alloc (.cells #[Value.bool (qsg (fq lo) 13), Value.slice pa pn pc, Value.slice pb pm pd] 27)) = v7 at *
          go_wp2_with fail
          refine (HQ.out _).mono ?_
          rintro e w8 ⟨ya, yn, yc, yb, ym, yd, rfl, hO, hO', hD, hB⟩
          have hB_8 : Below v7.heap.size v7 w8 := (bl.next hB)
          have R_8 := R_7.next hB_8
          have cR_8_0 : _ = some (Value.bool s) := R_8.cell 0
          have cR_8_1 : _ = some (Value.slice a n c) := R_8.cell 1
          have cR_8_2 : _ = some (Value.slice b m d) := R_8.cell 2
          have A_8 := A_7.next hB_8
          have cA_8_0 : _ = some (Value.bool (qsg (fq lo) 13)) := A_8.cell 0
          have cA_8_1 : _ = some (Value.slice pa pn pc) := A_8.cell 1
          have cA_8_2 : _ = some (Value.slice pb pm pd) := A_8.cell 2
          have hR_8 := hR_7.below hB_8
          have Op_8 := Op_7.below hB_8
          have Pp_8 := Pp_7.below hB_8
          have hbel_8 := hbel_7.next hB_8
          have hsz_8 := hB_8.size
          clear R_7 cR_7_0 cR_7_1 cR_7_2 A_7 cA_7_0 cA_7_1 cA_7_2 hR_7 Op_7 Pp_7 hbel_7 hB_8
          have Oy_8 := hO
          have ltOy := hO.ltB
          have Py_8 := hO'
          have ltPy := hO'.ltB
          clear hO hO' hD
          try clear hB
          have hbx := blk_new w8 #[Value.bool (qsg (fq hi) 0), Value.slice ya yn yc, Value.slice yb ym yd] 27
          have hbB := (Below.refl w8.heap.size w8).alloc (Nat.le_refl _) (.cells #[Value.bool (qsg (fq hi) 0), Value.slice ya yn yc, Value.slice yb ym yd] 27)
          have hltB := hbx.lt
          have hB_9 : Below w8.heap.size w8 (w8.alloc (.cells #[Value.bool (qsg (fq hi) 0), Value.slice ya yn yc, Value.slice yb ym yd] 27)) := hbB
          have R_9 := R_8.next hB_9
          have cR_9_0 : _ = some (Value.bool s) := R_9.cell 0
          have cR_9_1 : _ = some (Value.slice a n c) := R_9.cell 1
          have cR_9_2 : _ = some (Value.slice b m d) := R_9.cell 2
          have A_9 := A_8.next hB_9
          have cA_9_0 : _ = some (Value.bool (qsg (fq lo) 13)) := A_9.cell 0
          have cA_9_1 : _ = some (Value.slice pa pn pc) := A_9.cell 1
          have cA_9_2 : _ = some (Value.slice pb pm pd) := A_9.cell 2
          have hR_9 := hR_8.below hB_9
          have Op_9 := Op_8.below hB_9
          have Pp_9 := Pp_8.below hB_9
          have Oy_9 := Oy_8.below hB_9
          have Py_9 := Py_8.below hB_9
          have hbel_9 := hbel_8.next hB_9
          have hsz_9 := hB_9.size
          clear hB_9
          have B_9 := hbx
          clear hbx hbB
          have cB_9_0 : _ = some (Value.bool (qsg (fq hi) 0)) := B_9.cell 0
          have cB_9_1 : _ = some (Value.slice ya yn yc) := B_9.cell 1
          have cB_9_2 : _ = some (Value.slice yb ym yd) := B_9.cell 2
          go_wp2_with fail
          clear R_8 cR_8_0 cR_8_1 cR_8_2 A_8 cA_8_0 cA_8_1 cA_8_2 hR_8 Op_8 Pp_8 Oy_8 Py_8 hbel_8
          generalize (w8.alloc (.cells #[Value.bool (qsg (fq hi) 0), Value.slice ya yn yc, Value.slice yb ym yd] 27)) = v9 at *
          go_wp2_with fail
          refine (cmp_k hC2h.out (Oy_9.rdQ Py_9 hqr.out) (by omega) hR_9 (by omega)).mono ?_
          rintro e w10 ⟨rfl, hB⟩
          have hB_10 : Below v9.heap.size v9 w10 := (bl.next hB)
          have R_10 := R_9.next hB_10
          have cR_10_0 : _ = some (Value.bool s) := R_10.cell 0
          have cR_10_1 : _ = some (Value.slice a n c) := R_10.cell 1
          have cR_10_2 : _ = some (Value.slice b m d) := R_10.cell 2
          have A_10 := A_9.next hB_10
          have cA_10_0 : _ = some (Value.bool (qsg (fq lo) 13)) := A_10.cell 0
          have cA_10_1 : _ = some (Value.slice pa pn pc) := A_10.cell 1
          have cA_10_2 : _ = some (Value.slice pb pm pd) := A_10.cell 2
          have B_10 := B_9.next hB_10
          have cB_10_0 : _ = some (Value.bool (qsg (fq hi) 0)) := B_10.cell 0
          have cB_10_1 : _ = some (Value.slice ya yn yc) := B_10.cell 1
          have cB_10_2 : _ = some (Value.slice yb ym yd) := B_10.cell 2
          have hR_10 := hR_9.below hB_10
          have Op_10 := Op_9.below hB_10
          have Pp_10 := Pp_9.below hB_10
          have Oy_10 := Oy_9.below hB_10
          have Py_10 := Py_9.below hB_10
          have hbel_10 := hbel_9.next hB_10
          have hsz_10 := hB_10.size
          clear R_9 cR_9_0 cR_9_1 cR_9_2 A_9 cA_9_0 cA_9_1 cA_9_2 B_9 cB_9_0 cB_9_1 cB_9_2 hR_9 Op_9 Pp_9 Oy_9 Py_9 hbel_9 hB_10
          try clear hB
          go_wp2_with fail
          refine (HI.out _).mono ?_
          rintro e w11 ⟨rfl, hB⟩
          have hB_11 : Below w10.heap.size w10 w11 := (bl.next hB)
          have R_11 := R_10.next hB_11
          have cR_11_0 : _ = some (Value.bool s) := R_11.cell 0
          have cR_11_1 : _ = some (Value.slice a n c) := R_11.cell 1
          have cR_11_2 : _ = some (Value.slice b m d) := R_11.cell 2
          have A_11 := A_10.next hB_11
          have cA_11_0 : _ = some (Value.bool (qsg (fq lo) 13)) := A_11.cell 0
          have cA_11_1 : _ = some (Value.slice pa pn pc) := A_11.cell 1
          have cA_11_2 : _ = some (Value.slice pb pm pd) := A_11.cell 2
          have B_11 := B_10.next hB_11
          have cB_11_0 : _ = some (Value.bool (qsg (fq hi) 0)) := B_11.cell 0
          have cB_11_1 : _ = some (Value.slice ya yn yc) := B_11.cell 1
          have cB_11_2 : _ = some (Value.slice yb ym yd) := B_11.cell 2
          have hR_11 := hR_10.below hB_11
          have Op_11 := Op_10.below hB_11
          have Pp_11 := Pp_10.below hB_11
          have Oy_11 := Oy_10.below hB_11
          have Py_11 := Py_10.below hB_11
          have hbel_11 := hbel_10.next hB_11
          have hsz_11 := hB_11.size
          clear R_10 cR_10_0 cR_10_1 cR_10_2 A_10 cA_10_0 cA_10_1 cA_10_2 B_10 cB_10_0 cB_10_1 cB_10_2 hR_10 Op_10 Pp_10 Oy_10 Py_10 hbel_10 hB_11
          try clear hB
          go_wp2
          go_ret
          exact ⟨rfl, hbel_11⟩
        · skip
          exfalso
          have h1 := hNA.out.li fl
          have h2 := hNA.out.hi' fh
          rcases hNA.out.nxt hlt with ⟨h3, _⟩ | ⟨r', _, h3, h4, _⟩ | ⟨t', h3, _, _, h5⟩
          · omega
          · omega
          · rw [h2] at h5; have h6 : fk 9218868437227405312 = 9218868437227405312 := by decide
            omega
    · skip
      have x1 := od_ne nx nl hX
      have x2 := od_eq nx nh (by omega)
      by_cases fl : fr lo < 9218868437227405312
      · skip
        by_cases fh : fr hi < 9218868437227405312
        · skip
          have d1 : decide (0 < C1) = false := decide_eq_false (by have := cl fl; omega)
          have d2 : decide (C2 < 0) = false := decide_eq_false (by have := ch fh; omega)
          rw [fe_fin fl] at HP
          rw [fe_fin fh] at HQ
          clear cl ch hE hlt hX fl fh
          clear nl nh nx one le
          go_wp2_with fail
          refine (HZ.out _).mono ?_
          rintro e w5 ⟨rfl, hB⟩
          have hB_5 : Below w4.heap.size w4 w5 := (bl.next hB)
          have R_5 := R_4.next hB_5
          have cR_5_0 : _ = some (Value.bool s) := R_5.cell 0
          have cR_5_1 : _ = some (Value.slice a n c) := R_5.cell 1
          have cR_5_2 : _ = some (Value.slice b m d) := R_5.cell 2
          have hR_5 := hR_4.below hB_5
          have hbel_5 := hbel_4.next hB_5
          have hsz_5 := hB_5.size
          clear R_4 cR_4_0 cR_4_1 cR_4_2 hR_4 hbel_4 hB_5
          try clear hB
          go_wp2_with fail
          refine (HP.out _).mono ?_
          rintro e w6 ⟨pa, pn, pc, pb, pm, pd, rfl, hO, hO', hD, hB⟩
          have hB_6 : Below w5.heap.size w5 w6 := (bl.next hB)
          have R_6 := R_5.next hB_6
          have cR_6_0 : _ = some (Value.bool s) := R_6.cell 0
          have cR_6_1 : _ = some (Value.slice a n c) := R_6.cell 1
          have cR_6_2 : _ = some (Value.slice b m d) := R_6.cell 2
          have hR_6 := hR_5.below hB_6
          have hbel_6 := hbel_5.next hB_6
          have hsz_6 := hB_6.size
          clear R_5 cR_5_0 cR_5_1 cR_5_2 hR_5 hbel_5 hB_6
          have Op_6 := hO
          have ltOp := hO.ltB
          have Pp_6 := hO'
          have ltPp := hO'.ltB
          clear hO hO' hD
          try clear hB
          have hbx := blk_new w6 #[Value.bool (qsg (fq lo) 0), Value.slice pa pn pc, Value.slice pb pm pd] 27
          have hbB := (Below.refl w6.heap.size w6).alloc (Nat.le_refl _) (.cells #[Value.bool (qsg (fq lo) 0), Value.slice pa pn pc, Value.slice pb pm pd] 27)
          have hltA := hbx.lt
          have hB_7 : Below w6.heap.size w6 (w6.alloc (.cells #[Value.bool (qsg (fq lo) 0), Value.slice pa pn pc, Value.slice pb pm pd] 27)) := hbB
          have R_7 := R_6.next hB_7
          have cR_7_0 : _ = some (Value.bool s) := R_7.cell 0
          have cR_7_1 : _ = some (Value.slice a n c) := R_7.cell 1
          have cR_7_2 : _ = some (Value.slice b m d) := R_7.cell 2
          have hR_7 := hR_6.below hB_7
          have Op_7 := Op_6.below hB_7
          have Pp_7 := Pp_6.below hB_7
          have hbel_7 := hbel_6.next hB_7
          have hsz_7 := hB_7.size
          clear hB_7
          have A_7 := hbx
          clear hbx hbB
          have cA_7_0 : _ = some (Value.bool (qsg (fq lo) 0)) := A_7.cell 0
          have cA_7_1 : _ = some (Value.slice pa pn pc) := A_7.cell 1
          have cA_7_2 : _ = some (Value.slice pb pm pd) := A_7.cell 2
          go_wp2_with fail
          clear R_6 cR_6_0 cR_6_1 cR_6_2 hR_6 Op_6 Pp_6 hbel_6
          generalize (w6.alloc (.cells #[Value.bool (qsg (fq lo) 0), Value.slice pa pn pc, Value.slice pb pm pd] 27)) = v7 at *
          go_wp2_with fail
          refine (HQ.out _).mono ?_
          rintro e w8 ⟨ya, yn, yc, yb, ym, yd, rfl, hO, hO', hD, hB⟩
          have hB_8 : Below v7.heap.size v7 w8 := (bl.next hB)
          have R_8 := R_7.next hB_8
          have cR_8_0 : _ = some (Value.bool s) := R_8.cell 0
          have cR_8_1 : _ = some (Value.slice a n c) := R_8.cell 1
          have cR_8_2 : _ = some (Value.slice b m d) := R_8.cell 2
          have A_8 := A_7.next hB_8
          have cA_8_0 : _ = some (Value.bool (qsg (fq lo) 0)) := A_8.cell 0
          have cA_8_1 : _ = some (Value.slice pa pn pc) := A_8.cell 1
          have cA_8_2 : _ = some (Value.slice pb pm pd) := A_8.cell 2
          have hR_8 := hR_7.below hB_8
          have Op_8 := Op_7.below hB_8
          have Pp_8 := Pp_7.below hB_8
          have hbel_8 := hbel_7.next hB_8
          have hsz_8 := hB_8.size
          clear R_7 cR_7_0 cR_7_1 cR_7_2 A_7 cA_7_0 cA_7_1 cA_7_2 hR_7 Op_7 Pp_7 hbel_7 hB_8
          have Oy_8 := hO
          have ltOy := hO.ltB
          have Py_8 := hO'
          have ltPy := hO'.ltB
          clear hO hO' hD
          try clear hB
          have hbx := blk_new w8 #[Value.bool (qsg (fq hi) 0), Value.slice ya yn yc, Value.slice yb ym yd] 27
          have hbB := (Below.refl w8.heap.size w8).alloc (Nat.le_refl _) (.cells #[Value.bool (qsg (fq hi) 0), Value.slice ya yn yc, Value.slice yb ym yd] 27)
          have hltB := hbx.lt
          have hB_9 : Below w8.heap.size w8 (w8.alloc (.cells #[Value.bool (qsg (fq hi) 0), Value.slice ya yn yc, Value.slice yb ym yd] 27)) := hbB
          have R_9 := R_8.next hB_9
          have cR_9_0 : _ = some (Value.bool s) := R_9.cell 0
          have cR_9_1 : _ = some (Value.slice a n c) := R_9.cell 1
          have cR_9_2 : _ = some (Value.slice b m d) := R_9.cell 2
          have A_9 := A_8.next hB_9
          have cA_9_0 : _ = some (Value.bool (qsg (fq lo) 0)) := A_9.cell 0
          have cA_9_1 : _ = some (Value.slice pa pn pc) := A_9.cell 1
          have cA_9_2 : _ = some (Value.slice pb pm pd) := A_9.cell 2
          have hR_9 := hR_8.below hB_9
          have Op_9 := Op_8.below hB_9
          have Pp_9 := Pp_8.below hB_9
          have Oy_9 := Oy_8.below hB_9
          have Py_9 := Py_8.below hB_9
          have hbel_9 := hbel_8.next hB_9
          have hsz_9 := hB_9.size
          clear hB_9
          have B_9 := hbx
          clear hbx hbB
          have cB_9_0 : _ = some (Value.bool (qsg (fq hi) 0)) := B_9.cell 0
          have cB_9_1 : _ = some (Value.slice ya yn yc) := B_9.cell 1
          have cB_9_2 : _ = some (Value.slice yb ym yd) := B_9.cell 2
          go_wp2_with fail
          clear R_8 cR_8_0 cR_8_1 cR_8_2 A_8 cA_8_0 cA_8_1 cA_8_2 hR_8 Op_8 Pp_8 Oy_8 Py_8 hbel_8
          generalize (w8.alloc (.cells #[Value.bool (qsg (fq hi) 0), Value.slice ya yn yc, Value.slice yb ym yd] 27)) = v9 at *
          go_wp2_with fail
          refine (cmp_k hC1h.out (Op_9.rdQ Pp_9 hql.out) (by omega) hR_9 (by omega)).mono ?_
          rintro e w10 ⟨rfl, hB⟩
          have hB_10 : Below v9.heap.size v9 w10 := (bl.next hB)
          have R_10 := R_9.next hB_10
          have cR_10_0 : _ = some (Value.bool s) := R_10.cell 0
          have cR_10_1 : _ = some (Value.slice a n c) := R_10.cell 1
          have cR_10_2 : _ = some (Value.slice b m d) := R_10.cell 2
          have A_10 := A_9.next hB_10
          have cA_10_0 : _ = some (Value.bool (qsg (fq lo) 0)) := A_10.cell 0
          have cA_10_1 : _ = some (Value.slice pa pn pc) := A_10.cell 1
          have cA_10_2 : _ = some (Value.slice pb pm pd) := A_10.cell 2
          have B_10 := B_9.next hB_10
          have cB_10_0 : _ = some (Value.bool (qsg (fq hi) 0)) := B_10.cell 0
          have cB_10_1 : _ = some (Value.slice ya yn yc) := B_10.cell 1
          have cB_10_2 : _ = some (Value.slice yb ym yd) := B_10.cell 2
          have hR_10 := hR_9.below hB_10
          have Op_10 := Op_9.below hB_10
          have Pp_10 := Pp_9.below hB_10
          have Oy_10 := Oy_9.below hB_10
          have Py_10 := Py_9.below hB_10
          have hbel_10 := hbel_9.next hB_10
          have hsz_10 := hB_10.size
          clear R_9 cR_9_0 cR_9_1 cR_9_2 A_9 cA_9_0 cA_9_1 cA_9_2 B_9 cB_9_0 cB_9_1 cB_9_2 hR_9 Op_9 Pp_9 Oy_9 Py_9 hbel_9 hB_10
          try clear hB
          go_wp2_with fail
          refine (cmp_k hC2h.out (Oy_10.rdQ Py_10 hqr.out) (by omega) hR_10 (by omega)).mono ?_
          rintro e w11 ⟨rfl, hB⟩
          have hB_11 : Below w10.heap.size w10 w11 := (bl.next hB)
          have R_11 := R_10.next hB_11
          have cR_11_0 : _ = some (Value.bool s) := R_11.cell 0
          have cR_11_1 : _ = some (Value.slice a n c) := R_11.cell 1
          have cR_11_2 : _ = some (Value.slice b m d) := R_11.cell 2
          have A_11 := A_10.next hB_11
          have cA_11_0 : _ = some (Value.bool (qsg (fq lo) 0)) := A_11.cell 0
          have cA_11_1 : _ = some (Value.slice pa pn pc) := A_11.cell 1
          have cA_11_2 : _ = some (Value.slice pb pm pd) := A_11.cell 2
          have B_11 := B_10.next hB_11
          have cB_11_0 : _ = some (Value.bool (qsg (fq hi) 0)) := B_11.cell 0
          have cB_11_1 : _ = some (Value.slice ya yn yc) := B_11.cell 1
          have cB_11_2 : _ = some (Value.slice yb ym yd) := B_11.cell 2
          have hR_11 := hR_10.below hB_11
          have Op_11 := Op_10.below hB_11
          have Pp_11 := Pp_10.below hB_11
          have Oy_11 := Oy_10.below hB_11
          have Py_11 := Py_10.below hB_11
          have hbel_11 := hbel_10.next hB_11
          have hsz_11 := hB_11.size
          clear R_10 cR_10_0 cR_10_1 cR_10_2 A_10 cA_10_0 cA_10_1 cA_10_2 B_10 cB_10_0 cB_10_1 cB_10_2 hR_10 Op_10 Pp_10 Oy_10 Py_10 hbel_10 hB_11
          try clear hB
          go_wp2
          go_ret
          exact ⟨rfl, hbel_11⟩
        · skip
          have d1 : decide (0 < C1) = false := decide_eq_false (by have := cl fl; omega)
          have HI := hid (fun w => isinf_p (w := w))
          rw [← hNA.out.hi' fh] at HI
          rw [fe_fin fl] at HP
          rw [fe_nf fh] at HQ
          clear cl ch hE hlt hX fl fh
          clear nl nh nx one le
          go_wp2_with fail
          refine (HZ.out _).mono ?_
          rintro e w5 ⟨rfl, hB⟩
          have hB_5 : Below w4.heap.size w4 w5 := (bl.next hB)
          have R_5 := R_4.next hB_5
          have cR_5_0 : _ = some (Value.bool s) := R_5.cell 0
          have cR_5_1 : _ = some (Value.slice a n c) := R_5.cell 1
          have cR_5_2 : _ = some (Value.slice b m d) := R_5.cell 2
          have hR_5 := hR_4.below hB_5
          have hbel_5 := hbel_4.next hB_5
          have hsz_5 := hB_5.size
          clear R_4 cR_4_0 cR_4_1 cR_4_2 hR_4 hbel_4 hB_5
          try clear hB
          go_wp2_with fail
          refine (HP.out _).mono ?_
          rintro e w6 ⟨pa, pn, pc, pb, pm, pd, rfl, hO, hO', hD, hB⟩
          have hB_6 : Below w5.heap.size w5 w6 := (bl.next hB)
          have R_6 := R_5.next hB_6
          have cR_6_0 : _ = some (Value.bool s) := R_6.cell 0
          have cR_6_1 : _ = some (Value.slice a n c) := R_6.cell 1
          have cR_6_2 : _ = some (Value.slice b m d) := R_6.cell 2
          have hR_6 := hR_5.below hB_6
          have hbel_6 := hbel_5.next hB_6
          have hsz_6 := hB_6.size
          clear R_5 cR_5_0 cR_5_1 cR_5_2 hR_5 hbel_5 hB_6
          have Op_6 := hO
          have ltOp := hO.ltB
          have Pp_6 := hO'
          have ltPp := hO'.ltB
          clear hO hO' hD
          try clear hB
          have hbx := blk_new w6 #[Value.bool (qsg (fq lo) 0), Value.slice pa pn pc, Value.slice pb pm pd] 27
          have hbB := (Below.refl w6.heap.size w6).alloc (Nat.le_refl _) (.cells #[Value.bool (qsg (fq lo) 0), Value.slice pa pn pc, Value.slice pb pm pd] 27)
          have hltA := hbx.lt
          have hB_7 : Below w6.heap.size w6 (w6.alloc (.cells #[Value.bool (qsg (fq lo) 0), Value.slice pa pn pc, Value.slice pb pm pd] 27)) := hbB
          have R_7 := R_6.next hB_7
          have cR_7_0 : _ = some (Value.bool s) := R_7.cell 0
          have cR_7_1 : _ = some (Value.slice a n c) := R_7.cell 1
          have cR_7_2 : _ = some (Value.slice b m d) := R_7.cell 2
          have hR_7 := hR_6.below hB_7
          have Op_7 := Op_6.below hB_7
          have Pp_7 := Pp_6.below hB_7
          have hbel_7 := hbel_6.next hB_7
          have hsz_7 := hB_7.size
          clear hB_7
          have A_7 := hbx
          clear hbx hbB
          have cA_7_0 : _ = some (Value.bool (qsg (fq lo) 0)) := A_7.cell 0
          have cA_7_1 : _ = some (Value.slice pa pn pc) := A_7.cell 1
          have cA_7_2 : _ = some (Value.slice pb pm pd) := A_7.cell 2
          go_wp2_with fail
          clear R_6 cR_6_0 cR_6_1 cR_6_2 hR_6 Op_6 Pp_6 hbel_6
          generalize (w6.alloc (.cells #[Value.bool (qsg (fq lo) 0), Value.slice pa pn pc, Value.slice pb pm pd] 27)) = v7 at *
          go_wp2_with fail
          refine (HQ.out _).mono ?_
          rintro e w8 ⟨ya, yn, yc, yb, ym, yd, rfl, hO, hO', hD, hB⟩
          have hB_8 : Below v7.heap.size v7 w8 := (bl.next hB)
          have R_8 := R_7.next hB_8
          have cR_8_0 : _ = some (Value.bool s) := R_8.cell 0
          have cR_8_1 : _ = some (Value.slice a n c) := R_8.cell 1
          have cR_8_2 : _ = some (Value.slice b m d) := R_8.cell 2
          have A_8 := A_7.next hB_8
          have cA_8_0 : _ = some (Value.bool (qsg (fq lo) 0)) := A_8.cell 0
          have cA_8_1 : _ = some (Value.slice pa pn pc) := A_8.cell 1
          have cA_8_2 : _ = some (Value.slice pb pm pd) := A_8.cell 2
          have hR_8 := hR_7.below hB_8
          have Op_8 := Op_7.below hB_8
          have Pp_8 := Pp_7.below hB_8
          have hbel_8 := hbel_7.next hB_8
          have hsz_8 := hB_8.size
          clear R_7 cR_7_0 cR_7_1 cR_7_2 A_7 cA_7_0 cA_7_1 cA_7_2 hR_7 Op_7 Pp_7 hbel_7 hB_8
          have Oy_8 := hO
          have ltOy := hO.ltB
          have Py_8 := hO'
          have ltPy := hO'.ltB
          clear hO hO' hD
          try clear hB
          have hbx := blk_new w8 #[Value.bool (qsg (fq hi) 13), Value.slice ya yn yc, Value.slice yb ym yd] 27
          have hbB := (Below.refl w8.heap.size w8).alloc (Nat.le_refl _) (.cells #[Value.bool (qsg (fq hi) 13), Value.slice ya yn yc, Value.slice yb ym yd] 27)
          have hltB := hbx.lt
          have hB_9 : Below w8.heap.size w8 (w8.alloc (.cells #[Value.bool (qsg (fq hi) 13), Value.slice ya yn yc, Value.slice yb ym yd] 27)) := hbB
          have R_9 := R_8.next hB_9
          have cR_9_0 : _ = some (Value.bool s) := R_9.cell 0
          have cR_9_1 : _ = some (Value.slice a n c) := R_9.cell 1
          have cR_9_2 : _ = some (Value.slice b m d) := R_9.cell 2
          have A_9 := A_8.next hB_9
          have cA_9_0 : _ = some (Value.bool (qsg (fq lo) 0)) := A_9.cell 0
          have cA_9_1 : _ = some (Value.slice pa pn pc) := A_9.cell 1
          have cA_9_2 : _ = some (Value.slice pb pm pd) := A_9.cell 2
          have hR_9 := hR_8.below hB_9
          have Op_9 := Op_8.below hB_9
          have Pp_9 := Pp_8.below hB_9
          have Oy_9 := Oy_8.below hB_9
          have Py_9 := Py_8.below hB_9
          have hbel_9 := hbel_8.next hB_9
          have hsz_9 := hB_9.size
          clear hB_9
          have B_9 := hbx
          clear hbx hbB
          have cB_9_0 : _ = some (Value.bool (qsg (fq hi) 13)) := B_9.cell 0
          have cB_9_1 : _ = some (Value.slice ya yn yc) := B_9.cell 1
          have cB_9_2 : _ = some (Value.slice yb ym yd) := B_9.cell 2
          go_wp2_with fail
          clear R_8 cR_8_0 cR_8_1 cR_8_2 A_8 cA_8_0 cA_8_1 cA_8_2 hR_8 Op_8 Pp_8 Oy_8 Py_8 hbel_8
          generalize (w8.alloc (.cells #[Value.bool (qsg (fq hi) 13), Value.slice ya yn yc, Value.slice yb ym yd] 27)) = v9 at *
          go_wp2_with fail
          refine (cmp_k hC1h.out (Op_9.rdQ Pp_9 hql.out) (by omega) hR_9 (by omega)).mono ?_
          rintro e w10 ⟨rfl, hB⟩
          have hB_10 : Below v9.heap.size v9 w10 := (bl.next hB)
          have R_10 := R_9.next hB_10
          have cR_10_0 : _ = some (Value.bool s) := R_10.cell 0
          have cR_10_1 : _ = some (Value.slice a n c) := R_10.cell 1
          have cR_10_2 : _ = some (Value.slice b m d) := R_10.cell 2
          have A_10 := A_9.next hB_10
          have cA_10_0 : _ = some (Value.bool (qsg (fq lo) 0)) := A_10.cell 0
          have cA_10_1 : _ = some (Value.slice pa pn pc) := A_10.cell 1
          have cA_10_2 : _ = some (Value.slice pb pm pd) := A_10.cell 2
          have B_10 := B_9.next hB_10
          have cB_10_0 : _ = some (Value.bool (qsg (fq hi) 13)) := B_10.cell 0
          have cB_10_1 : _ = some (Value.slice ya yn yc) := B_10.cell 1
          have cB_10_2 : _ = some (Value.slice yb ym yd) := B_10.cell 2
          have hR_10 := hR_9.below hB_10
          have Op_10 := Op_9.below hB_10
          have Pp_10 := Pp_9.below hB_10
          have Oy_10 := Oy_9.below hB_10
          have Py_10 := Py_9.below hB_10
          have hbel_10 := hbel_9.next hB_10
          have hsz_10 := hB_10.size
          clear R_9 cR_9_0 cR_9_1 cR_9_2 A_9 cA_9_0 cA_9_1 cA_9_2 B_9 cB_9_0 cB_9_1 cB_9_2 hR_9 Op_9 Pp_9 Oy_9 Py_9 hbel_9 hB_10
          try clear hB
          go_wp2_with fail
          refine (HI.out _).mono ?_
          rintro e w11 ⟨rfl, hB⟩
          have hB_11 : Below w10.heap.size w10 w11 := (bl.next hB)
          have R_11 := R_10.next hB_11
          have cR_11_0 : _ = some (Value.bool s) := R_11.cell 0
          have cR_11_1 : _ = some (Value.slice a n c) := R_11.cell 1
          have cR_11_2 : _ = some (Value.slice b m d) := R_11.cell 2
          have A_11 := A_10.next hB_11
          have cA_11_0 : _ = some (Value.bool (qsg (fq lo) 0)) := A_11.cell 0
          have cA_11_1 : _ = some (Value.slice pa pn pc) := A_11.cell 1
          have cA_11_2 : _ = some (Value.slice pb pm pd) := A_11.cell 2
          have B_11 := B_10.next hB_11
          have cB_11_0 : _ = some (Value.bool (qsg (fq hi) 13)) := B_11.cell 0
          have cB_11_1 : _ = some (Value.slice ya yn yc) := B_11.cell 1
          have cB_11_2 : _ = some (Value.slice yb ym yd) := B_11.cell 2
          have hR_11 := hR_10.below hB_11
          have Op_11 := Op_10.below hB_11
          have Pp_11 := Pp_10.below hB_11
          have Oy_11 := Oy_10.below hB_11
          have Py_11 := Py_10.below hB_11
          have hbel_11 := hbel_10.next hB_11
          have hsz_11 := hB_11.size
          clear R_10 cR_10_0 cR_10_1 cR_10_2 A_10 cA_10_0 cA_10_1 cA_10_2 B_10 cB_10_0 cB_10_1 cB_10_2 hR_10 Op_10 Pp_10 Oy_10 Py_10 hbel_10 hB_11
          try clear hB
          go_wp2
          go_ret
          exact ⟨rfl, hbel_11⟩
      · skip
        by_cases fh : fr hi < 9218868437227405312
        · skip
          have HI := hid (fun w => isinf_n (w := w))
          rw [← hNA.out.li fl] at HI
          have d2 : decide (C2 < 0) = false := decide_eq_false (by have := ch fh; omega)
          rw [fe_nf fl] at HP
          rw [fe_fin fh] at HQ
          clear cl ch hE hlt hX fl fh
          clear nl nh nx one le
          go_wp2_with fail
          refine (HZ.out _).mono ?_
          rintro e w5 ⟨rfl, hB⟩
          have hB_5 : Below w4.heap.size w4 w5 := (bl.next hB)
          have R_5 := R_4.next hB_5
          have cR_5_0 : _ = some (Value.bool s) := R_5.cell 0
          have cR_5_1 : _ = some (Value.slice a n c) := R_5.cell 1
          have cR_5_2 : _ = some (Value.slice b m d) := R_5.cell 2
          have hR_5 := hR_4.below hB_5
          have hbel_5 := hbel_4.next hB_5
          have hsz_5 := hB_5.size
          clear R_4 cR_4_0 cR_4_1 cR_4_2 hR_4 hbel_4 hB_5
          try clear hB
          go_wp2_with fail
          refine (HP.out _).mono ?_
          rintro e w6 ⟨pa, pn, pc, pb, pm, pd, rfl, hO, hO', hD, hB⟩
          have hB_6 : Below w5.heap.size w5 w6 := (bl.next hB)
          have R_6 := R_5.next hB_6
          have cR_6_0 : _ = some (Value.bool s) := R_6.cell 0
          have cR_6_1 : _ = some (Value.slice a n c) := R_6.cell 1
          have cR_6_2 : _ = some (Value.slice b m d) := R_6.cell 2
          have hR_6 := hR_5.below hB_6
          have hbel_6 := hbel_5.next hB_6
          have hsz_6 := hB_6.size
          clear R_5 cR_5_0 cR_5_1 cR_5_2 hR_5 hbel_5 hB_6
          have Op_6 := hO
          have ltOp := hO.ltB
          have Pp_6 := hO'
          have ltPp := hO'.ltB
          clear hO hO' hD
          try clear hB
          have hbx := blk_new w6 #[Value.bool (qsg (fq lo) 13), Value.slice pa pn pc, Value.slice pb pm pd] 27
          have hbB := (Below.refl w6.heap.size w6).alloc (Nat.le_refl _) (.cells #[Value.bool (qsg (fq lo) 13), Value.slice pa pn pc, Value.slice pb pm pd] 27)
          have hltA := hbx.lt
          have hB_7 : Below w6.heap.size w6 (w6.alloc (.cells #[Value.bool (qsg (fq lo) 13), Value.slice pa pn pc, Value.slice pb pm pd] 27)) := hbB
          have R_7 := R_6.next hB_7
          have cR_7_0 : _ = some (Value.bool s) := R_7.cell 0
          have cR_7_1 : _ = some (Value.slice a n c) := R_7.cell 1
          have cR_7_2 : _ = some (Value.slice b m d) := R_7.cell 2
          have hR_7 := hR_6.below hB_7
          have Op_7 := Op_6.below hB_7
          have Pp_7 := Pp_6.below hB_7
          have hbel_7 := hbel_6.next hB_7
          have hsz_7 := hB_7.size
          clear hB_7
          have A_7 := hbx
          clear hbx hbB
          have cA_7_0 : _ = some (Value.bool (qsg (fq lo) 13)) := A_7.cell 0
          have cA_7_1 : _ = some (Value.slice pa pn pc) := A_7.cell 1
          have cA_7_2 : _ = some (Value.slice pb pm pd) := A_7.cell 2
          go_wp2_with fail
          clear R_6 cR_6_0 cR_6_1 cR_6_2 hR_6 Op_6 Pp_6 hbel_6
          generalize (w6.alloc (.cells #[Value.bool (qsg (fq lo) 13), Value.slice pa pn pc, Value.slice pb pm pd] 27)) = v7 at *
          go_wp2_with fail
          refine (HQ.out _).mono ?_
          rintro e w8 ⟨ya, yn, yc, yb, ym, yd, rfl, hO, hO', hD, hB⟩
          have hB_8 : Below v7.heap.size v7 w8 := (bl.next hB)
          have R_8 := R_7.next hB_8
          have cR_8_0 : _ = some (Value.bool s) := R_8.cell 0
          have cR_8_1 : _ = some (Value.slice a n c) := R_8.cell 1
          have cR_8_2 : _ = some (Value.slice b m d) := R_8.cell 2
          have A_8 := A_7.next hB_8
          have cA_8_0 : _ = some (Value.bool (qsg (fq lo) 13)) := A_8.cell 0
          have cA_8_1 : _ = some (Value.slice pa pn pc) := A_8.cell 1
          have cA_8_2 : _ = some (Value.slice pb pm pd) := A_8.cell 2
          have hR_8 := hR_7.below hB_8
          have Op_8 := Op_7.below hB_8
          have Pp_8 := Pp_7.below hB_8
          have hbel_8 := hbel_7.next hB_8
          have hsz_8 := hB_8.size
          clear R_7 cR_7_0 cR_7_1 cR_7_2 A_7 cA_7_0 cA_7_1 cA_7_2 hR_7 Op_7 Pp_7 hbel_7 hB_8
          have Oy_8 := hO
          have ltOy := hO.ltB
          have Py_8 := hO'
          have ltPy := hO'.ltB
          clear hO hO' hD
          try clear hB
          have hbx := blk_new w8 #[Value.bool (qsg (fq hi) 0), Value.slice ya yn yc, Value.slice yb ym yd] 27
          have hbB := (Below.refl w8.heap.size w8).alloc (Nat.le_refl _) (.cells #[Value.bool (qsg (fq hi) 0), Value.slice ya yn yc, Value.slice yb ym yd] 27)
          have hltB := hbx.lt
          have hB_9 : Below w8.heap.size w8 (w8.alloc (.cells #[Value.bool (qsg (fq hi) 0), Value.slice ya yn yc, Value.slice yb ym yd] 27)) := hbB
          have R_9 := R_8.next hB_9
          have cR_9_0 : _ = some (Value.bool s) := R_9.cell 0
          have cR_9_1 : _ = some (Value.slice a n c) := R_9.cell 1
          have cR_9_2 : _ = some (Value.slice b m d) := R_9.cell 2
          have A_9 := A_8.next hB_9
          have cA_9_0 : _ = some (Value.bool (qsg (fq lo) 13)) := A_9.cell 0
          have cA_9_1 : _ = some (Value.slice pa pn pc) := A_9.cell 1
          have cA_9_2 : _ = some (Value.slice pb pm pd) := A_9.cell 2
          have hR_9 := hR_8.below hB_9
          have Op_9 := Op_8.below hB_9
          have Pp_9 := Pp_8.below hB_9
          have Oy_9 := Oy_8.below hB_9
          have Py_9 := Py_8.below hB_9
          have hbel_9 := hbel_8.next hB_9
          have hsz_9 := hB_9.size
          clear hB_9
          have B_9 := hbx
          clear hbx hbB
          have cB_9_0 : _ = some (Value.bool (qsg (fq hi) 0)) := B_9.cell 0
          have cB_9_1 : _ = some (Value.slice ya yn yc) := B_9.cell 1
          have cB_9_2 : _ = some (Value.slice yb ym yd) := B_9.cell 2
          go_wp2_with fail
          clear R_8 cR_8_0 cR_8_1 cR_8_2 A_8 cA_8_0 cA_8_1 cA_8_2 hR_8 Op_8 Pp_8 Oy_8 Py_8 hbel_8
          generalize (w8.alloc (.cells #[Value.bool (qsg (fq hi) 0), Value.slice ya yn yc, Value.slice yb ym yd] 27)) = v9 at *
          go_wp2_with fail
          refine (cmp_k hC2h.out (Oy_9.rdQ Py_9 hqr.out) (by omega) hR_9 (by omega)).mono ?_
          rintro e w10 ⟨rfl, hB⟩
          have hB_10 : Below v9.heap.size v9 w10 := (bl.next hB)
          have R_10 := R_9.next hB_10
          have cR_10_0 : _ = some (Value.bool s) := R_10.cell 0
          have cR_10_1 : _ = some (Value.slice a n c) := R_10.cell 1
          have cR_10_2 : _ = some (Value.slice b m d) := R_10.cell 2
          have A_10 := A_9.next hB_10
          have cA_10_0 : _ = some (Value.bool (qsg (fq lo) 13)) := A_10.cell 0
          have cA_10_1 : _ = some (Value.slice pa pn pc) := A_10.cell 1
          have cA_10_2 : _ = some (Value.slice pb pm pd) := A_10.cell 2
          have B_10 := B_9.next hB_10
          have cB_10_0 : _ = some (Value.bool (qsg (fq hi) 0)) := B_10.cell 0
          have cB_10_1 : _ = some (Value.slice ya yn yc) := B_10.cell 1
          have cB_10_2 : _ = some (Value.slice yb ym yd) := B_10.cell 2
          have hR_10 := hR_9.below hB_10
          have Op_10 := Op_9.below hB_10
          have Pp_10 := Pp_9.below hB_10
          have Oy_10 := Oy_9.below hB_10
          have Py_10 := Py_9.below hB_10
          have hbel_10 := hbel_9.next hB_10
          have hsz_10 := hB_10.size
          clear R_9 cR_9_0 cR_9_1 cR_9_2 A_9 cA_9_0 cA_9_1 cA_9_2 B_9 cB_9_0 cB_9_1 cB_9_2 hR_9 Op_9 Pp_9 Oy_9 Py_9 hbel_9 hB_10
          try clear hB
          go_wp2_with fail
          refine (HI.out _).mono ?_
          rintro e w11 ⟨rfl, hB⟩
          have hB_11 : Below w10.heap.size w10 w11 := (bl.next hB)
          have R_11 := R_10.next hB_11
          have cR_11_0 : _ = some (Value.bool s) := R_11.cell 0
          have cR_11_1 : _ = some (Value.slice a n c) := R_11.cell 1
          have cR_11_2 : _ = some (Value.slice b m d) := R_11.cell 2
          have A_11 := A_10.next hB_11
          have cA_11_0 : _ = some (Value.bool (qsg (fq lo) 13)) := A_11.cell 0
          have cA_11_1 : _ = some (Value.slice pa pn pc) := A_11.cell 1
          have cA_11_2 : _ = some (Value.slice pb pm pd) := A_11.cell 2
          have B_11 := B_10.next hB_11
          have cB_11_0 : _ = some (Value.bool (qsg (fq hi) 0)) := B_11.cell 0
          have cB_11_1 : _ = some (Value.slice ya yn yc) := B_11.cell 1
          have cB_11_2 : _ = some (Value.slice yb ym yd) := B_11.cell 2
          have hR_11 := hR_10.below hB_11
          have Op_11 := Op_10.below hB_11
          have Pp_11 := Pp_10.below hB_11
          have Oy_11 := Oy_10.below hB_11
          have Py_11 := Py_10.below hB_11
          have hbel_11 := hbel_10.next hB_11
          have hsz_11 := hB_11.size
          clear R_10 cR_10_0 cR_10_1 cR_10_2 A_10 cA_10_0 cA_10_1 cA_10_2 B_10 cB_10_0 cB_10_1 cB_10_2 hR_10 Op_10 Pp_10 Oy_10 Py_10 hbel_10 hB_11
          try clear hB
          go_wp2
          go_ret
          exact ⟨rfl, hbel_11⟩
        · skip
          exfalso
          have h1 := hNA.out.li fl
          have h2 := hNA.out.hi' fh
          rcases hNA.out.nxt hlt with ⟨h3, _⟩ | ⟨r', _, h3, h4, _⟩ | ⟨t', h3, _, _, h5⟩
          · omega
          · omega
          · rw [h2] at h5; have h6 : fk 9218868437227405312 = 9218868437227405312 := by decide
            omega

theorem nearAround_walk {w : World} (hc : w.cell? ⟨0, 0, none⟩ = some (.int .i64 53) ∧ w.cell? ⟨0, 1, none⟩ = some (.int .i64 (-1074)) ∧ w.cell? ⟨0, 2, none⟩ = some (.int .i64 971) ∧ w.cell? ⟨2, 0, none⟩ = some (.int .i64 24) ∧ w.cell? ⟨2, 1, none⟩ = some (.int .i64 (-149)) ∧ w.cell? ⟨2, 2, none⟩ = some (.int .i64 104)) (s : Bool) {a b : Option Addr} {n c m d : Nat} {la lb : List Nat} (ha : Rd w a n c la) (hb : Rd w b m d lb) : Calls Tryd.prog 5 #[.agg #[.bool s, .slice a n c, .slice b m d]] w (fun e w' => e = .returned (.bool true) ∧ Below w.heap.size w w') := by
  have GL : Lng w := ⟨hc.1, hc.2.1, hc.2.2.1⟩
  have GS : Sht w := ⟨hc.2.2.2.1, hc.2.2.2.2.1, hc.2.2.2.2.2⟩
  by_cases h : 200 < n ∨ 200 < m
  · exact nearAround_big GL GS h
  · exact nearAround_small GL GS ha hb (by omega) (by omega)
end Go.Proofs.YtoeldbdcbfgmoaaDoor
