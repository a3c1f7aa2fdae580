/- WALKS OF RINGS, 8: ints, floats, yes and no. -/
import Derived.Test.YtgddnmmllchndaaGreatKe
import Derived.Test.YtgddnmmllchndaaGreatFa
import Derived.WalkLawsBesides
namespace Go.Proofs.YtgddnmmllchndaaGreat
set_option linter.unusedVariables false
set_option linter.unusedSimpArgs false
open Go.ChangeShapes Go.WideShapes Go.ChangeAt Go.RowKit Go.NatP Go.FloatP

set_option maxRecDepth 100000 in
set_option maxHeartbeats 4000000 in
theorem kintszero {w : World}  : Calls Tryz.prog 60 #[.agg #[]] w (fun e w' => e = .returned (.int .i64 0) ∧ Below w.heap.size w w') := by
  have hb : Below w.heap.size w (w.alloc (.cells #[] 77)) := (Below.refl _ _).alloc (Nat.le_refl _) _
  go_enter Tryz.func60, Tryz.ntmps60
  go_wp2
  go_ret
  exact ⟨rfl, hb⟩

set_option maxRecDepth 100000 in
set_option maxHeartbeats 4000000 in
theorem kintsadd {w : World} (a b : Int) (a1 : -9223372036854775808 ≤ a) (a2 : a ≤ 9223372036854775807) (b1 : -9223372036854775808 ≤ b) (b2 : b ≤ 9223372036854775807) : Calls Tryz.prog 59 #[.agg #[], .int .i64 a, .int .i64 b] w (fun e w' => e = .returned (.int .i64 (wrap64 (a + b))) ∧ Below w.heap.size w w') := by
  have hb : Below w.heap.size w (w.alloc (.cells #[] 77)) := (Below.refl _ _).alloc (Nat.le_refl _) _
  go_enter Tryz.func59, Tryz.ntmps59
  go_wp2
  go_ret
  exact ⟨rfl, hb⟩

set_option maxRecDepth 100000 in
set_option maxHeartbeats 4000000 in
theorem kintsmul {w : World} (a b : Int) (a1 : -9223372036854775808 ≤ a) (a2 : a ≤ 9223372036854775807) (b1 : -9223372036854775808 ≤ b) (b2 : b ≤ 9223372036854775807) : Calls Tryz.prog 58 #[.agg #[], .int .i64 a, .int .i64 b] w (fun e w' => e = .returned (.int .i64 (wrap64 (a * b))) ∧ Below w.heap.size w w') := by
  have hb : Below w.heap.size w (w.alloc (.cells #[] 77)) := (Below.refl _ _).alloc (Nat.le_refl _) _
  go_enter Tryz.func58, Tryz.ntmps58
  go_wp2
  go_ret
  exact ⟨rfl, hb⟩

set_option maxRecDepth 100000 in
set_option maxHeartbeats 4000000 in
theorem kintssame {w : World} (a b : Int) (a1 : -9223372036854775808 ≤ a) (a2 : a ≤ 9223372036854775807) (b1 : -9223372036854775808 ≤ b) (b2 : b ≤ 9223372036854775807) : Calls Tryz.prog 62 #[.agg #[], .int .i64 a, .int .i64 b] w (fun e w' => e = .returned (.bool (a == b)) ∧ Below w.heap.size w w') := by
  have hb : Below w.heap.size w (w.alloc (.cells #[] 77)) := (Below.refl _ _).alloc (Nat.le_refl _) _
  go_enter Tryz.func62, Tryz.ntmps62
  go_wp2
  go_ret
  exact ⟨rfl, hb⟩

set_option maxRecDepth 100000 in
set_option maxHeartbeats 4000000 in
theorem kfloatszero {w : World}  : Calls Tryz.prog 63 #[.agg #[]] w (fun e w' => e = .returned (.float .f64 0) ∧ Below w.heap.size w w') := by
  have hb : Below w.heap.size w (w.alloc (.cells #[] 82)) := (Below.refl _ _).alloc (Nat.le_refl _) _
  go_enter Tryz.func63, Tryz.ntmps63
  go_wp2
  go_ret
  exact ⟨rfl, hb⟩

set_option maxRecDepth 100000 in
set_option maxHeartbeats 4000000 in
theorem kfloatsone {w : World}  : Calls Tryz.prog 64 #[.agg #[]] w (fun e w' => e = .returned (.float .f64 4607182418800017408) ∧ Below w.heap.size w w') := by
  have hb : Below w.heap.size w (w.alloc (.cells #[] 82)) := (Below.refl _ _).alloc (Nat.le_refl _) _
  go_enter Tryz.func64, Tryz.ntmps64
  go_wp2
  go_ret
  exact ⟨rfl, hb⟩

set_option maxRecDepth 100000 in
set_option maxHeartbeats 4000000 in
theorem kboolsone {w : World}  : Calls Tryz.prog 57 #[.agg #[]] w (fun e w' => e = .returned (.bool true) ∧ Below w.heap.size w w') := by
  have hb : Below w.heap.size w (w.alloc (.cells #[] 75)) := (Below.refl _ _).alloc (Nat.le_refl _) _
  go_enter Tryz.func57, Tryz.ntmps57
  go_wp2
  go_ret
  exact ⟨rfl, hb⟩


set_option maxRecDepth 100000 in
set_option maxHeartbeats 4000000 in
theorem kboolsmul {w : World} (p q : Bool) : Calls Tryz.prog 54 #[.agg #[], .bool p, .bool q] w (fun e w' => e = .returned (.bool (p && q)) ∧ Below w.heap.size w w') := by
  have hb : Below w.heap.size w (w.alloc (.cells #[] 75)) := (Below.refl _ _).alloc (Nat.le_refl _) _
  cases p
  · go_enter Tryz.func54, Tryz.ntmps54
    go_wp2
    go_ret
    exact ⟨rfl, hb⟩
  · go_enter Tryz.func54, Tryz.ntmps54
    go_wp2
    go_ret
    exact ⟨rfl, hb⟩

set_option maxRecDepth 100000 in
set_option maxHeartbeats 4000000 in
theorem kboolssame {w : World} (p q : Bool) : Calls Tryz.prog 70 #[.agg #[], .bool p, .bool q] w (fun e w' => e = .returned (.bool (p == q)) ∧ Below w.heap.size w w') := by
  have hb : Below w.heap.size w (w.alloc (.cells #[] 75)) := (Below.refl _ _).alloc (Nat.le_refl _) _
  go_enter Tryz.func70, Tryz.ntmps70
  go_wp2
  go_ret
  exact ⟨rfl, hb⟩

/-- are two floats equal; the same, or both no numbers -/
def fe (x y : Nat) : Bool := FloatKind.f64.format.order x y == some .eq
def flt (x y : Nat) : Bool := fe x y || (!(fe x x) && !(fe y y))
theorem fe_nan {x y : Nat} (h : fnan x = true ∨ fnan y = true) : fe x y = false := by
  unfold fe; rw [show FloatKind.f64.format.order x y = none from order_nan h]; rfl
theorem fe_self {x : Nat} (h : fnan x = false) : fe x x = true := by
  unfold fe; rw [show FloatKind.f64.format.order x x = some (ic (fk x) (fk x)) from order_num h h]; unfold ic; simp
theorem flt_self (x : Nat) : flt x x = true := by unfold flt; cases fe x x <;> rfl
theorem flt_nan {x y : Nat} (h : fnan x = true) (h' : fnan y = true) : flt x y = true := by
  unfold flt; rw [fe_nan (.inl h), fe_nan (.inl h), fe_nan (.inl h')]; rfl
/-- a float that equals 0 is one of two -/
theorem fe_zero {x : Nat} (hx : x < 18446744073709551616) (h : fe x 0 = true) : x = 0 ∨ x = 9223372036854775808 := by
  have hn : fnan x = false := by
    cases hn : fnan x
    · rfl
    · rw [fe_nan (.inl hn)] at h; cases h
  unfold fe at h
  rw [show FloatKind.f64.format.order x 0 = some (ic (fk x) (fk 0)) from order_num hn rfl] at h
  have h0 : fk 0 = 0 := rfl
  rw [h0] at h
  unfold ic at h
  have h1 : fk x = 0 := by
    by_cases c1 : fk x < 0
    · rw [if_pos c1] at h; cases h
    · rw [if_neg c1] at h
      by_cases c2 : fk x = 0
      · exact c2
      · rw [if_neg c2] at h; cases h
  unfold fk at h1
  have h2 : fr x = 0 := by split at h1 <;> omega
  unfold fr at h2
  omega
theorem quo_zero {x : Nat} (hx : x < 18446744073709551616) (h : fe x 0 = true) : ∃ r, floatBits .quo .f64 4607182418800017408 x = some r ∧ fe r r = true := by
  rcases fe_zero hx h with rfl | rfl
  · exact ⟨9218868437227405312, by decide +kernel, by decide +kernel⟩
  · exact ⟨18442240474082181120, by decide +kernel, by decide +kernel⟩
theorem wf64 {b : Nat} (h : (Lit.float .f64 b).wf = true) : b < 18446744073709551616 := by
  simpa [Lit.wf] using h
theorem bits_lt {op : BinOp} {x y r : Nat} (h : floatBits op .f64 x y = some r) : r < 18446744073709551616 := by
  have := floatBits_wf h
  simpa [Lit.wf] using this
/-- what is drawn where there is no answer -/
def nanw (x y : Nat) (w : World) : Nat := (Question.nanBits FloatKind.f64 x y).cut (w.tape w.drawn (.nanBits .f64 x y))
theorem nanw_nan (x y : Nat) (w : World) : fnan (nanw x y w) = true := by
  show fnan ((w.tape w.drawn (.nanBits .f64 x y) % 2) * 2 ^ 63 + 0x7ff0000000000000 + 1 + (w.tape w.drawn (.nanBits .f64 x y) / 2) % (2 ^ 52 - 1)) = true
  generalize w.tape w.drawn (.nanBits .f64 x y) = t
  have h1 := Nat.mod_lt (t / 2) (show 0 < 2 ^ 52 - 1 by decide)
  have h2 := Nat.mod_lt t (show 0 < 2 by decide)
  generalize t / 2 % (2 ^ 52 - 1) = u at *
  generalize t % 2 = v at *
  unfold fnan fr
  simp only [decide_eq_true_eq]
  omega
theorem run_none (op : BinOp) (hop : op = .add ∨ op = .mul) (T : TypeId) {x y : Nat} (h : floatBits op .f64 x y = none) (w : World) : (binOp op T (.float .f64 x) (.float .f64 y)).run Tryz.prog w = .ok (.float .f64 (nanw x y w)) w.drew := by
  rcases hop with rfl | rfl
  · simp only [floatBits] at h
    simp [binOp, Op.floatArith, h, nanw, run_choose_drew, Question.forced]
  · simp only [floatBits] at h
    simp [binOp, Op.floatArith, h, nanw, run_choose_drew, Question.forced]

set_option maxRecDepth 100000 in
set_option maxHeartbeats 4000000 in
theorem ffloat {w : World} (x y : Nat) : Calls Tryz.prog 69 #[.float .f64 x, .float .f64 y] w (fun e w' => e = .returned (.bool (flt x y)) ∧ Below w.heap.size w w') := by
  have hb : Below w.heap.size w w := bl
  have hf : flt x y = (fe x y || (!(fe x x) && !(fe y y))) := rfl
  rw [hf]
  unfold fe
  clear hf
  obtain ⟨b1, h1⟩ : ∃ b, (FloatKind.f64.format.order x y == some Ordering.eq) = b := ⟨_, rfl⟩
  obtain ⟨b2, h2⟩ : ∃ b, (FloatKind.f64.format.order x x == some Ordering.eq) = b := ⟨_, rfl⟩
  obtain ⟨b3, h3⟩ : ∃ b, (FloatKind.f64.format.order y y == some Ordering.eq) = b := ⟨_, rfl⟩
  rw [h1, h2, h3]
  have h4 : (FloatKind.f64.format.order x x != some Ordering.eq) = !b2 := by rw [bne, h2]
  have h5 : (FloatKind.f64.format.order y y != some Ordering.eq) = !b3 := by rw [bne, h3]
  clear h2 h3
  cases b1
  · cases b2
    · cases b3
      all_goals (go_enter Tryz.func69, Tryz.ntmps69; go_wp2; go_ret; exact ⟨rfl, hb⟩)
    · go_enter Tryz.func69, Tryz.ntmps69
      go_wp2
      go_ret
      exact ⟨rfl, hb⟩
  · go_enter Tryz.func69, Tryz.ntmps69
    go_wp2
    go_ret
    exact ⟨rfl, hb⟩

set_option maxRecDepth 100000 in
set_option maxHeartbeats 4000000 in
theorem kfloatssame {w : World} (x y : Nat) : Calls Tryz.prog 68 #[.agg #[], .float .f64 x, .float .f64 y] w (fun e w' => e = .returned (.bool (flt x y)) ∧ Below w.heap.size w w') := by
  have hb : Below w.heap.size w (w.alloc (.cells #[] 82)) := bl
  have hf : flt x y = (fe x y || (!(fe x x) && !(fe y y))) := rfl
  rw [hf]
  unfold fe
  clear hf
  obtain ⟨b1, h1⟩ : ∃ b, (FloatKind.f64.format.order x y == some Ordering.eq) = b := ⟨_, rfl⟩
  obtain ⟨b2, h2⟩ : ∃ b, (FloatKind.f64.format.order x x == some Ordering.eq) = b := ⟨_, rfl⟩
  obtain ⟨b3, h3⟩ : ∃ b, (FloatKind.f64.format.order y y == some Ordering.eq) = b := ⟨_, rfl⟩
  rw [h1, h2, h3]
  have h4 : (FloatKind.f64.format.order x x != some Ordering.eq) = !b2 := by rw [bne, h2]
  have h5 : (FloatKind.f64.format.order y y != some Ordering.eq) = !b3 := by rw [bne, h3]
  clear h2 h3
  cases b1
  · cases b2
    · cases b3
      all_goals (go_enter Tryz.func68, Tryz.ntmps68; go_wp2; go_ret; exact ⟨rfl, hb⟩)
    · go_enter Tryz.func68, Tryz.ntmps68
      go_wp2
      go_ret
      exact ⟨rfl, hb⟩
  · go_enter Tryz.func68, Tryz.ntmps68
    go_wp2
    go_ret
    exact ⟨rfl, hb⟩

set_option maxRecDepth 100000 in
set_option maxHeartbeats 4000000 in
theorem kfloatsadd_some {w : World} {x y : Nat} {r : Nat} (h : floatBits .add .f64 x y = some r) : Calls Tryz.prog 66 #[.agg #[], .float .f64 x, .float .f64 y] w (fun e w' => e = .returned (.float .f64 r) ∧ Below w.heap.size w w') := by
  have hb : Below w.heap.size w (w.alloc (.cells #[] 82)) := bl
  have H := fun w => run_float_arith (P := Tryz.prog) w .add 81 .f64 x y r h
  clear h
  go_enter Tryz.func66, Tryz.ntmps66
  go_wp2
  go_ret
  exact ⟨rfl, hb⟩

def RetNan (w : World) (e : Ending) (w' : World) : Prop := ∃ r, fnan r = true ∧ e = .returned (.float .f64 r) ∧ Below w.heap.size w w'
set_option maxRecDepth 100000 in
set_option maxHeartbeats 4000000 in
theorem kfloatsadd_none {w : World} {x y : Nat} (h : floatBits .add .f64 x y = none) : Calls Tryz.prog 66 #[.agg #[], .float .f64 x, .float .f64 y] w (RetNan w) := by
  have hb : Below w.heap.size w (w.alloc (.cells #[] 82)).drew := bl
  have H := fun w => run_none .add (by simp) 81 h w
  clear h
  go_enter Tryz.func66, Tryz.ntmps66
  go_wp2
  go_ret
  exact ⟨_, nanw_nan _ _ _, rfl, hb⟩

set_option maxRecDepth 100000 in
set_option maxHeartbeats 4000000 in
theorem kfloatsmul_some {w : World} {x y : Nat} {r : Nat} (h : floatBits .mul .f64 x y = some r) : Calls Tryz.prog 67 #[.agg #[], .float .f64 x, .float .f64 y] w (fun e w' => e = .returned (.float .f64 r) ∧ Below w.heap.size w w') := by
  have hb : Below w.heap.size w (w.alloc (.cells #[] 82)) := bl
  have H := fun w => run_float_arith (P := Tryz.prog) w .mul 81 .f64 x y r h
  clear h
  go_enter Tryz.func67, Tryz.ntmps67
  go_wp2
  go_ret
  exact ⟨rfl, hb⟩


set_option maxRecDepth 100000 in
set_option maxHeartbeats 4000000 in
theorem kfloatsmul_none {w : World} {x y : Nat} (h : floatBits .mul .f64 x y = none) : Calls Tryz.prog 67 #[.agg #[], .float .f64 x, .float .f64 y] w (RetNan w) := by
  have hb : Below w.heap.size w (w.alloc (.cells #[] 82)).drew := bl
  have H := fun w => run_none .mul (by simp) 81 h w
  clear h
  go_enter Tryz.func67, Tryz.ntmps67
  go_wp2
  go_ret
  exact ⟨_, nanw_nan _ _ _, rfl, hb⟩

set_option maxRecDepth 100000 in
set_option maxHeartbeats 4000000 in
theorem fexact1 {w : World} {a b : Nat} (hf : flt a b = true) (h : fe a 0 = false) : Calls Tryz.prog 65 #[.float .f64 a, .float .f64 b] w (fun e w' => e = .returned (.bool true) ∧ Below w.heap.size w w') := by
  have HF := hid hf
  have h1 : (FloatKind.f64.format.order a 0 != some Ordering.eq) = true := by unfold fe at h; rw [bne, h]; rfl
  clear h hf
  go_enter Tryz.func65, Tryz.ntmps65
  go_wp2_with fail
  refine (ffloat a b).mono ?_
  rw [HF.out]
  rintro e w1 ⟨rfl, hB⟩
  go_wp2
  go_ret
  exact ⟨rfl, hB⟩

set_option maxRecDepth 100000 in
set_option maxHeartbeats 4000000 in
theorem fexact2 {w : World} {a r : Nat} (h : fe a 0 = true) (hq : floatBits .quo .f64 4607182418800017408 a = some r) (hr : fe r r = true) : Calls Tryz.prog 65 #[.float .f64 a, .float .f64 a] w (fun e w' => e = .returned (.bool true) ∧ Below w.heap.size w w') := by
  have HF := hid (flt_self a)
  have h1 : (FloatKind.f64.format.order a 0 != some Ordering.eq) = false := by unfold fe at h; rw [bne, h]; rfl
  have h2 : (FloatKind.f64.format.order r r == some Ordering.eq) = true := hr
  have H := fun w => run_float_arith (P := Tryz.prog) w .quo 81 .f64 4607182418800017408 a r hq
  clear h hq hr
  go_enter Tryz.func65, Tryz.ntmps65
  go_wp2_with fail
  refine (ffloat a a).mono ?_
  rw [HF.out]
  rintro e w1 ⟨rfl, hB⟩
  go_wp2
  go_ret
  exact ⟨rfl, hB⟩
theorem fexact_eq {w : World} {a : Nat} (ha : a < 18446744073709551616) : Calls Tryz.prog 65 #[.float .f64 a, .float .f64 a] w (fun e w' => e = .returned (.bool true) ∧ Below w.heap.size w w') := by
  cases h : fe a 0
  · exact fexact1 (flt_self a) h
  · obtain ⟨r, h1, h2⟩ := quo_zero ha h
    exact fexact2 h h1 h2
theorem fexact_nan {w : World} {a b : Nat} (ha : fnan a = true) (hb : fnan b = true) : Calls Tryz.prog 65 #[.float .f64 a, .float .f64 b] w (fun e w' => e = .returned (.bool true) ∧ Below w.heap.size w w') :=
  fexact1 (flt_nan ha hb) (fe_nan (.inl ha))

end Go.Proofs.YtgddnmmllchndaaGreat
