/- WALKS OF FLOATS, 2: the order. -/
import Derived.Test.YtdjicmpanfnajaaDoorFb
namespace Go.Proofs.YtdjicmpanfnajaaDoor
set_option linter.unusedVariables false
set_option linter.unusedSimpArgs false
open Go.ChangeShapes Go.WideShapes Go.ChangeAt Go.RowKit Go.FloatP

theorem frank_num {x : Nat} (h : fnan x = false) : frank x = (if fs x then -(fr x : Int) - 1 else fr x) ∧ fr x ≤ 9218868437227405312 := by
  have h1 := of_decide_eq_false h
  exact ⟨by unfold frank; rw [h]; rfl, by omega⟩
theorem frank_nan {x : Nat} (h : fnan x = true) : frank x = -9223372036854775808 := by unfold frank; rw [h]; rfl
theorem frank_range (x : Nat) : -9223372036854775808 ≤ frank x ∧ frank x ≤ 9223372036854775807 := by
  cases h : fnan x
  · obtain ⟨h1, h2⟩ := frank_num h
    rw [h1]; split <;> omega
  · rw [frank_nan h]; omega
theorem frank_gt {x : Nat} (h : fnan x = false) : -9223372036854775808 < frank x := by
  obtain ⟨h1, h2⟩ := frank_num h
  rw [h1]; split <;> omega
theorem ford_nn {x y : Nat} (hx : fnan x = true) (hy : fnan y = true) : ford x y = 0 := by unfold ford; rw [frank_nan hx, frank_nan hy]; rfl
theorem ford_nf {x y : Nat} (hx : fnan x = true) (hy : fnan y = false) : ford x y = -1 := by have := frank_gt hy; unfold ford; rw [frank_nan hx, if_pos this]
theorem ford_fn {x y : Nat} (hx : fnan x = false) (hy : fnan y = true) : ford x y = 1 := by have := frank_gt hx; unfold ford; rw [frank_nan hy, if_neg (by omega), if_pos this]
theorem ford_lt {x y : Nat} (hx : fnan x = false) (hy : fnan y = false) (h : fk x < fk y) : ford x y = -1 := by
  have h1 := frank_num hx; have h2 := frank_num hy
  unfold fk at h; unfold ford
  rw [h1.1, h2.1]
  generalize fs x = a at *
  generalize fs y = b at *
  cases a <;> cases b <;> simp only [if_true, if_false, Bool.false_eq_true] at h ⊢ <;> rw [if_pos (by omega)]
theorem ford_gt {x y : Nat} (hx : fnan x = false) (hy : fnan y = false) (h : fk y < fk x) : ford x y = 1 := by
  have h1 := frank_num hx; have h2 := frank_num hy
  unfold fk at h; unfold ford
  rw [h1.1, h2.1]
  generalize fs x = a at *
  generalize fs y = b at *
  cases a <;> cases b <;> simp only [if_true, if_false, Bool.false_eq_true] at h ⊢ <;> rw [if_neg (by omega), if_pos (by omega)]
theorem ford_eq {x y : Nat} (hx : fnan x = false) (hy : fnan y = false) (h : fk x = fk y) : ford x y = if fs x = fs y then 0 else if fs x then -1 else 1 := by
  have h1 := frank_num hx; have h2 := frank_num hy
  unfold fk at h; unfold ford
  rw [h1.1, h2.1]
  generalize fs x = a at *
  generalize fs y = b at *
  cases a <;> cases b <;> simp only [if_true, if_false, Bool.false_eq_true] at h ⊢
  · rw [if_neg (by omega), if_neg (by omega)]
  · rw [if_neg (by omega), if_pos (by omega)]
  · rw [if_pos (by omega)]; simp
  · rw [if_neg (by omega), if_neg (by omega)]
theorem fcmp_lt {x y : Nat} : (FloatKind.f64.format.order x y == some .lt) = (!fnan x && !fnan y && decide (fk x < fk y)) := by
  show (fcmp x y == some .lt) = _
  cases h : fnan x <;> cases h' : fnan y
  · rw [fcmp_num h h']; unfold ic
    by_cases h1 : fk x < fk y
    · rw [if_pos h1]; simp [h1]
    · rw [if_neg h1]; split <;> simp [h1]
  · rw [fcmp_nan (.inr h')]; rfl
  · rw [fcmp_nan (.inl h)]; rfl
  · rw [fcmp_nan (.inl h)]; rfl
theorem fcmp_gt {x y : Nat} : (FloatKind.f64.format.order x y == some .gt) = (!fnan x && !fnan y && decide (fk y < fk x)) := by
  show (fcmp x y == some .gt) = _
  cases h : fnan x <;> cases h' : fnan y
  · rw [fcmp_num h h']; unfold ic
    by_cases h1 : fk x < fk y
    · rw [if_pos h1]; simp; omega
    · rw [if_neg h1]; split <;> simp <;> omega
  · rw [fcmp_nan (.inr h')]; rfl
  · rw [fcmp_nan (.inl h)]; rfl
  · rw [fcmp_nan (.inl h)]; rfl

set_option maxRecDepth 100000 in
set_option maxHeartbeats 1000000 in
theorem order64_any {w : World} (x y : Nat) (hx : x < 18446744073709551616) (hy : y < 18446744073709551616) : Calls Tryd.prog 5 #[.float .f64 x, .float .f64 y] w fun e w' => e = .returned (.int .i64 (ford x y)) ∧ w' = w := by
  have HX := hid (fun w => rank_any (w := w) x hx)
  have HY := hid (fun w => rank_any (w := w) y hy)
  have h1 := frank_range x
  have h2 := frank_range y
  unfold ford
  generalize frank x = p at *
  generalize frank y = q at *
  clear hx hy
  by_cases hc : p < q
  · rw [if_pos hc]
    have hd : decide (p < q) = true := decide_eq_true hc
    go_enter Tryd.func5, Tryd.ntmps5
    go_wp2_with fail
    refine (HX.out _).mono ?_
    rintro e w1 ⟨rfl, rfl⟩
    go_wp2_with fail
    refine (HY.out _).mono ?_
    rintro e w2 ⟨rfl, rfl⟩
    go_wp2
    go_ret
    exact ⟨rfl, rfl⟩
  · rw [if_neg hc]
    have hd : decide (p < q) = false := decide_eq_false hc
    by_cases hc2 : q < p
    · rw [if_pos hc2]
      have hd2 : decide (q < p) = true := decide_eq_true hc2
      go_enter Tryd.func5, Tryd.ntmps5
      go_wp2_with fail
      refine (HX.out _).mono ?_
      rintro e w1 ⟨rfl, rfl⟩
      go_wp2_with fail
      refine (HY.out _).mono ?_
      rintro e w2 ⟨rfl, rfl⟩
      go_wp2
      go_ret
      exact ⟨rfl, rfl⟩
    · rw [if_neg hc2]
      have hd2 : decide (q < p) = false := decide_eq_false hc2
      go_enter Tryd.func5, Tryd.ntmps5
      go_wp2_with fail
      refine (HX.out _).mono ?_
      rintro e w1 ⟨rfl, rfl⟩
      go_wp2_with fail
      refine (HY.out _).mono ?_
      rintro e w2 ⟨rfl, rfl⟩
      go_wp2
      go_ret
      exact ⟨rfl, rfl⟩

end Go.Proofs.YtdjicmpanfnajaaDoor
