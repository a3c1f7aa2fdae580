/- THE WALK OF credencelaw01.NatOf: for every uint64 the statement answers true; what was there is as it was. -/
import Derived.Test.YtknpacegaclcgaaWf
namespace Go.Proofs.Ytknpacegaclcgaa
set_option linter.unusedVariables false
open Go.ChangeShapes Go.WideShapes Go.ChangeAt Go.RowKit Go.NatP

set_option maxHeartbeats 1000000 in
theorem natOf_walk {w : World} (u : Int) (h0 : 0 ≤ u) (h1 : u ≤ 18446744073709551615) :
    Calls Try.prog 3 #[.int .u64 u] w fun e w' => e = .returned (.bool true) ∧ Below w.heap.size w w' := by
  have hv : Hid (uv u.toNat = u.toNat ∧ u.toNat < two64) := by
    have : u.toNat < two64 := by unfold two64; omega
    exact ⟨by rw [uv, if_pos this], this⟩
  have hlen : Hid (∀ n, (lm u.toNat).length = n → n ≤ 2) := fun n h => by rw [← h]; exact two64_le.2 hv.out.2
  have hu : Hid ((u.toNat : Int) = u) := by show _ = _; omega
  go_enter Try.func3, Try.ntmps3
  go_wp2_with fail
  refine (rof_any _ h0 h1).mono ?_
  rintro e w1 ⟨ar, nr, cr, rfl, hOr, hB1⟩
  go_wp2_with fail
  refine (of_any _ h0 h1).mono ?_
  rintro e w2 ⟨a1, n1, c1, rfl, hO1, hB2⟩
  go_wp2_with fail
  refine (uint_any hO1.rd).mono ?_
  rintro e w3 ⟨rfl, hB3⟩
  rw [val_lm, hv.out.1, decide_eq_true hv.out.2, hu.out]
  go_wp2_with fail
  refine (of_any _ h0 h1).mono ?_
  rintro e w4 ⟨a2, n2, c2, rfl, hO2, hB4⟩
  go_wp2_with fail
  refine (of_any _ h0 h1).mono ?_
  rintro e w5 ⟨a3, n3, c3, rfl, hO3, hB5⟩
  have hBall : Below w.heap.size w w5 := (((hB1.next hB2).next hB3).next hB4).next hB5
  have hr5 : Rd w5 ar nr cr (lm u.toNat) := (((hOr.rd.below hB2).below hB3).below hB4).below hB5
  have hT : Told w.heap.size w5 [⟨a3, n3, c3, lm u.toNat⟩, ⟨a2, n2, c2, lm u.toNat⟩] :=
    ((told_nil _ w3).cons ((hB1.next hB2).next hB3).size hO2 hB4).cons (((hB1.next hB2).next hB3).next hB4).size hO3 hB5
  have hn2 := hlen.out n2 hO2.len
  have hn3 := hlen.out n3 hO3.len
  clear hO1 hO2 hO3 hOr hB1 hB2 hB3 hB4 hB5
  go_wp2_with fail
  refine (apart_two (K := 2) [1, 0] [⟨ar, nr, cr, lm u.toNat⟩, ⟨ar, nr, cr, lm u.toNat⟩] rfl rfl (by decide) hT (by decide) (fun i hi => by simp at hi ⊢; omega) hBall ?_ rfl rfl ?_ ?_).mono ?_
  · intro x hx
    simp only [List.mem_cons, List.not_mem_nil, or_false] at hx
    rcases hx with rfl | rfl
    · exact Nat.le_trans hn3 (by decide)
    · exact Nat.le_trans hn2 (by decide)
  · intro y hy
    simp only [List.mem_cons, List.not_mem_nil, or_false, or_self] at hy
    subst hy; exact hr5
  · intro i hi
    match i, hi with
    | 0, _ => rfl
    | 1, _ => rfl
  rintro e w6 ⟨rfl, hB6, _⟩
  have huu : (u == u) = true := by simp
  go_wp2
  go_ret
  exact ⟨rfl, hB6⟩

end Go.Proofs.Ytknpacegaclcgaa
