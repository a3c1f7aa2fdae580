/- THE WALK OF credencelaw01.NatPow: any number, any exponent. -/
import Derived.Test.YtknpacegaclcgaaWf
import Derived.Test.YtknpacegaclcgaaWr
namespace Go.Proofs.Ytknpacegaclcgaa
set_option linter.unusedVariables false
open Go.ChangeShapes Go.WideShapes Go.ChangeAt Go.RowKit Go.NatP

set_option maxRecDepth 100000 in
set_option maxHeartbeats 4000000 in
theorem natPow_walk {w : World} {x : Option Addr} {nx cx : Nat} {lx : List Nat} (hx : Rd w x nx cx lx) (n : Int) (hlo : -9223372036854775808 ≤ n) (hhi : n ≤ 9223372036854775807) :
    Calls Try.prog 6 #[.slice x nx cx, .int .i64 n] w fun e w' => e = .returned (.bool true) ∧ Below w.heap.size w w' := by
  go_enter Try.func6, Try.ntmps6
  go_wp2_with fail
  refine (cut_any hx 60 (by decide) (by decide)).mono ?_
  rintro e w' ⟨nx', rfl, rfl, hnx', hnx''⟩
  rw [show Int.toNat 60 = 60 from rfl] at hnx' hnx''
  generalize lx.take 60 = X at hnx''
  clear hx
  have X_len := hid hnx''.len
  have X_sz : Hid (Sz (val X) 60) := hnx''.lim.sz (by rw [X_len.out]; omega)
  have hE0 := ev_start w
  have hE1 := hE0.old hnx''
  clear hE0
  go_wp2_with fail
  refine (roomy_any (l := X) ?_ ?_).mono ?_
  · exact hE1.rd ⟨x, nx', cx, X⟩ (by simp)
  · omega
  rintro e w1 ⟨a1, c1, rfl, hO, hB⟩
  have hE2 := hE1.note hO hB
  clear hE1
  clear hO hB
  have hE3 := hE2.pre (a := a1) (n := nx' + 5) (c := c1) (l := X ++ List.replicate 5 77) (by simp) (k := nx') (by omega) (l' := X) (List.take_left' X_len.out)
  clear hE2
  go_wp2_with fail
  refine (pow_any (l := X) (n := n) ?_ ?_).mono ?_
  · exact hE3.rd ⟨a1, nx', c1, X⟩ (by simp)
  · omega
  rintro e w2 ⟨a2, n2, c2, rfl, hO, hB⟩
  have hE4 := hE3.tell hO hB (by have := hO.len; have := ((pwN_sz (val X) n)).len; omega)
  clear hE3
  clear hO hB
  go_wp2_with fail
  refine (pow_any (l := X) (n := n) ?_ ?_).mono ?_
  · exact hE4.rd ⟨a1, nx', c1, X⟩ (by simp)
  · omega
  rintro e w3 ⟨a3, n3, c3, rfl, hO, hB⟩
  have hE5 := hE4.tell hO hB (by have := hO.len; have := ((pwN_sz (val X) n)).len; omega)
  clear hE4
  clear hO hB
  go_wp2_with fail
  refine (rpow_any (l := X) (n := n) ?_ ?_).mono ?_
  · exact hE5.rd ⟨x, nx', cx, X⟩ (by simp)
  · omega
  rintro e w4 ⟨a4, n4, c4, rfl, hO, hB⟩
  have hE6 := hE5.note hO hB
  clear hE5
  clear hO hB
  go_wp2_with fail
  refine (hE6.apart_call (K := 2) [1, 0] [⟨a4, n4, c4, lm (pwN (val X) n)⟩, ⟨a4, n4, c4, lm (pwN (val X) n)⟩] rfl rfl (by decide) (by decide) (fun i hi => by simp at hi ⊢; omega) rfl rfl (by simp) rfl).mono ?_
  rintro e wA ⟨rfl, hE7⟩
  clear hE6
  go_wp2_with fail
  refine (kept_any (l := X) ?_ ?_).mono ?_
  · exact hE7.rd ⟨a1, nx' + 5, c1, X ++ List.replicate 5 77⟩ (by simp)
  · exact hE7.rd ⟨x, nx', cx, X⟩ (by simp)
  rintro e w5 ⟨rfl, hD⟩
  have hE8 := hE7.dr hD
  clear hE7
  clear hD
  go_wp2
  go_ret
  exact ⟨rfl, hE8.bel⟩

end Go.Proofs.Ytknpacegaclcgaa
