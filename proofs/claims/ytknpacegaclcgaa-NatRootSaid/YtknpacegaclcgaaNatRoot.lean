/- THE WALK OF credencelaw01.NatRoot: any root: as the reference tells it. -/
import Derived.Test.YtknpacegaclcgaaWf
import Derived.Test.YtknpacegaclcgaaWA
namespace Go.Proofs.Ytknpacegaclcgaa
set_option linter.unusedVariables false
open Go.ChangeShapes Go.WideShapes Go.ChangeAt Go.RowKit Go.NatP

set_option maxRecDepth 100000 in
set_option maxHeartbeats 4000000 in
theorem natRoot_walk {w : World} {x : Option Addr} {nx cx : Nat} {lx : List Nat} (hx : Rd w x nx cx lx) :
    Calls Try.prog 9 #[.slice x nx cx] w fun e w' => e = .returned (.bool true) ∧ Below w.heap.size w w' := by
  go_enter Try.func9, Try.ntmps9
  go_wp2_with fail
  refine (cut_any hx 40 (by decide) (by decide)).mono ?_
  rintro e w' ⟨nx', rfl, rfl, hnx', hnx''⟩
  rw [show Int.toNat 40 = 40 from rfl] at hnx' hnx''
  generalize lx.take 40 = X at hnx''
  clear hx
  have X_len := hid hnx''.len
  have X_sz : Hid (Sz (val X) 40) := hnx''.lim.sz (by rw [X_len.out]; omega)
  have hE0 := ev_start w
  have hE1 := hE0.old hnx''
  clear hE0
  go_wp2_with fail
  refine (roomy_any (l := X) ?_ ?_).mono ?_
  · exact hE1.rd ⟨x, nx', cx, X⟩ (by simp)
  · omega
  rintro e w1 ⟨a1, c1, rfl, hO, hB⟩
  have hE2 := hE1.note hO hB
  clear hE1
  clear hO hB
  have hE3 := hE2.pre (a := a1) (n := nx' + 5) (c := c1) (l := X ++ List.replicate 5 77) (by simp) (k := nx') (by omega) (l' := X) (List.take_left' X_len.out)
  clear hE2
  go_wp2_with fail
  refine (rroot_any (l := X) ?_ ?_).mono ?_
  · exact hE3.rd ⟨x, nx', cx, X⟩ (by simp)
  · omega
  rintro e w2 ⟨a2, n2, c2, rfl, hO, hB⟩
  have hE4 := hE3.note hO hB
  clear hE3
  clear hO hB
  go_wp2_with fail
  refine (root_any (l := X) ?_ ?_).mono ?_
  · exact hE4.rd ⟨a1, nx', c1, X⟩ (by simp)
  · omega
  rintro e w3 ⟨a3, n3, c3, rfl, hO, hB⟩
  have hE5 := hE4.tell hO hB (by have := hO.len; have := (rt_sz X_sz.out).len; omega)
  clear hE4
  clear hO hB
  go_wp2_with fail
  refine (root_any (l := X) ?_ ?_).mono ?_
  · exact hE5.rd ⟨a1, nx', c1, X⟩ (by simp)
  · omega
  rintro e w4 ⟨a4, n4, c4, rfl, hO, hB⟩
  have hE6 := hE5.tell hO hB (by have := hO.len; have := (rt_sz X_sz.out).len; omega)
  clear hE5
  clear hO hB
  go_wp2_with fail
  refine (hE6.apart_call (K := 2) [1, 0] [⟨a2, n2, c2, lm (rt (val X))⟩, ⟨a2, n2, c2, lm (rt (val X))⟩] rfl rfl (by decide) (by decide) (fun i hi => by simp at hi ⊢; omega) rfl rfl (by simp) rfl).mono ?_
  rintro e wA ⟨rfl, hE7⟩
  clear hE6
  go_wp2_with fail
  refine (kept_any (l := X) ?_ ?_).mono ?_
  · exact hE7.rd ⟨a1, nx' + 5, c1, X ++ List.replicate 5 77⟩ (by simp)
  · exact hE7.rd ⟨x, nx', cx, X⟩ (by simp)
  rintro e w5 ⟨rfl, hD⟩
  have hE8 := hE7.dr hD
  clear hE7
  clear hD
  go_wp2
  go_ret
  exact ⟨rfl, hE8.bel⟩

end Go.Proofs.Ytknpacegaclcgaa
