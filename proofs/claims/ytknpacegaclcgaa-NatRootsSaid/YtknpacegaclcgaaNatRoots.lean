/- THE WALK OF credencelaw01.NatRoots: the root's square is not above, the next one's is. -/
import Derived.Test.YtknpacegaclcgaaWC
import Derived.Test.YtknpacegaclcgaaPm
namespace Go.Proofs.Ytknpacegaclcgaa
set_option linter.unusedVariables false
open Go.ChangeShapes Go.WideShapes Go.ChangeAt Go.RowKit Go.NatP

set_option maxRecDepth 100000 in
set_option maxHeartbeats 4000000 in
theorem natRoots_walk {w : World} {x : Option Addr} {nx cx : Nat} {lx : List Nat} (hx : Rd w x nx cx lx) :
    Calls Try.prog 11 #[.slice x nx cx] w fun e w' => e = .returned (.bool true) ∧ Below w.heap.size w w' := by
  go_enter Try.func11, Try.ntmps11
  have hE0 := ev_start w
  have hE1 := hE0.old hx
  clear hE0
  go_wp2_with fail
  refine (alive_any ).mono ?_
  rintro e w1 ⟨rfl, hB⟩
  have hE2 := hE1.step hB
  clear hE1
  clear hB
  go_wp2_with fail
  refine (cut_any (hE2.rd ⟨x, nx, cx, lx⟩ (by simp)) 40 (by decide) (by decide)).mono ?_
  rintro e w' ⟨nx', rfl, rfl, x1, x2⟩
  rw [show Int.toNat 40 = 40 from rfl] at x1 x2
  have A_sz : Hid (Sz (val (lx.take 40)) 40) := x2.lim.sz (by rw [x2.len]; exact x1)
  generalize lx.take 40 = A_l at x2 A_sz
  go_wp2_with fail
  refine (norm_any (l := A_l) x2 (by omega)).mono ?_
  generalize val A_l = A at A_sz ⊢
  rintro e w2 ⟨a2, n2, c2, rfl, hO, hB⟩
  have hn2 : n2 ≤ 40 := by have := hO.len; have := A_sz.out.len; omega
  have hE3 := hE2.note hO hB
  clear hE2
  clear hO hB x2
  go_wp2_with fail
  refine (root_any (l := lm A) ?_ ?_).mono ?_
  · exact hE3.rd ⟨a2, n2, c2, lm A⟩ (by simp)
  · omega
  rw [val_lm]
  rintro e w3 ⟨a3, n3, c3, rfl, hO, hB⟩
  have hn3 : n3 ≤ 40 := by have := hO.len; have := ((rt_sz A_sz.out)).len; omega
  have hE4 := hE3.note hO hB
  clear hE3
  clear hO hB
  have hE5 := hE4.lit [1] (by decide) (by simp [maxLen]) #[.int .u32 1] rfl (w3.heap.size) 1 (by simp) rfl
  clear hE4
  go_wp2_with fail
  refine (add_any (la := lm (rt A)) (lb := [1]) ?_ ?_ ?_ ?_).mono ?_
  · exact hE5.rd ⟨a3, n3, c3, lm (rt A)⟩ (by simp)
  · exact hE5.rd ⟨(some ⟨w3.heap.size, 0, none⟩), 1, 1, [1]⟩ (by simp)
  · omega
  · omega
  rw [val_lm, show val [1] = 1 from rfl]
  rintro e w4 ⟨a4, n4, c4, rfl, hO, hB⟩
  have hn4 : n4 ≤ 42 := by have := hO.len; have := ((szAdd (rt_sz A_sz.out) (Sz.mono (m := 1) (j := 1) (show Sz 1 1 by unfold Sz; decide) (Nat.le_refl _) (Nat.le_refl _)))).len; omega
  have hE6 := hE5.note hO hB
  clear hE5
  clear hO hB
  go_wp2_with fail
  refine (mul_any (la := lm (rt A)) (lb := lm (rt A)) ?_ ?_ ?_ ?_).mono ?_
  · exact hE6.rd ⟨a3, n3, c3, lm (rt A)⟩ (by simp)
  · exact hE6.rd ⟨a3, n3, c3, lm (rt A)⟩ (by simp)
  · omega
  · omega
  rw [val_lm]
  rintro e w5 ⟨a5, n5, c5, rfl, hO, hB⟩
  have hn5 : n5 ≤ 80 := by have := hO.len; have := (((rt_sz A_sz.out).mul (rt_sz A_sz.out))).len; omega
  have hE7 := hE6.note hO hB
  clear hE6
  clear hO hB
  go_wp2_with fail
  refine (cmp_any (la := lm ((rt A) * (rt A))) (lb := lm A) ?_ ?_).mono ?_
  · exact hE7.rd ⟨a5, n5, c5, lm ((rt A) * (rt A))⟩ (by simp)
  · exact hE7.rd ⟨a2, n2, c2, lm A⟩ (by simp)
  rw [val_lm, val_lm]
  have hq5 := cmpI_le (rt_le A)
  have hr5 := cmpI_range ((rt A) * (rt A)) A
  generalize cmpI ((rt A) * (rt A)) A = q5 at *
  rintro e w6 ⟨rfl, hD⟩
  have hE8 := hE7.dr hD
  clear hE7
  clear hD
  go_wp2_with fail
  refine (mul_any (la := lm (rt A + 1)) (lb := lm (rt A + 1)) ?_ ?_ ?_ ?_).mono ?_
  · exact hE8.rd ⟨a4, n4, c4, lm (rt A + 1)⟩ (by simp)
  · exact hE8.rd ⟨a4, n4, c4, lm (rt A + 1)⟩ (by simp)
  · omega
  · omega
  rw [val_lm]
  rintro e w7 ⟨a7, n7, c7, rfl, hO, hB⟩
  have hn7 : n7 ≤ 84 := by have := hO.len; have := (((szAdd (rt_sz A_sz.out) (Sz.mono (m := 1) (j := 1) (show Sz 1 1 by unfold Sz; decide) (Nat.le_refl _) (Nat.le_refl _))).mul (szAdd (rt_sz A_sz.out) (Sz.mono (m := 1) (j := 1) (show Sz 1 1 by unfold Sz; decide) (Nat.le_refl _) (Nat.le_refl _))))).len; omega
  have hE9 := hE8.note hO hB
  clear hE8
  clear hO hB
  go_wp2_with fail
  refine (cmp_any (la := lm ((rt A + 1) * (rt A + 1))) (lb := lm A) ?_ ?_).mono ?_
  · exact hE9.rd ⟨a7, n7, c7, lm ((rt A + 1) * (rt A + 1))⟩ (by simp)
  · exact hE9.rd ⟨a2, n2, c2, lm A⟩ (by simp)
  rw [val_lm, val_lm]
  have hq7 := cmpI_pos.2 (rt_gt A)
  have hr7 := cmpI_range ((rt A + 1) * (rt A + 1)) A
  generalize cmpI ((rt A + 1) * (rt A + 1)) A = q7 at *
  rintro e w8 ⟨rfl, hD⟩
  have hE10 := hE9.dr hD
  clear hE9
  clear hD
  go_wp2_with fail
  refine (mul_any (la := lm A) (lb := lm A) ?_ ?_ ?_ ?_).mono ?_
  · exact hE10.rd ⟨a2, n2, c2, lm A⟩ (by simp)
  · exact hE10.rd ⟨a2, n2, c2, lm A⟩ (by simp)
  · omega
  · omega
  rw [val_lm]
  rintro e w9 ⟨a9, n9, c9, rfl, hO, hB⟩
  have hn9 : n9 ≤ 80 := by have := hO.len; have := ((A_sz.out.mul A_sz.out)).len; omega
  have hE11 := hE10.note hO hB
  clear hE10
  clear hO hB
  go_wp2_with fail
  refine (root_any (l := lm (A * A)) ?_ ?_).mono ?_
  · exact hE11.rd ⟨a9, n9, c9, lm (A * A)⟩ (by simp)
  · omega
  rw [val_lm, rt_sq]
  rintro e w10 ⟨a10, n10, c10, rfl, hO, hB⟩
  have hn10 : n10 ≤ 40 := by have := hO.len; have := (A_sz.out).len; omega
  have hE12 := hE11.note hO hB
  clear hE11
  clear hO hB
  go_wp2_with fail
  refine (lsame_true (l := lm (A)) ?_ ?_).mono ?_
  · exact hE12.rd ⟨a10, n10, c10, lm (A)⟩ (by simp)
  · exact hE12.rd ⟨a2, n2, c2, lm A⟩ (by simp)
  rintro e w11 ⟨rfl, hD⟩
  have hE13 := hE12.dr hD
  clear hE12
  clear hD
  go_wp2
  go_ret
  exact ⟨rfl, hE13.bel⟩

end Go.Proofs.Ytknpacegaclcgaa
