/- WALKS, 29: small numbers are reckoned with. -/
import Derived.Test.YtknpacegaclcgaaWB
namespace Go.Proofs.Ytknpacegaclcgaa
set_option linter.unusedVariables false
open Go.ChangeShapes Go.WideShapes Go.ChangeAt Go.RowKit Go.NatP

set_option maxRecDepth 100000 in
set_option maxHeartbeats 4000000 in
theorem alive_any {w : World} : Calls Try.prog 53 #[] w fun e w' => e = .returned (.bool true) ∧ Below w.heap.size w w' := by
  go_enter Try.func53, Try.ntmps53
  have hE0 := ev_start w
  have hE1 := hE0.lit [7] (by decide) (by simp [maxLen]) #[.int .u32 7] rfl (w.heap.size) 1 (by simp) rfl
  clear hE0
  have hE2 := hE1.lit [100] (by decide) (by simp [maxLen]) #[.int .u32 100] rfl (w.heap.size + 1) 1 (by simp) rfl
  clear hE1
  go_wp2_with fail
  refine (divmod_any (la := [100]) (lb := [7]) ?_ ?_ ?_).mono ?_
  · exact hE2.rd ⟨(some ⟨w.heap.size + 1, 0, none⟩), 1, 1, [100]⟩ (by simp)
  · exact hE2.rd ⟨(some ⟨w.heap.size, 0, none⟩), 1, 1, [7]⟩ (by simp)
  · omega
  rw [show lm (val [100] / val [7]) = [14] from by decide +kernel, show lm (dvR (val [100]) (val [7])) = [2] from by decide +kernel, show dvE (val [7]) = 0 from by decide +kernel]
  rintro e w1 ⟨a1, n1, c1, b1, m1, d1, rfl, hO, hO2, hDf, hB⟩
  have hE3 := hE2.note2 hO hO2 hB
  clear hE2
  clear hO hO2 hDf hB
  have hE4 := hE3.lit [2] (by decide) (by simp [maxLen]) #[.int .u32 2] rfl (w1.heap.size) 1 (by simp) rfl
  clear hE3
  go_wp2_with fail
  refine (pow_any (l := [2]) (n := 40) ?_ ?_).mono ?_
  · exact hE4.rd ⟨(some ⟨w1.heap.size, 0, none⟩), 1, 1, [2]⟩ (by simp)
  · omega
  rw [show lm (pwN (val [2]) 40) = [0, 256] from lm_is (by decide) (by decide) (by decide +kernel), show pwE (val [2]) 40 = 0 from by decide +kernel]
  rintro e w2 ⟨a2, n2, c2, rfl, hO, hB⟩
  have hn2 : n2 ≤ 2 := by have := hO.len; simp at this; omega
  have hE5 := hE4.note hO hB
  clear hE4
  clear hO hB
  go_wp2_with fail
  refine (parse_any ⟨#[52, 50, 57, 52, 57, 54, 55, 50, 57, 55]⟩ ?_).mono ?_
  · decide
  rw [show lm (paN (by' ⟨#[52, 50, 57, 52, 57, 54, 55, 50, 57, 55]⟩)) = [1, 1] from lm_is (by decide) (by decide) (by decide +kernel), show paE (by' ⟨#[52, 50, 57, 52, 57, 54, 55, 50, 57, 55]⟩) = 0 from by decide +kernel]
  rintro e w3 ⟨a3, n3, c3, rfl, hO, hB⟩
  have hE6 := hE5.note hO hB
  clear hE5
  clear hO hB
  have hE7 := hE6.lit [14] (by decide) (by simp [maxLen]) #[.int .u32 14] rfl (w3.heap.size) 1 (by simp) rfl
  clear hE6
  go_wp2_with fail
  refine (lsame_true (l := [14]) ?_ ?_).mono ?_
  · exact hE7.rd ⟨a1, n1, c1, [14]⟩ (by simp)
  · exact hE7.rd ⟨(some ⟨w3.heap.size, 0, none⟩), 1, 1, [14]⟩ (by simp)
  rintro e w4 ⟨rfl, hD⟩
  have hE8 := hE7.dr hD
  clear hE7
  clear hD
  have hE9 := hE8.lit [2] (by decide) (by simp [maxLen]) #[.int .u32 2] rfl (w4.heap.size) 1 (by simp) rfl
  clear hE8
  go_wp2_with fail
  refine (lsame_true (l := [2]) ?_ ?_).mono ?_
  · exact hE9.rd ⟨b1, m1, d1, [2]⟩ (by simp)
  · exact hE9.rd ⟨(some ⟨w4.heap.size, 0, none⟩), 1, 1, [2]⟩ (by simp)
  rintro e w5 ⟨rfl, hD⟩
  have hE10 := hE9.dr hD
  clear hE9
  clear hD
  have hE11 := hE10.lit [0, 256] (by decide) (by simp [maxLen]) #[.int .u32 0, .int .u32 256] rfl (w5.heap.size) 2 (by simp) rfl
  clear hE10
  go_wp2_with fail
  refine (lsame_true (l := [0, 256]) ?_ ?_).mono ?_
  · exact hE11.rd ⟨a2, n2, c2, [0, 256]⟩ (by simp)
  · exact hE11.rd ⟨(some ⟨w5.heap.size, 0, none⟩), 2, 2, [0, 256]⟩ (by simp)
  rintro e w6 ⟨rfl, hD⟩
  have hE12 := hE11.dr hD
  clear hE11
  clear hD
  have hE13 := hE12.lit [1, 1] (by decide) (by simp [maxLen]) #[.int .u32 1, .int .u32 1] rfl (w6.heap.size) 2 (by simp) rfl
  clear hE12
  go_wp2_with fail
  refine (lsame_true (l := [1, 1]) ?_ ?_).mono ?_
  · exact hE13.rd ⟨a3, n3, c3, [1, 1]⟩ (by simp)
  · exact hE13.rd ⟨(some ⟨w6.heap.size, 0, none⟩), 2, 2, [1, 1]⟩ (by simp)
  rintro e w7 ⟨rfl, hD⟩
  have hE14 := hE13.dr hD
  clear hE13
  clear hD
  have hE15 := hE14.lit [1, 1] (by decide) (by simp [maxLen]) #[.int .u32 1, .int .u32 1] rfl (w7.heap.size) 2 (by simp) rfl
  clear hE14
  go_wp2_with fail
  refine (text_any (l := [1, 1]) ?_ ?_).mono ?_
  · exact hE15.rd ⟨(some ⟨w7.heap.size, 0, none⟩), 2, 2, [1, 1]⟩ (by simp)
  · omega
  rw [show txt (tx (val [1, 1])) = ⟨#[52, 50, 57, 52, 57, 54, 55, 50, 57, 55]⟩ from by decide +kernel]
  rintro e w8 ⟨rfl, hB⟩
  have hE16 := hE15.step hB
  clear hE15
  clear hB
  go_wp2_with fail
  refine (add_any (la := [7]) (lb := [7]) ?_ ?_ ?_ ?_).mono ?_
  · exact hE16.rd ⟨(some ⟨w.heap.size, 0, none⟩), 1, 1, [7]⟩ (by simp)
  · exact hE16.rd ⟨(some ⟨w.heap.size, 0, none⟩), 1, 1, [7]⟩ (by simp)
  · omega
  · omega
  rw [show lm (val [7] + val [7]) = [14] from by decide +kernel]
  rintro e w9 ⟨a9, n9, c9, rfl, hO, hB⟩
  have hE17 := hE16.note hO hB
  clear hE16
  clear hO hB
  have hE18 := hE17.lit [14] (by decide) (by simp [maxLen]) #[.int .u32 14] rfl (w9.heap.size) 1 (by simp) rfl
  clear hE17
  go_wp2_with fail
  refine (lsame_true (l := [14]) ?_ ?_).mono ?_
  · exact hE18.rd ⟨a9, n9, c9, [14]⟩ (by simp)
  · exact hE18.rd ⟨(some ⟨w9.heap.size, 0, none⟩), 1, 1, [14]⟩ (by simp)
  rintro e w10 ⟨rfl, hD⟩
  have hE19 := hE18.dr hD
  clear hE18
  clear hD
  go_wp2_with fail
  refine (mul_any (la := [7]) (lb := [7]) ?_ ?_ ?_ ?_).mono ?_
  · exact hE19.rd ⟨(some ⟨w.heap.size, 0, none⟩), 1, 1, [7]⟩ (by simp)
  · exact hE19.rd ⟨(some ⟨w.heap.size, 0, none⟩), 1, 1, [7]⟩ (by simp)
  · omega
  · omega
  rw [show lm (val [7] * val [7]) = [49] from by decide +kernel]
  rintro e w11 ⟨a11, n11, c11, rfl, hO, hB⟩
  have hE20 := hE19.note hO hB
  clear hE19
  clear hO hB
  have hE21 := hE20.lit [49] (by decide) (by simp [maxLen]) #[.int .u32 49] rfl (w11.heap.size) 1 (by simp) rfl
  clear hE20
  go_wp2_with fail
  refine (lsame_true (l := [49]) ?_ ?_).mono ?_
  · exact hE21.rd ⟨a11, n11, c11, [49]⟩ (by simp)
  · exact hE21.rd ⟨(some ⟨w11.heap.size, 0, none⟩), 1, 1, [49]⟩ (by simp)
  rintro e w12 ⟨rfl, hD⟩
  have hE22 := hE21.dr hD
  clear hE21
  clear hD
  go_wp2_with fail
  refine (cmp_any (la := [7]) (lb := [14]) ?_ ?_).mono ?_
  · exact hE22.rd ⟨(some ⟨w.heap.size, 0, none⟩), 1, 1, [7]⟩ (by simp)
  · exact hE22.rd ⟨a1, n1, c1, [14]⟩ (by simp)
  rw [show cmpI (val [7]) (val [14]) = -1 from by decide +kernel]
  rintro e w13 ⟨rfl, hD⟩
  have hE23 := hE22.dr hD
  clear hE22
  clear hD
  go_wp2_with fail
  refine (root_any (l := [0, 256]) ?_ ?_).mono ?_
  · exact hE23.rd ⟨a2, n2, c2, [0, 256]⟩ (by simp)
  · omega
  rw [show lm (rt (val [0, 256])) = [1048576] from lm_is (by decide) (by decide) (rt_is (by decide +kernel) (by decide +kernel))]
  rintro e w14 ⟨a14, n14, c14, rfl, hO, hB⟩
  have hE24 := hE23.note hO hB
  clear hE23
  clear hO hB
  have hE25 := hE24.lit [1048576] (by decide) (by simp [maxLen]) #[.int .u32 1048576] rfl (w14.heap.size) 1 (by simp) rfl
  clear hE24
  go_wp2_with fail
  refine (lsame_true (l := [1048576]) ?_ ?_).mono ?_
  · exact hE25.rd ⟨a14, n14, c14, [1048576]⟩ (by simp)
  · exact hE25.rd ⟨(some ⟨w14.heap.size, 0, none⟩), 1, 1, [1048576]⟩ (by simp)
  rintro e w15 ⟨rfl, hD⟩
  have hE26 := hE25.dr hD
  clear hE25
  clear hD
  go_wp2
  go_ret
  exact ⟨rfl, hE26.bel⟩

end Go.Proofs.Ytknpacegaclcgaa
