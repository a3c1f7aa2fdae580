/- THE WALK OF credencelaw01.NatRing: sums and products in any order. -/
import Derived.Test.YtknpacegaclcgaaWC
namespace Go.Proofs.Ytknpacegaclcgaa
set_option linter.unusedVariables false
open Go.ChangeShapes Go.WideShapes Go.ChangeAt Go.RowKit Go.NatP

set_option maxRecDepth 100000 in
set_option maxHeartbeats 4000000 in
theorem natRing_walk {w : World} {x : Option Addr} {nx cx : Nat} {lx : List Nat} (hx : Rd w x nx cx lx) {y : Option Addr} {ny cy : Nat} {ly : List Nat} (hy : Rd w y ny cy ly) {z : Option Addr} {nz cz : Nat} {lz : List Nat} (hz : Rd w z nz cz lz) :
    Calls Try.prog 15 #[.slice x nx cx, .slice y ny cy, .slice z nz cz] w fun e w' => e = .returned (.bool true) ∧ Below w.heap.size w w' := by
  go_enter Try.func15, Try.ntmps15
  have hE0 := ev_start w
  have hE1 := hE0.old hx
  clear hE0
  have hE2 := hE1.old hy
  clear hE1
  have hE3 := hE2.old hz
  clear hE2
  go_wp2_with fail
  refine (alive_any ).mono ?_
  rintro e w1 ⟨rfl, hB⟩
  have hE4 := hE3.step hB
  clear hE3
  clear hB
  go_wp2_with fail
  refine (cut_any (hE4.rd ⟨x, nx, cx, lx⟩ (by simp)) 60 (by decide) (by decide)).mono ?_
  rintro e w' ⟨nx', rfl, rfl, x1, x2⟩
  rw [show Int.toNat 60 = 60 from rfl] at x1 x2
  have A_sz : Hid (Sz (val (lx.take 60)) 60) := x2.lim.sz (by rw [x2.len]; exact x1)
  generalize lx.take 60 = A_l at x2 A_sz
  go_wp2_with fail
  refine (norm_any (l := A_l) x2 (by omega)).mono ?_
  generalize val A_l = A at A_sz ⊢
  rintro e w2 ⟨a2, n2, c2, rfl, hO, hB⟩
  have hn2 : n2 ≤ 60 := by have := hO.len; have := A_sz.out.len; omega
  have hE5 := hE4.note hO hB
  clear hE4
  clear hO hB x2
  go_wp2_with fail
  refine (cut_any (hE5.rd ⟨y, ny, cy, ly⟩ (by simp)) 60 (by decide) (by decide)).mono ?_
  rintro e w' ⟨ny', rfl, rfl, y1, y2⟩
  rw [show Int.toNat 60 = 60 from rfl] at y1 y2
  have B_sz : Hid (Sz (val (ly.take 60)) 60) := y2.lim.sz (by rw [y2.len]; exact y1)
  generalize ly.take 60 = B_l at y2 B_sz
  go_wp2_with fail
  refine (norm_any (l := B_l) y2 (by omega)).mono ?_
  generalize val B_l = B at B_sz ⊢
  rintro e w3 ⟨a3, n3, c3, rfl, hO, hB⟩
  have hn3 : n3 ≤ 60 := by have := hO.len; have := B_sz.out.len; omega
  have hE6 := hE5.note hO hB
  clear hE5
  clear hO hB y2
  go_wp2_with fail
  refine (cut_any (hE6.rd ⟨z, nz, cz, lz⟩ (by simp)) 60 (by decide) (by decide)).mono ?_
  rintro e w' ⟨nz', rfl, rfl, z1, z2⟩
  rw [show Int.toNat 60 = 60 from rfl] at z1 z2
  have C_sz : Hid (Sz (val (lz.take 60)) 60) := z2.lim.sz (by rw [z2.len]; exact z1)
  generalize lz.take 60 = C_l at z2 C_sz
  go_wp2_with fail
  refine (norm_any (l := C_l) z2 (by omega)).mono ?_
  generalize val C_l = C at C_sz ⊢
  rintro e w4 ⟨a4, n4, c4, rfl, hO, hB⟩
  have hn4 : n4 ≤ 60 := by have := hO.len; have := C_sz.out.len; omega
  have hE7 := hE6.note hO hB
  clear hE6
  clear hO hB z2
  have hzr := cmpI_range A B
  go_wp2_with fail
  refine (add_any (la := lm A) (lb := lm B) ?_ ?_ ?_ ?_).mono ?_
  · exact hE7.rd ⟨a2, n2, c2, lm A⟩ (by simp)
  · exact hE7.rd ⟨a3, n3, c3, lm B⟩ (by simp)
  · omega
  · omega
  rw [val_lm, val_lm]
  rintro e w5 ⟨a5, n5, c5, rfl, hO, hB⟩
  have hn5 : n5 ≤ 121 := by have := hO.len; have := ((szAdd A_sz.out B_sz.out)).len; omega
  have hE8 := hE7.note hO hB
  clear hE7
  clear hO hB
  go_wp2_with fail
  refine (add_any (la := lm (A + B)) (lb := lm C) ?_ ?_ ?_ ?_).mono ?_
  · exact hE8.rd ⟨a5, n5, c5, lm (A + B)⟩ (by simp)
  · exact hE8.rd ⟨a4, n4, c4, lm C⟩ (by simp)
  · omega
  · omega
  rw [val_lm, val_lm]
  rintro e w6 ⟨a6, n6, c6, rfl, hO, hB⟩
  have hn6 : n6 ≤ 182 := by have := hO.len; have := ((szAdd (szAdd A_sz.out B_sz.out) C_sz.out)).len; omega
  have hE9 := hE8.note hO hB
  clear hE8
  clear hO hB
  go_wp2_with fail
  refine (add_any (la := lm C) (lb := lm B) ?_ ?_ ?_ ?_).mono ?_
  · exact hE9.rd ⟨a4, n4, c4, lm C⟩ (by simp)
  · exact hE9.rd ⟨a3, n3, c3, lm B⟩ (by simp)
  · omega
  · omega
  rw [val_lm, val_lm]
  rintro e w7 ⟨a7, n7, c7, rfl, hO, hB⟩
  have hn7 : n7 ≤ 121 := by have := hO.len; have := ((szAdd C_sz.out B_sz.out)).len; omega
  have hE10 := hE9.note hO hB
  clear hE9
  clear hO hB
  go_wp2_with fail
  refine (add_any (la := lm A) (lb := lm (C + B)) ?_ ?_ ?_ ?_).mono ?_
  · exact hE10.rd ⟨a2, n2, c2, lm A⟩ (by simp)
  · exact hE10.rd ⟨a7, n7, c7, lm (C + B)⟩ (by simp)
  · omega
  · omega
  rw [val_lm, val_lm, show A + (C + B) = A + B + C by omega]
  rintro e w8 ⟨a8, n8, c8, rfl, hO, hB⟩
  have hn8 : n8 ≤ 182 := by have := hO.len; have := ((szAdd (szAdd A_sz.out B_sz.out) C_sz.out)).len; omega
  have hE11 := hE10.note hO hB
  clear hE10
  clear hO hB
  go_wp2_with fail
  refine (lsame_true (l := lm (A + B + C)) ?_ ?_).mono ?_
  · exact hE11.rd ⟨a6, n6, c6, lm (A + B + C)⟩ (by simp)
  · exact hE11.rd ⟨a8, n8, c8, lm (A + B + C)⟩ (by simp)
  rintro e w9 ⟨rfl, hD⟩
  have hE12 := hE11.dr hD
  clear hE11
  clear hD
  go_wp2_with fail
  refine (mul_any (la := lm A) (lb := lm B) ?_ ?_ ?_ ?_).mono ?_
  · exact hE12.rd ⟨a2, n2, c2, lm A⟩ (by simp)
  · exact hE12.rd ⟨a3, n3, c3, lm B⟩ (by simp)
  · omega
  · omega
  rw [val_lm, val_lm]
  rintro e w10 ⟨a10, n10, c10, rfl, hO, hB⟩
  have hn10 : n10 ≤ 120 := by have := hO.len; have := ((A_sz.out.mul B_sz.out)).len; omega
  have hE13 := hE12.note hO hB
  clear hE12
  clear hO hB
  go_wp2_with fail
  refine (mul_any (la := lm (A * B)) (lb := lm C) ?_ ?_ ?_ ?_).mono ?_
  · exact hE13.rd ⟨a10, n10, c10, lm (A * B)⟩ (by simp)
  · exact hE13.rd ⟨a4, n4, c4, lm C⟩ (by simp)
  · omega
  · omega
  rw [val_lm, val_lm]
  rintro e w11 ⟨a11, n11, c11, rfl, hO, hB⟩
  have hn11 : n11 ≤ 180 := by have := hO.len; have := (((A_sz.out.mul B_sz.out).mul C_sz.out)).len; omega
  have hE14 := hE13.note hO hB
  clear hE13
  clear hO hB
  go_wp2_with fail
  refine (mul_any (la := lm C) (lb := lm B) ?_ ?_ ?_ ?_).mono ?_
  · exact hE14.rd ⟨a4, n4, c4, lm C⟩ (by simp)
  · exact hE14.rd ⟨a3, n3, c3, lm B⟩ (by simp)
  · omega
  · omega
  rw [val_lm, val_lm]
  rintro e w12 ⟨a12, n12, c12, rfl, hO, hB⟩
  have hn12 : n12 ≤ 120 := by have := hO.len; have := ((C_sz.out.mul B_sz.out)).len; omega
  have hE15 := hE14.note hO hB
  clear hE14
  clear hO hB
  go_wp2_with fail
  refine (mul_any (la := lm A) (lb := lm (C * B)) ?_ ?_ ?_ ?_).mono ?_
  · exact hE15.rd ⟨a2, n2, c2, lm A⟩ (by simp)
  · exact hE15.rd ⟨a12, n12, c12, lm (C * B)⟩ (by simp)
  · omega
  · omega
  rw [val_lm, val_lm, show A * (C * B) = A * B * C by rw [Nat.mul_assoc, Nat.mul_comm C B]]
  rintro e w13 ⟨a13, n13, c13, rfl, hO, hB⟩
  have hn13 : n13 ≤ 180 := by have := hO.len; have := (((A_sz.out.mul B_sz.out).mul C_sz.out)).len; omega
  have hE16 := hE15.note hO hB
  clear hE15
  clear hO hB
  go_wp2_with fail
  refine (lsame_true (l := lm ((A * B) * C)) ?_ ?_).mono ?_
  · exact hE16.rd ⟨a11, n11, c11, lm ((A * B) * C)⟩ (by simp)
  · exact hE16.rd ⟨a13, n13, c13, lm (A * B * C)⟩ (by simp)
  rintro e w14 ⟨rfl, hD⟩
  have hE17 := hE16.dr hD
  clear hE16
  clear hD
  go_wp2_with fail
  refine (add_any (la := lm B) (lb := lm C) ?_ ?_ ?_ ?_).mono ?_
  · exact hE17.rd ⟨a3, n3, c3, lm B⟩ (by simp)
  · exact hE17.rd ⟨a4, n4, c4, lm C⟩ (by simp)
  · omega
  · omega
  rw [val_lm, val_lm]
  rintro e w15 ⟨a15, n15, c15, rfl, hO, hB⟩
  have hn15 : n15 ≤ 121 := by have := hO.len; have := ((szAdd B_sz.out C_sz.out)).len; omega
  have hE18 := hE17.note hO hB
  clear hE17
  clear hO hB
  go_wp2_with fail
  refine (mul_any (la := lm A) (lb := lm (B + C)) ?_ ?_ ?_ ?_).mono ?_
  · exact hE18.rd ⟨a2, n2, c2, lm A⟩ (by simp)
  · exact hE18.rd ⟨a15, n15, c15, lm (B + C)⟩ (by simp)
  · omega
  · omega
  rw [val_lm, val_lm, Nat.mul_add]
  rintro e w16 ⟨a16, n16, c16, rfl, hO, hB⟩
  have hn16 : n16 ≤ 241 := by have := hO.len; have := ((szAdd (A_sz.out.mul B_sz.out) (A_sz.out.mul C_sz.out))).len; omega
  have hE19 := hE18.note hO hB
  clear hE18
  clear hO hB
  go_wp2_with fail
  refine (mul_any (la := lm A) (lb := lm B) ?_ ?_ ?_ ?_).mono ?_
  · exact hE19.rd ⟨a2, n2, c2, lm A⟩ (by simp)
  · exact hE19.rd ⟨a3, n3, c3, lm B⟩ (by simp)
  · omega
  · omega
  rw [val_lm, val_lm]
  rintro e w17 ⟨a17, n17, c17, rfl, hO, hB⟩
  have hn17 : n17 ≤ 120 := by have := hO.len; have := ((A_sz.out.mul B_sz.out)).len; omega
  have hE20 := hE19.note hO hB
  clear hE19
  clear hO hB
  go_wp2_with fail
  refine (mul_any (la := lm A) (lb := lm C) ?_ ?_ ?_ ?_).mono ?_
  · exact hE20.rd ⟨a2, n2, c2, lm A⟩ (by simp)
  · exact hE20.rd ⟨a4, n4, c4, lm C⟩ (by simp)
  · omega
  · omega
  rw [val_lm, val_lm]
  rintro e w18 ⟨a18, n18, c18, rfl, hO, hB⟩
  have hn18 : n18 ≤ 120 := by have := hO.len; have := ((A_sz.out.mul C_sz.out)).len; omega
  have hE21 := hE20.note hO hB
  clear hE20
  clear hO hB
  go_wp2_with fail
  refine (add_any (la := lm (A * B)) (lb := lm (A * C)) ?_ ?_ ?_ ?_).mono ?_
  · exact hE21.rd ⟨a17, n17, c17, lm (A * B)⟩ (by simp)
  · exact hE21.rd ⟨a18, n18, c18, lm (A * C)⟩ (by simp)
  · omega
  · omega
  rw [val_lm, val_lm]
  rintro e w19 ⟨a19, n19, c19, rfl, hO, hB⟩
  have hn19 : n19 ≤ 241 := by have := hO.len; have := ((szAdd (A_sz.out.mul B_sz.out) (A_sz.out.mul C_sz.out))).len; omega
  have hE22 := hE21.note hO hB
  clear hE21
  clear hO hB
  go_wp2_with fail
  refine (lsame_true (l := lm (A * B + A * C)) ?_ ?_).mono ?_
  · exact hE22.rd ⟨a16, n16, c16, lm (A * B + A * C)⟩ (by simp)
  · exact hE22.rd ⟨a19, n19, c19, lm ((A * B) + (A * C))⟩ (by simp)
  rintro e w20 ⟨rfl, hD⟩
  have hE23 := hE22.dr hD
  clear hE22
  clear hD
  go_wp2_with fail
  refine (add_any (la := lm A) (lb := lm B) ?_ ?_ ?_ ?_).mono ?_
  · exact hE23.rd ⟨a2, n2, c2, lm A⟩ (by simp)
  · exact hE23.rd ⟨a3, n3, c3, lm B⟩ (by simp)
  · omega
  · omega
  rw [val_lm, val_lm]
  rintro e w21 ⟨a21, n21, c21, rfl, hO, hB⟩
  have hn21 : n21 ≤ 121 := by have := hO.len; have := ((szAdd A_sz.out B_sz.out)).len; omega
  have hE24 := hE23.note hO hB
  clear hE23
  clear hO hB
  go_wp2_with fail
  refine (subP_any (la := lm (A + B)) (lb := lm B) ?_ ?_ ?_).mono ?_
  · exact hE24.rd ⟨a21, n21, c21, lm (A + B)⟩ (by simp)
  · exact hE24.rd ⟨a3, n3, c3, lm B⟩ (by simp)
  · omega
  rw [val_lm, val_lm, Nat.add_sub_cancel, decide_eq_true (Nat.le_add_left B A)]
  rintro e w22 ⟨a22, n22, c22, rfl, hO, hB⟩
  have hE25 := hE24.note hO hB
  clear hE24
  clear hO hB
  go_wp2_with fail
  refine (add_any (la := lm A) (lb := lm C) ?_ ?_ ?_ ?_).mono ?_
  · exact hE25.rd ⟨a2, n2, c2, lm A⟩ (by simp)
  · exact hE25.rd ⟨a4, n4, c4, lm C⟩ (by simp)
  · omega
  · omega
  rw [val_lm, val_lm]
  rintro e w23 ⟨a23, n23, c23, rfl, hO, hB⟩
  have hn23 : n23 ≤ 121 := by have := hO.len; have := ((szAdd A_sz.out C_sz.out)).len; omega
  have hE26 := hE25.note hO hB
  clear hE25
  clear hO hB
  go_wp2_with fail
  refine (add_any (la := lm B) (lb := lm C) ?_ ?_ ?_ ?_).mono ?_
  · exact hE26.rd ⟨a3, n3, c3, lm B⟩ (by simp)
  · exact hE26.rd ⟨a4, n4, c4, lm C⟩ (by simp)
  · omega
  · omega
  rw [val_lm, val_lm]
  rintro e w24 ⟨a24, n24, c24, rfl, hO, hB⟩
  have hn24 : n24 ≤ 121 := by have := hO.len; have := ((szAdd B_sz.out C_sz.out)).len; omega
  have hE27 := hE26.note hO hB
  clear hE26
  clear hO hB
  go_wp2_with fail
  refine (cmp_any (la := lm (A + C)) (lb := lm (B + C)) ?_ ?_).mono ?_
  · exact hE27.rd ⟨a23, n23, c23, lm (A + C)⟩ (by simp)
  · exact hE27.rd ⟨a24, n24, c24, lm (B + C)⟩ (by simp)
  rw [val_lm, val_lm, cmpI_add A B C]
  rintro e w25 ⟨rfl, hD⟩
  have hE28 := hE27.dr hD
  clear hE27
  clear hD
  go_wp2_with fail
  refine (cmp_any (la := lm A) (lb := lm B) ?_ ?_).mono ?_
  · exact hE28.rd ⟨a2, n2, c2, lm A⟩ (by simp)
  · exact hE28.rd ⟨a3, n3, c3, lm B⟩ (by simp)
  rw [val_lm, val_lm]
  rintro e w26 ⟨rfl, hD⟩
  have hE29 := hE28.dr hD
  clear hE28
  clear hD
  go_wp2_with fail
  refine (cmp_any (la := lm A) (lb := lm B) ?_ ?_).mono ?_
  · exact hE29.rd ⟨a2, n2, c2, lm A⟩ (by simp)
  · exact hE29.rd ⟨a3, n3, c3, lm B⟩ (by simp)
  rw [val_lm, val_lm]
  rintro e w27 ⟨rfl, hD⟩
  have hE30 := hE29.dr hD
  clear hE29
  clear hD
  go_wp2_with fail
  refine (cmp_any (la := lm B) (lb := lm A) ?_ ?_).mono ?_
  · exact hE30.rd ⟨a3, n3, c3, lm B⟩ (by simp)
  · exact hE30.rd ⟨a2, n2, c2, lm A⟩ (by simp)
  rw [val_lm, val_lm, cmpI_swap A B]
  rintro e w28 ⟨rfl, hD⟩
  have hE31 := hE30.dr hD
  clear hE30
  clear hD
  go_wp2_with fail
  refine (cmp_any (la := lm A) (lb := lm B) ?_ ?_).mono ?_
  · exact hE31.rd ⟨a2, n2, c2, lm A⟩ (by simp)
  · exact hE31.rd ⟨a3, n3, c3, lm B⟩ (by simp)
  rw [val_lm, val_lm]
  rintro e w29 ⟨rfl, hD⟩
  have hE32 := hE31.dr hD
  clear hE31
  clear hD
  go_wp2_with fail
  refine (lsame_any (la := lm A) (lb := lm B) ?_ ?_).mono ?_
  · exact hE32.rd ⟨a2, n2, c2, lm A⟩ (by simp)
  · exact hE32.rd ⟨a3, n3, c3, lm B⟩ (by simp)
  rw [same_cmp]
  rintro e w30 ⟨rfl, hD⟩
  have hE33 := hE32.dr hD
  clear hE32
  clear hD
  go_wp2_with fail
  refine (subP_any (la := lm A) (lb := lm B) ?_ ?_ ?_).mono ?_
  · exact hE33.rd ⟨a2, n2, c2, lm A⟩ (by simp)
  · exact hE33.rd ⟨a3, n3, c3, lm B⟩ (by simp)
  · omega
  rw [val_lm, val_lm, le_cmp]
  rintro e w31 ⟨a31, n31, c31, rfl, hO, hB⟩
  have hE34 := hE33.note hO hB
  clear hE33
  clear hO hB
  go_wp2_with fail
  refine (lsame_true (l := lm A) ?_ ?_).mono ?_
  · exact hE34.rd ⟨a22, n22, c22, lm A⟩ (by simp)
  · exact hE34.rd ⟨a2, n2, c2, lm A⟩ (by simp)
  rintro e w32 ⟨rfl, hD⟩
  have hE35 := hE34.dr hD
  clear hE34
  clear hD
  go_wp2_with fail
  refine (cmp_any (la := lm A) (lb := lm B) ?_ ?_).mono ?_
  · exact hE35.rd ⟨a2, n2, c2, lm A⟩ (by simp)
  · exact hE35.rd ⟨a3, n3, c3, lm B⟩ (by simp)
  rw [val_lm, val_lm]
  rintro e w33 ⟨rfl, hD⟩
  have hE36 := hE35.dr hD
  clear hE35
  clear hD
  go_wp2
  go_ret
  exact ⟨rfl, hE36.bel⟩

end Go.Proofs.Ytknpacegaclcgaa
