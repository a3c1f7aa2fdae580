/- THE WALK OF credencelaw01.NatGcd: it divides both, and what is left has no common divisor. -/
import Derived.Test.YtknpacegaclcgaaWC
import Derived.Test.YtknpacegaclcgaaPm
namespace Go.Proofs.Ytknpacegaclcgaa
set_option linter.unusedVariables false
open Go.ChangeShapes Go.WideShapes Go.ChangeAt Go.RowKit Go.NatP

set_option maxRecDepth 100000 in
set_option maxHeartbeats 4000000 in
theorem natGcd_walk {w : World} {x : Option Addr} {nx cx : Nat} {lx : List Nat} (hx : Rd w x nx cx lx) {y : Option Addr} {ny cy : Nat} {ly : List Nat} (hy : Rd w y ny cy ly) {z : Option Addr} {nz cz : Nat} {lz : List Nat} (hz : Rd w z nz cz lz) :
    Calls Try.prog 13 #[.slice x nx cx, .slice y ny cy, .slice z nz cz] w fun e w' => e = .returned (.bool true) ∧ Below w.heap.size w w' := by
  go_enter Try.func13, Try.ntmps13
  have hE0 := ev_start w
  have hE1 := hE0.old hx
  clear hE0
  have hE2 := hE1.old hy
  clear hE1
  have hE3 := hE2.old hz
  clear hE2
  go_wp2_with fail
  refine (alive_any ).mono ?_
  rintro e w1 ⟨rfl, hB⟩
  have hE4 := hE3.step hB
  clear hE3
  clear hB
  go_wp2_with fail
  refine (cut_any (hE4.rd ⟨x, nx, cx, lx⟩ (by simp)) 30 (by decide) (by decide)).mono ?_
  rintro e w' ⟨nx', rfl, rfl, x1, x2⟩
  rw [show Int.toNat 30 = 30 from rfl] at x1 x2
  have A_sz : Hid (Sz (val (lx.take 30)) 30) := x2.lim.sz (by rw [x2.len]; exact x1)
  generalize lx.take 30 = A_l at x2 A_sz
  go_wp2_with fail
  refine (norm_any (l := A_l) x2 (by omega)).mono ?_
  generalize val A_l = A at A_sz ⊢
  rintro e w2 ⟨a2, n2, c2, rfl, hO, hB⟩
  have hn2 : n2 ≤ 30 := by have := hO.len; have := A_sz.out.len; omega
  have hE5 := hE4.note hO hB
  clear hE4
  clear hO hB x2
  go_wp2_with fail
  refine (cut_any (hE5.rd ⟨y, ny, cy, ly⟩ (by simp)) 30 (by decide) (by decide)).mono ?_
  rintro e w' ⟨ny', rfl, rfl, y1, y2⟩
  rw [show Int.toNat 30 = 30 from rfl] at y1 y2
  have B_sz : Hid (Sz (val (ly.take 30)) 30) := y2.lim.sz (by rw [y2.len]; exact y1)
  generalize ly.take 30 = B_l at y2 B_sz
  go_wp2_with fail
  refine (norm_any (l := B_l) y2 (by omega)).mono ?_
  generalize val B_l = B at B_sz ⊢
  rintro e w3 ⟨a3, n3, c3, rfl, hO, hB⟩
  have hn3 : n3 ≤ 30 := by have := hO.len; have := B_sz.out.len; omega
  have hE6 := hE5.note hO hB
  clear hE5
  clear hO hB y2
  go_wp2_with fail
  refine (cut_any (hE6.rd ⟨z, nz, cz, lz⟩ (by simp)) 10 (by decide) (by decide)).mono ?_
  rintro e w' ⟨nz', rfl, rfl, z1, z2⟩
  rw [show Int.toNat 10 = 10 from rfl] at z1 z2
  have C_sz : Hid (Sz (val (lz.take 10)) 10) := z2.lim.sz (by rw [z2.len]; exact z1)
  generalize lz.take 10 = C_l at z2 C_sz
  go_wp2_with fail
  refine (norm_any (l := C_l) z2 (by omega)).mono ?_
  generalize val C_l = C at C_sz ⊢
  rintro e w4 ⟨a4, n4, c4, rfl, hO, hB⟩
  have hn4 : n4 ≤ 10 := by have := hO.len; have := C_sz.out.len; omega
  have hE7 := hE6.note hO hB
  clear hE6
  clear hO hB z2
  go_wp2_with fail
  refine (gcd_any (la := lm A) (lb := lm B) (K := 30) ?_ ?_ ?_ ?_ ?_).mono ?_
  · exact hE7.rd ⟨a2, n2, c2, lm A⟩ (by simp)
  · exact hE7.rd ⟨a3, n3, c3, lm B⟩ (by simp)
  · omega
  · omega
  · omega
  rw [val_lm, val_lm]
  rintro e w5 ⟨a5, n5, c5, rfl, hO, hB⟩
  have hn5 : n5 ≤ 30 := by have := hO.len; have := (szGcd A_sz.out B_sz.out).len; omega
  have hE8 := hE7.note hO hB
  clear hE7
  clear hO hB
  rcases (show (A = 0 ∧ B = 0) ∨ A ≠ 0 ∨ (A = 0 ∧ B ≠ 0) by omega) with ⟨h0, h1⟩ | h0 | ⟨h0, h1⟩
  · skip
    obtain rfl : n2 = 0 := by have h2 := (show (lm A).length = n2 from (hE8.rd ⟨a2, n2, c2, lm A⟩ (by simp)).len); rw [h0] at h2; exact h2.symm
    obtain rfl : n3 = 0 := by have h2 := (show (lm B).length = n3 from (hE8.rd ⟨a3, n3, c3, lm B⟩ (by simp)).len); rw [h1] at h2; exact h2.symm
    obtain rfl : n5 = 0 := by have h2 := (show (lm (Nat.gcd A B)).length = n5 from (hE8.rd ⟨a5, n5, c5, lm (Nat.gcd A B)⟩ (by simp)).len); rw [h0, h1] at h2; exact h2.symm
    clear h0 h1
    go_wp2
    go_ret
    exact ⟨rfl, hE8.bel⟩
  · skip
    have hpn2 : 0 < n2 := by rw [← (show (lm A).length = n2 from (hE8.rd ⟨a2, n2, c2, lm A⟩ (by simp)).len)]; exact List.length_pos_iff.2 fun e => h0 (lm_eq_nil.1 e)
    have hbn2 : ((n2 : Int) == 0) = false := beq_eq_false_iff_ne.2 (by omega)
    have hG := hid (Nat.gcd_pos_of_pos_left B (Nat.pos_of_ne_zero h0))
    have hC := hid (Nat.gcd_div_gcd_div_gcd_of_pos_left (m := B) (Nat.pos_of_ne_zero h0))
    clear h0
    have hG0 := hid (Nat.pos_iff_ne_zero.1 hG.out)
    have hRA : Hid (lm (dvR A (Nat.gcd A B)) = []) := by show _ = _; rw [dvR_pos hG0.out, Nat.mod_eq_zero_of_dvd (Nat.gcd_dvd_left A B)]; rfl
    have hRB : Hid (lm (dvR B (Nat.gcd A B)) = []) := by show _ = _; rw [dvR_pos hG0.out, Nat.mod_eq_zero_of_dvd (Nat.gcd_dvd_right A B)]; rfl
    go_wp2_with fail
    refine (divmod_any (la := lm A) (lb := lm (Nat.gcd A B)) ?_ ?_ ?_).mono ?_
    · exact hE8.rd ⟨a2, n2, c2, lm A⟩ (by simp)
    · exact hE8.rd ⟨a5, n5, c5, lm (Nat.gcd A B)⟩ (by simp)
    · omega
    rw [val_lm, val_lm, hRA.out, dvE_pos hG0.out]
    have hz1 := hid (szDiv (Nat.gcd A B) A_sz.out)
    rintro e w6 ⟨a6, n6, c6, b6, m6, d6, rfl, hO, hO2, hDf, hB⟩
    obtain rfl : m6 = 0 := hO2.len.symm
    have hE9 := hE8.note2 hO hO2 hB
    clear hE8
    clear hO hO2 hDf hB
    have hpn := (show (lm (A / Nat.gcd A B)).length = n6 from (hE9.rd ⟨a6, n6, c6, lm (A / Nat.gcd A B)⟩ (by simp)).len)
    have hpl : n6 ≤ 30 := by have := hz1.out.len; omega
    clear hpn
    go_wp2_with fail
    refine (divmod_any (la := lm B) (lb := lm (Nat.gcd A B)) ?_ ?_ ?_).mono ?_
    · exact hE9.rd ⟨a3, n3, c3, lm B⟩ (by simp)
    · exact hE9.rd ⟨a5, n5, c5, lm (Nat.gcd A B)⟩ (by simp)
    · omega
    rw [val_lm, val_lm, hRB.out, dvE_pos hG0.out]
    have hz2 := hid (szDiv (Nat.gcd A B) B_sz.out)
    rintro e w7 ⟨a7, n7, c7, b7, m7, d7, rfl, hO, hO2, hDf, hB⟩
    obtain rfl : m7 = 0 := hO2.len.symm
    have hE10 := hE9.note2 hO hO2 hB
    clear hE9
    clear hO hO2 hDf hB
    have hqn := (show (lm (B / Nat.gcd A B)).length = n7 from (hE10.rd ⟨a7, n7, c7, lm (B / Nat.gcd A B)⟩ (by simp)).len)
    have hql : n7 ≤ 30 := by have := hz2.out.len; omega
    clear hqn
    go_wp2_with fail
    refine (gcd_any (la := lm (A / Nat.gcd A B)) (lb := lm (B / Nat.gcd A B)) (K := 30) ?_ ?_ ?_ ?_ ?_).mono ?_
    · exact hE10.rd ⟨a6, n6, c6, lm (A / Nat.gcd A B)⟩ (by simp)
    · exact hE10.rd ⟨a7, n7, c7, lm (B / Nat.gcd A B)⟩ (by simp)
    · omega
    · omega
    · omega
    rw [val_lm, val_lm, hC.out, show lm 1 = [1] from rfl]
    rintro e w8 ⟨a8, n8, c8, rfl, hO, hB⟩
    have hE11 := hE10.note hO hB
    clear hE10
    clear hO hB
    have hE12 := hE11.lit [1] (by decide) (by simp [maxLen]) #[.int .u32 1] rfl (w8.heap.size) 1 (by simp) rfl
    clear hE11
    go_wp2_with fail
    refine (lsame_true (l := [1]) ?_ ?_).mono ?_
    · exact hE12.rd ⟨a8, n8, c8, [1]⟩ (by simp)
    · exact hE12.rd ⟨(some ⟨w8.heap.size, 0, none⟩), 1, 1, [1]⟩ (by simp)
    rintro e w9 ⟨rfl, hD⟩
    have hE13 := hE12.dr hD
    clear hE12
    clear hD
    go_wp2_with fail
    refine (mul_any (la := lm C) (lb := lm A) ?_ ?_ ?_ ?_).mono ?_
    · exact hE13.rd ⟨a4, n4, c4, lm C⟩ (by simp)
    · exact hE13.rd ⟨a2, n2, c2, lm A⟩ (by simp)
    · omega
    · omega
    rw [val_lm, val_lm]
    rintro e w10 ⟨a10, n10, c10, rfl, hO, hB⟩
    have hn10 : n10 ≤ 40 := by have := hO.len; have := ((C_sz.out.mul A_sz.out)).len; omega
    have hE14 := hE13.note hO hB
    clear hE13
    clear hO hB
    go_wp2_with fail
    refine (mul_any (la := lm C) (lb := lm B) ?_ ?_ ?_ ?_).mono ?_
    · exact hE14.rd ⟨a4, n4, c4, lm C⟩ (by simp)
    · exact hE14.rd ⟨a3, n3, c3, lm B⟩ (by simp)
    · omega
    · omega
    rw [val_lm, val_lm]
    rintro e w11 ⟨a11, n11, c11, rfl, hO, hB⟩
    have hn11 : n11 ≤ 40 := by have := hO.len; have := ((C_sz.out.mul B_sz.out)).len; omega
    have hE15 := hE14.note hO hB
    clear hE14
    clear hO hB
    go_wp2_with fail
    refine (gcd_any (la := lm (C * A)) (lb := lm (C * B)) (K := 40) ?_ ?_ ?_ ?_ ?_).mono ?_
    · exact hE15.rd ⟨a10, n10, c10, lm (C * A)⟩ (by simp)
    · exact hE15.rd ⟨a11, n11, c11, lm (C * B)⟩ (by simp)
    · omega
    · omega
    · omega
    rw [val_lm, val_lm, Nat.gcd_mul_left]
    rintro e w12 ⟨a12, n12, c12, rfl, hO, hB⟩
    have hE16 := hE15.note hO hB
    clear hE15
    clear hO hB
    go_wp2_with fail
    refine (mul_any (la := lm C) (lb := lm (Nat.gcd A B)) ?_ ?_ ?_ ?_).mono ?_
    · exact hE16.rd ⟨a4, n4, c4, lm C⟩ (by simp)
    · exact hE16.rd ⟨a5, n5, c5, lm (Nat.gcd A B)⟩ (by simp)
    · omega
    · omega
    rw [val_lm, val_lm]
    rintro e w13 ⟨a13, n13, c13, rfl, hO, hB⟩
    have hn13 : n13 ≤ 40 := by have := hO.len; have := ((C_sz.out.mul (szGcd A_sz.out B_sz.out))).len; omega
    have hE17 := hE16.note hO hB
    clear hE16
    clear hO hB
    go_wp2_with fail
    refine (lsame_true (l := lm (C * Nat.gcd A B)) ?_ ?_).mono ?_
    · exact hE17.rd ⟨a12, n12, c12, lm (C * Nat.gcd A B)⟩ (by simp)
    · exact hE17.rd ⟨a13, n13, c13, lm (C * (Nat.gcd A B))⟩ (by simp)
    rintro e w14 ⟨rfl, hD⟩
    have hE18 := hE17.dr hD
    clear hE17
    clear hD
    go_wp2_with fail
    refine (add_any (la := lm A) (lb := lm B) ?_ ?_ ?_ ?_).mono ?_
    · exact hE18.rd ⟨a2, n2, c2, lm A⟩ (by simp)
    · exact hE18.rd ⟨a3, n3, c3, lm B⟩ (by simp)
    · omega
    · omega
    rw [val_lm, val_lm]
    rintro e w15 ⟨a15, n15, c15, rfl, hO, hB⟩
    have hn15 : n15 ≤ 61 := by have := hO.len; have := ((szAdd A_sz.out B_sz.out)).len; omega
    have hE19 := hE18.note hO hB
    clear hE18
    clear hO hB
    go_wp2_with fail
    refine (gcd_any (la := lm A) (lb := lm (A + B)) (K := 61) ?_ ?_ ?_ ?_ ?_).mono ?_
    · exact hE19.rd ⟨a2, n2, c2, lm A⟩ (by simp)
    · exact hE19.rd ⟨a15, n15, c15, lm (A + B)⟩ (by simp)
    · omega
    · omega
    · omega
    rw [val_lm, val_lm, gcd_sum]
    rintro e w16 ⟨a16, n16, c16, rfl, hO, hB⟩
    have hE20 := hE19.note hO hB
    clear hE19
    clear hO hB
    go_wp2_with fail
    refine (lsame_true (l := lm (Nat.gcd A B)) ?_ ?_).mono ?_
    · exact hE20.rd ⟨a16, n16, c16, lm (Nat.gcd A B)⟩ (by simp)
    · exact hE20.rd ⟨a5, n5, c5, lm (Nat.gcd A B)⟩ (by simp)
    rintro e w17 ⟨rfl, hD⟩
    have hE21 := hE20.dr hD
    clear hE20
    clear hD
    go_wp2_with fail
    refine (gcd_any (la := lm B) (lb := lm A) (K := 61) ?_ ?_ ?_ ?_ ?_).mono ?_
    · exact hE21.rd ⟨a3, n3, c3, lm B⟩ (by simp)
    · exact hE21.rd ⟨a2, n2, c2, lm A⟩ (by simp)
    · omega
    · omega
    · omega
    rw [val_lm, val_lm, Nat.gcd_comm B A]
    rintro e w18 ⟨a18, n18, c18, rfl, hO, hB⟩
    have hE22 := hE21.note hO hB
    clear hE21
    clear hO hB
    go_wp2_with fail
    refine (lsame_true (l := lm (Nat.gcd A B)) ?_ ?_).mono ?_
    · exact hE22.rd ⟨a18, n18, c18, lm (Nat.gcd A B)⟩ (by simp)
    · exact hE22.rd ⟨a5, n5, c5, lm (Nat.gcd A B)⟩ (by simp)
    rintro e w19 ⟨rfl, hD⟩
    have hE23 := hE22.dr hD
    clear hE22
    clear hD
    go_wp2
    go_ret
    exact ⟨rfl, hE23.bel⟩
  · skip
    obtain rfl : n2 = 0 := by have h2 := (show (lm A).length = n2 from (hE8.rd ⟨a2, n2, c2, lm A⟩ (by simp)).len); rw [h0] at h2; exact h2.symm
    have hpn3 : 0 < n3 := by rw [← (show (lm B).length = n3 from (hE8.rd ⟨a3, n3, c3, lm B⟩ (by simp)).len)]; exact List.length_pos_iff.2 fun e => h1 (lm_eq_nil.1 e)
    have hbn3 : ((n3 : Int) == 0) = false := beq_eq_false_iff_ne.2 (by omega)
    have hG := hid (Nat.gcd_pos_of_pos_right A (Nat.pos_of_ne_zero h1))
    have hC := hid (Nat.gcd_div_gcd_div_gcd_of_pos_right (n := A) (Nat.pos_of_ne_zero h1))
    clear h0 h1
    have hG0 := hid (Nat.pos_iff_ne_zero.1 hG.out)
    have hRA : Hid (lm (dvR A (Nat.gcd A B)) = []) := by show _ = _; rw [dvR_pos hG0.out, Nat.mod_eq_zero_of_dvd (Nat.gcd_dvd_left A B)]; rfl
    have hRB : Hid (lm (dvR B (Nat.gcd A B)) = []) := by show _ = _; rw [dvR_pos hG0.out, Nat.mod_eq_zero_of_dvd (Nat.gcd_dvd_right A B)]; rfl
    go_wp2_with fail
    refine (divmod_any (la := lm A) (lb := lm (Nat.gcd A B)) ?_ ?_ ?_).mono ?_
    · exact hE8.rd ⟨a2, 0, c2, lm A⟩ (by simp)
    · exact hE8.rd ⟨a5, n5, c5, lm (Nat.gcd A B)⟩ (by simp)
    · omega
    rw [val_lm, val_lm, hRA.out, dvE_pos hG0.out]
    have hz1 := hid (szDiv (Nat.gcd A B) A_sz.out)
    rintro e w6 ⟨a6, n6, c6, b6, m6, d6, rfl, hO, hO2, hDf, hB⟩
    obtain rfl : m6 = 0 := hO2.len.symm
    have hE9 := hE8.note2 hO hO2 hB
    clear hE8
    clear hO hO2 hDf hB
    have hpn := (show (lm (A / Nat.gcd A B)).length = n6 from (hE9.rd ⟨a6, n6, c6, lm (A / Nat.gcd A B)⟩ (by simp)).len)
    have hpl : n6 ≤ 30 := by have := hz1.out.len; omega
    clear hpn
    go_wp2_with fail
    refine (divmod_any (la := lm B) (lb := lm (Nat.gcd A B)) ?_ ?_ ?_).mono ?_
    · exact hE9.rd ⟨a3, n3, c3, lm B⟩ (by simp)
    · exact hE9.rd ⟨a5, n5, c5, lm (Nat.gcd A B)⟩ (by simp)
    · omega
    rw [val_lm, val_lm, hRB.out, dvE_pos hG0.out]
    have hz2 := hid (szDiv (Nat.gcd A B) B_sz.out)
    rintro e w7 ⟨a7, n7, c7, b7, m7, d7, rfl, hO, hO2, hDf, hB⟩
    obtain rfl : m7 = 0 := hO2.len.symm
    have hE10 := hE9.note2 hO hO2 hB
    clear hE9
    clear hO hO2 hDf hB
    have hqn := (show (lm (B / Nat.gcd A B)).length = n7 from (hE10.rd ⟨a7, n7, c7, lm (B / Nat.gcd A B)⟩ (by simp)).len)
    have hql : n7 ≤ 30 := by have := hz2.out.len; omega
    clear hqn
    go_wp2_with fail
    refine (gcd_any (la := lm (A / Nat.gcd A B)) (lb := lm (B / Nat.gcd A B)) (K := 30) ?_ ?_ ?_ ?_ ?_).mono ?_
    · exact hE10.rd ⟨a6, n6, c6, lm (A / Nat.gcd A B)⟩ (by simp)
    · exact hE10.rd ⟨a7, n7, c7, lm (B / Nat.gcd A B)⟩ (by simp)
    · omega
    · omega
    · omega
    rw [val_lm, val_lm, hC.out, show lm 1 = [1] from rfl]
    rintro e w8 ⟨a8, n8, c8, rfl, hO, hB⟩
    have hE11 := hE10.note hO hB
    clear hE10
    clear hO hB
    have hE12 := hE11.lit [1] (by decide) (by simp [maxLen]) #[.int .u32 1] rfl (w8.heap.size) 1 (by simp) rfl
    clear hE11
    go_wp2_with fail
    refine (lsame_true (l := [1]) ?_ ?_).mono ?_
    · exact hE12.rd ⟨a8, n8, c8, [1]⟩ (by simp)
    · exact hE12.rd ⟨(some ⟨w8.heap.size, 0, none⟩), 1, 1, [1]⟩ (by simp)
    rintro e w9 ⟨rfl, hD⟩
    have hE13 := hE12.dr hD
    clear hE12
    clear hD
    go_wp2_with fail
    refine (mul_any (la := lm C) (lb := lm A) ?_ ?_ ?_ ?_).mono ?_
    · exact hE13.rd ⟨a4, n4, c4, lm C⟩ (by simp)
    · exact hE13.rd ⟨a2, 0, c2, lm A⟩ (by simp)
    · omega
    · omega
    rw [val_lm, val_lm]
    rintro e w10 ⟨a10, n10, c10, rfl, hO, hB⟩
    have hn10 : n10 ≤ 40 := by have := hO.len; have := ((C_sz.out.mul A_sz.out)).len; omega
    have hE14 := hE13.note hO hB
    clear hE13
    clear hO hB
    go_wp2_with fail
    refine (mul_any (la := lm C) (lb := lm B) ?_ ?_ ?_ ?_).mono ?_
    · exact hE14.rd ⟨a4, n4, c4, lm C⟩ (by simp)
    · exact hE14.rd ⟨a3, n3, c3, lm B⟩ (by simp)
    · omega
    · omega
    rw [val_lm, val_lm]
    rintro e w11 ⟨a11, n11, c11, rfl, hO, hB⟩
    have hn11 : n11 ≤ 40 := by have := hO.len; have := ((C_sz.out.mul B_sz.out)).len; omega
    have hE15 := hE14.note hO hB
    clear hE14
    clear hO hB
    go_wp2_with fail
    refine (gcd_any (la := lm (C * A)) (lb := lm (C * B)) (K := 40) ?_ ?_ ?_ ?_ ?_).mono ?_
    · exact hE15.rd ⟨a10, n10, c10, lm (C * A)⟩ (by simp)
    · exact hE15.rd ⟨a11, n11, c11, lm (C * B)⟩ (by simp)
    · omega
    · omega
    · omega
    rw [val_lm, val_lm, Nat.gcd_mul_left]
    rintro e w12 ⟨a12, n12, c12, rfl, hO, hB⟩
    have hE16 := hE15.note hO hB
    clear hE15
    clear hO hB
    go_wp2_with fail
    refine (mul_any (la := lm C) (lb := lm (Nat.gcd A B)) ?_ ?_ ?_ ?_).mono ?_
    · exact hE16.rd ⟨a4, n4, c4, lm C⟩ (by simp)
    · exact hE16.rd ⟨a5, n5, c5, lm (Nat.gcd A B)⟩ (by simp)
    · omega
    · omega
    rw [val_lm, val_lm]
    rintro e w13 ⟨a13, n13, c13, rfl, hO, hB⟩
    have hn13 : n13 ≤ 40 := by have := hO.len; have := ((C_sz.out.mul (szGcd A_sz.out B_sz.out))).len; omega
    have hE17 := hE16.note hO hB
    clear hE16
    clear hO hB
    go_wp2_with fail
    refine (lsame_true (l := lm (C * Nat.gcd A B)) ?_ ?_).mono ?_
    · exact hE17.rd ⟨a12, n12, c12, lm (C * Nat.gcd A B)⟩ (by simp)
    · exact hE17.rd ⟨a13, n13, c13, lm (C * (Nat.gcd A B))⟩ (by simp)
    rintro e w14 ⟨rfl, hD⟩
    have hE18 := hE17.dr hD
    clear hE17
    clear hD
    go_wp2_with fail
    refine (add_any (la := lm A) (lb := lm B) ?_ ?_ ?_ ?_).mono ?_
    · exact hE18.rd ⟨a2, 0, c2, lm A⟩ (by simp)
    · exact hE18.rd ⟨a3, n3, c3, lm B⟩ (by simp)
    · omega
    · omega
    rw [val_lm, val_lm]
    rintro e w15 ⟨a15, n15, c15, rfl, hO, hB⟩
    have hn15 : n15 ≤ 61 := by have := hO.len; have := ((szAdd A_sz.out B_sz.out)).len; omega
    have hE19 := hE18.note hO hB
    clear hE18
    clear hO hB
    go_wp2_with fail
    refine (gcd_any (la := lm A) (lb := lm (A + B)) (K := 61) ?_ ?_ ?_ ?_ ?_).mono ?_
    · exact hE19.rd ⟨a2, 0, c2, lm A⟩ (by simp)
    · exact hE19.rd ⟨a15, n15, c15, lm (A + B)⟩ (by simp)
    · omega
    · omega
    · omega
    rw [val_lm, val_lm, gcd_sum]
    rintro e w16 ⟨a16, n16, c16, rfl, hO, hB⟩
    have hE20 := hE19.note hO hB
    clear hE19
    clear hO hB
    go_wp2_with fail
    refine (lsame_true (l := lm (Nat.gcd A B)) ?_ ?_).mono ?_
    · exact hE20.rd ⟨a16, n16, c16, lm (Nat.gcd A B)⟩ (by simp)
    · exact hE20.rd ⟨a5, n5, c5, lm (Nat.gcd A B)⟩ (by simp)
    rintro e w17 ⟨rfl, hD⟩
    have hE21 := hE20.dr hD
    clear hE20
    clear hD
    go_wp2_with fail
    refine (gcd_any (la := lm B) (lb := lm A) (K := 61) ?_ ?_ ?_ ?_ ?_).mono ?_
    · exact hE21.rd ⟨a3, n3, c3, lm B⟩ (by simp)
    · exact hE21.rd ⟨a2, 0, c2, lm A⟩ (by simp)
    · omega
    · omega
    · omega
    rw [val_lm, val_lm, Nat.gcd_comm B A]
    rintro e w18 ⟨a18, n18, c18, rfl, hO, hB⟩
    have hE22 := hE21.note hO hB
    clear hE21
    clear hO hB
    go_wp2_with fail
    refine (lsame_true (l := lm (Nat.gcd A B)) ?_ ?_).mono ?_
    · exact hE22.rd ⟨a18, n18, c18, lm (Nat.gcd A B)⟩ (by simp)
    · exact hE22.rd ⟨a5, n5, c5, lm (Nat.gcd A B)⟩ (by simp)
    rintro e w19 ⟨rfl, hD⟩
    have hE23 := hE22.dr hD
    clear hE22
    clear hD
    go_wp2
    go_ret
    exact ⟨rfl, hE23.bel⟩

end Go.Proofs.Ytknpacegaclcgaa
