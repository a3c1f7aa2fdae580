/- THE WALK OF credencelaw01.NatDivides: a number is what was divided out of it and what was left, and in one way alone. -/
import Derived.Test.YtknpacegaclcgaaWC
namespace Go.Proofs.Ytknpacegaclcgaa
set_option linter.unusedVariables false
open Go.ChangeShapes Go.WideShapes Go.ChangeAt Go.RowKit Go.NatP

set_option maxRecDepth 100000 in
set_option maxHeartbeats 4000000 in
theorem natDivides_walk {w : World} {x : Option Addr} {nx cx : Nat} {lx : List Nat} (hx : Rd w x nx cx lx) {y : Option Addr} {ny cy : Nat} {ly : List Nat} (hy : Rd w y ny cy ly) {z : Option Addr} {nz cz : Nat} {lz : List Nat} (hz : Rd w z nz cz lz) :
    Calls Try.prog 10 #[.slice x nx cx, .slice y ny cy, .slice z nz cz] w fun e w' => e = .returned (.bool true) ∧ Below w.heap.size w w' := by
  go_enter Try.func10, Try.ntmps10
  have hE0 := ev_start w
  have hE1 := hE0.old hx
  clear hE0
  have hE2 := hE1.old hy
  clear hE1
  have hE3 := hE2.old hz
  clear hE2
  go_wp2_with fail
  refine (alive_any ).mono ?_
  rintro e w1 ⟨rfl, hB⟩
  have hE4 := hE3.step hB
  clear hE3
  clear hB
  go_wp2_with fail
  refine (cut_any (hE4.rd ⟨x, nx, cx, lx⟩ (by simp)) 60 (by decide) (by decide)).mono ?_
  rintro e w' ⟨nx', rfl, rfl, x1, x2⟩
  rw [show Int.toNat 60 = 60 from rfl] at x1 x2
  have A_sz : Hid (Sz (val (lx.take 60)) 60) := x2.lim.sz (by rw [x2.len]; exact x1)
  generalize lx.take 60 = A_l at x2 A_sz
  go_wp2_with fail
  refine (norm_any (l := A_l) x2 (by omega)).mono ?_
  generalize val A_l = A at A_sz ⊢
  rintro e w2 ⟨a2, n2, c2, rfl, hO, hB⟩
  have hn2 : n2 ≤ 60 := by have := hO.len; have := A_sz.out.len; omega
  have hE5 := hE4.note hO hB
  clear hE4
  clear hO hB x2
  go_wp2_with fail
  refine (cut_any (hE5.rd ⟨y, ny, cy, ly⟩ (by simp)) 60 (by decide) (by decide)).mono ?_
  rintro e w' ⟨ny', rfl, rfl, y1, y2⟩
  rw [show Int.toNat 60 = 60 from rfl] at y1 y2
  have B_sz : Hid (Sz (val (ly.take 60)) 60) := y2.lim.sz (by rw [y2.len]; exact y1)
  generalize ly.take 60 = B_l at y2 B_sz
  go_wp2_with fail
  refine (norm_any (l := B_l) y2 (by omega)).mono ?_
  generalize val B_l = B at B_sz ⊢
  rintro e w3 ⟨a3, n3, c3, rfl, hO, hB⟩
  have hn3 : n3 ≤ 60 := by have := hO.len; have := B_sz.out.len; omega
  have hE6 := hE5.note hO hB
  clear hE5
  clear hO hB y2
  go_wp2_with fail
  refine (cut_any (hE6.rd ⟨z, nz, cz, lz⟩ (by simp)) 60 (by decide) (by decide)).mono ?_
  rintro e w' ⟨nz', rfl, rfl, z1, z2⟩
  rw [show Int.toNat 60 = 60 from rfl] at z1 z2
  have C_sz : Hid (Sz (val (lz.take 60)) 60) := z2.lim.sz (by rw [z2.len]; exact z1)
  generalize lz.take 60 = C_l at z2 C_sz
  go_wp2_with fail
  refine (norm_any (l := C_l) z2 (by omega)).mono ?_
  generalize val C_l = C at C_sz ⊢
  rintro e w4 ⟨a4, n4, c4, rfl, hO, hB⟩
  have hn4 : n4 ≤ 60 := by have := hO.len; have := C_sz.out.len; omega
  have hE7 := hE6.note hO hB
  clear hE6
  clear hO hB z2
  by_cases h0 : B = 0
  · skip
    obtain rfl : n3 = 0 := by have h2 := (show (lm B).length = n3 from (hE7.rd ⟨a3, n3, c3, lm B⟩ (by simp)).len); rw [h0] at h2; exact h2.symm
    have h0' := hid h0
    clear h0
    go_wp2_with fail
    refine (divmod_any (la := lm A) (lb := lm B) ?_ ?_ ?_).mono ?_
    · exact hE7.rd ⟨a2, n2, c2, lm A⟩ (by simp)
    · exact hE7.rd ⟨a3, 0, c3, lm B⟩ (by simp)
    · omega
    rw [val_lm, val_lm, show lm (A / B) = [] by rw [h0'.out, Nat.div_zero]; rfl, show lm (dvR A B) = [] by rw [h0'.out]; rfl, show dvE B = 11 by rw [h0'.out]; rfl]
    rintro e w5 ⟨a5, n5, c5, b5, m5, d5, rfl, hO, hO2, hDf, hB⟩
    obtain rfl : n5 = 0 := hO.len.symm
    obtain rfl : m5 = 0 := hO2.len.symm
    have hE8 := hE7.note2 hO hO2 hB
    clear hE7
    clear hO hO2 hDf hB
    go_wp2
    go_ret
    exact ⟨rfl, hE8.bel⟩
  · skip
    have hpn3 : 0 < n3 := by rw [← (show (lm B).length = n3 from (hE7.rd ⟨a3, n3, c3, lm B⟩ (by simp)).len)]; exact List.length_pos_iff.2 fun e => h0 (lm_eq_nil.1 e)
    have hbn3 : ((n3 : Int) == 0) = false := beq_eq_false_iff_ne.2 (by omega)
    have hM := hid (Nat.mod_lt A (Nat.pos_of_ne_zero h0))
    have hD := hid (Nat.div_add_mod' A B)
    have hD2 : Hid ((C * B + A % B) / B = C) := by show _ = _; rw [Nat.mul_comm, Nat.mul_add_div (Nat.pos_of_ne_zero h0), Nat.div_eq_of_lt hM.out, Nat.add_zero]
    have hM2 : Hid ((C * B + A % B) % B = A % B) := by show _ = _; rw [Nat.mul_comm, Nat.mul_add_mod, Nat.mod_eq_of_lt hM.out]
    have hR := hid (fun v => dvR_pos (v := v) h0)
    have hE := hid (dvE_pos h0)
    clear h0
    go_wp2_with fail
    refine (divmod_any (la := lm A) (lb := lm B) ?_ ?_ ?_).mono ?_
    · exact hE7.rd ⟨a2, n2, c2, lm A⟩ (by simp)
    · exact hE7.rd ⟨a3, n3, c3, lm B⟩ (by simp)
    · omega
    rw [val_lm, val_lm, hR.out, hE.out]
    rintro e w5 ⟨a5, n5, c5, b5, m5, d5, rfl, hO, hO2, hDf, hB⟩
    have hn5 : n5 ≤ 60 := by have := hO.len; have := ((szDiv B A_sz.out)).len; omega
    have hm5 : m5 ≤ 60 := by have := hO2.len; have := ((szMod B A_sz.out)).len; omega
    have hE8 := hE7.note2 hO hO2 hB
    clear hE7
    clear hO hO2 hDf hB
    go_wp2_with fail
    refine (cmp_any (la := lm (A % B)) (lb := lm B) ?_ ?_).mono ?_
    · exact hE8.rd ⟨b5, m5, d5, lm (A % B)⟩ (by simp)
    · exact hE8.rd ⟨a3, n3, c3, lm B⟩ (by simp)
    rw [val_lm, val_lm, cmpI_lt hM.out]
    rintro e w6 ⟨rfl, hD⟩
    have hE9 := hE8.dr hD
    clear hE8
    clear hD
    go_wp2_with fail
    refine (mul_any (la := lm (A / B)) (lb := lm B) ?_ ?_ ?_ ?_).mono ?_
    · exact hE9.rd ⟨a5, n5, c5, lm (A / B)⟩ (by simp)
    · exact hE9.rd ⟨a3, n3, c3, lm B⟩ (by simp)
    · omega
    · omega
    rw [val_lm, val_lm]
    rintro e w7 ⟨a7, n7, c7, rfl, hO, hB⟩
    have hn7 : n7 ≤ 120 := by have := hO.len; have := (((szDiv B A_sz.out).mul B_sz.out)).len; omega
    have hE10 := hE9.note hO hB
    clear hE9
    clear hO hB
    go_wp2_with fail
    refine (add_any (la := lm ((A / B) * B)) (lb := lm (A % B)) ?_ ?_ ?_ ?_).mono ?_
    · exact hE10.rd ⟨a7, n7, c7, lm ((A / B) * B)⟩ (by simp)
    · exact hE10.rd ⟨b5, m5, d5, lm (A % B)⟩ (by simp)
    · omega
    · omega
    rw [val_lm, val_lm, hD.out]
    rintro e w8 ⟨a8, n8, c8, rfl, hO, hB⟩
    have hn8 : n8 ≤ 60 := by have := hO.len; have := (A_sz.out).len; omega
    have hE11 := hE10.note hO hB
    clear hE10
    clear hO hB
    go_wp2_with fail
    refine (lsame_true (l := lm (A)) ?_ ?_).mono ?_
    · exact hE11.rd ⟨a8, n8, c8, lm (A)⟩ (by simp)
    · exact hE11.rd ⟨a2, n2, c2, lm A⟩ (by simp)
    rintro e w9 ⟨rfl, hD⟩
    have hE12 := hE11.dr hD
    clear hE11
    clear hD
    go_wp2_with fail
    refine (mul_any (la := lm C) (lb := lm B) ?_ ?_ ?_ ?_).mono ?_
    · exact hE12.rd ⟨a4, n4, c4, lm C⟩ (by simp)
    · exact hE12.rd ⟨a3, n3, c3, lm B⟩ (by simp)
    · omega
    · omega
    rw [val_lm, val_lm]
    rintro e w10 ⟨a10, n10, c10, rfl, hO, hB⟩
    have hn10 : n10 ≤ 120 := by have := hO.len; have := ((C_sz.out.mul B_sz.out)).len; omega
    have hE13 := hE12.note hO hB
    clear hE12
    clear hO hB
    go_wp2_with fail
    refine (add_any (la := lm (C * B)) (lb := lm (A % B)) ?_ ?_ ?_ ?_).mono ?_
    · exact hE13.rd ⟨a10, n10, c10, lm (C * B)⟩ (by simp)
    · exact hE13.rd ⟨b5, m5, d5, lm (A % B)⟩ (by simp)
    · omega
    · omega
    rw [val_lm, val_lm]
    rintro e w11 ⟨a11, n11, c11, rfl, hO, hB⟩
    have hn11 : n11 ≤ 181 := by have := hO.len; have := ((szAdd (C_sz.out.mul B_sz.out) (szMod B A_sz.out))).len; omega
    have hE14 := hE13.note hO hB
    clear hE13
    clear hO hB
    go_wp2_with fail
    refine (divmod_any (la := lm ((C * B) + (A % B))) (lb := lm B) ?_ ?_ ?_).mono ?_
    · exact hE14.rd ⟨a11, n11, c11, lm ((C * B) + (A % B))⟩ (by simp)
    · exact hE14.rd ⟨a3, n3, c3, lm B⟩ (by simp)
    · omega
    rw [val_lm, val_lm, hR.out, hE.out, hD2.out, hM2.out]
    rintro e w12 ⟨a12, n12, c12, b12, m12, d12, rfl, hO, hO2, hDf, hB⟩
    have hn12 : n12 ≤ 60 := by have := hO.len; have := (C_sz.out).len; omega
    have hm12 : m12 ≤ 60 := by have := hO2.len; have := ((szMod B A_sz.out)).len; omega
    have hE15 := hE14.note2 hO hO2 hB
    clear hE14
    clear hO hO2 hDf hB
    go_wp2_with fail
    refine (lsame_true (l := lm (C)) ?_ ?_).mono ?_
    · exact hE15.rd ⟨a12, n12, c12, lm (C)⟩ (by simp)
    · exact hE15.rd ⟨a4, n4, c4, lm C⟩ (by simp)
    rintro e w13 ⟨rfl, hD⟩
    have hE16 := hE15.dr hD
    clear hE15
    clear hD
    go_wp2_with fail
    refine (lsame_true (l := lm (A % B)) ?_ ?_).mono ?_
    · exact hE16.rd ⟨b12, m12, d12, lm (A % B)⟩ (by simp)
    · exact hE16.rd ⟨b5, m5, d5, lm (A % B)⟩ (by simp)
    rintro e w14 ⟨rfl, hD⟩
    have hE17 := hE16.dr hD
    clear hE16
    clear hD
    go_wp2
    go_ret
    exact ⟨rfl, hE17.bel⟩

end Go.Proofs.Ytknpacegaclcgaa
