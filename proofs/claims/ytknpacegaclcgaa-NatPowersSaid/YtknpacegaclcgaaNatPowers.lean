/- THE WALK OF credencelaw01.NatPowers: powers and shifts add up. -/
import Derived.Test.YtknpacegaclcgaaWD
namespace Go.Proofs.Ytknpacegaclcgaa
set_option linter.unusedVariables false
open Go.ChangeShapes Go.WideShapes Go.ChangeAt Go.RowKit Go.NatP

set_option maxRecDepth 100000 in
set_option maxHeartbeats 4000000 in
theorem natPowers_walk {w : World} {x : Option Addr} {nx cx : Nat} {lx : List Nat} (hx : Rd w x nx cx lx) (m : Int) (hmlo : -9223372036854775808 ≤ m) (hmhi : m ≤ 9223372036854775807) (n : Int) (hnlo : -9223372036854775808 ≤ n) (hnhi : n ≤ 9223372036854775807) :
    Calls Try.prog 16 #[.slice x nx cx, .int .i64 m, .int .i64 n] w fun e w' => e = .returned (.bool true) ∧ Below w.heap.size w w' := by
  go_enter Try.func16, Try.ntmps16
  have hE0 := ev_start w
  have hE1 := hE0.old hx
  clear hE0
  go_wp2_with fail
  refine (alive_any ).mono ?_
  rintro e w1 ⟨rfl, hB⟩
  have hE2 := hE1.step hB
  clear hE1
  clear hB
  go_wp2_with fail
  refine (cut_any (hE2.rd ⟨x, nx, cx, lx⟩ (by simp)) 20 (by decide) (by decide)).mono ?_
  rintro e w' ⟨nx', rfl, rfl, x1, x2⟩
  rw [show Int.toNat 20 = 20 from rfl] at x1 x2
  have A_sz : Hid (Sz (val (lx.take 20)) 20) := x2.lim.sz (by rw [x2.len]; exact x1)
  generalize lx.take 20 = A_l at x2 A_sz
  go_wp2_with fail
  refine (norm_any (l := A_l) x2 (by omega)).mono ?_
  generalize val A_l = A at A_sz ⊢
  rintro e w2 ⟨a2, n2, c2, rfl, hO, hB⟩
  have hn2 : n2 ≤ 20 := by have := hO.len; have := A_sz.out.len; omega
  have hE3 := hE2.note hO hB
  clear hE2
  clear hO hB x2
  go_wp2_with fail
  refine (bound_any m hmlo hmhi 100 (by omega) (by omega)).mono ?_
  rintro e w' ⟨i, hib, rfl, rfl⟩
  go_wp2_with fail
  refine (bound_any n hnlo hnhi 100 (by omega) (by omega)).mono ?_
  rintro e w' ⟨k, hkb, rfl, rfl⟩
  obtain ⟨K, hK1, hK2⟩ : ∃ K : Nat, 4200 ≤ K ∧ K ≤ 5000 := ⟨4200, by omega, by omega⟩
  have hp1 := hid (pw_okN A_sz.out (i) (by omega) (by omega))
  have hzp1 := hid (szPow (K := K) (e := i) A_sz.out (by omega))
  have hp2 := hid (pw_okN A_sz.out (k) (by omega) (by omega))
  have hzp2 := hid (szPow (K := K) (e := k) A_sz.out (by omega))
  have hp3 := hid (pw_okN A_sz.out (i + k) (by omega) (by omega))
  have hzp3 := hid (szPow (K := K) (e := i + k) A_sz.out (by omega))
  rw [Int.natCast_add] at hp3
  go_wp2_with fail
  refine (pow_any (l := lm A) (n := (i : Int)) ?_ ?_).mono ?_
  · exact hE3.rd ⟨a2, n2, c2, lm A⟩ (by simp)
  · omega
  rw [val_lm, hp1.out.1, hp1.out.2]
  rintro e w3 ⟨a3, n3, c3, rfl, hO, hB⟩
  have hn3 : n3 ≤ K := by have := hO.len; have := (hzp1.out).len; omega
  have hE4 := hE3.note hO hB
  clear hE3
  clear hO hB
  go_wp2_with fail
  refine (pow_any (l := lm A) (n := (k : Int)) ?_ ?_).mono ?_
  · exact hE4.rd ⟨a2, n2, c2, lm A⟩ (by simp)
  · omega
  rw [val_lm, hp2.out.1, hp2.out.2]
  rintro e w4 ⟨a4, n4, c4, rfl, hO, hB⟩
  have hn4 : n4 ≤ K := by have := hO.len; have := (hzp2.out).len; omega
  have hE5 := hE4.note hO hB
  clear hE4
  clear hO hB
  go_wp2_with fail
  refine (pow_any (l := lm A) (n := (i : Int) + (k : Int)) ?_ ?_).mono ?_
  · exact hE5.rd ⟨a2, n2, c2, lm A⟩ (by simp)
  · omega
  rw [val_lm, hp3.out.1, hp3.out.2]
  rintro e w5 ⟨a5, n5, c5, rfl, hO, hB⟩
  have hn5 : n5 ≤ K := by have := hO.len; have := (hzp3.out).len; omega
  have hE6 := hE5.note hO hB
  clear hE5
  clear hO hB
  go_wp2_with fail
  refine (mul_any (la := lm (A ^ i)) (lb := lm (A ^ k)) ?_ ?_ ?_ ?_).mono ?_
  · exact hE6.rd ⟨a3, n3, c3, lm (A ^ i)⟩ (by simp)
  · exact hE6.rd ⟨a4, n4, c4, lm (A ^ k)⟩ (by simp)
  · omega
  · omega
  rw [val_lm, val_lm, ← Nat.pow_add]
  rintro e w6 ⟨a6, n6, c6, rfl, hO, hB⟩
  have hn6 : n6 ≤ K := by have := hO.len; have := (hzp3.out).len; omega
  have hE7 := hE6.note hO hB
  clear hE6
  clear hO hB
  go_wp2_with fail
  refine (lsame_true (l := lm (A ^ (i + k))) ?_ ?_).mono ?_
  · exact hE7.rd ⟨a6, n6, c6, lm (A ^ (i + k))⟩ (by simp)
  · exact hE7.rd ⟨a5, n5, c5, lm (A ^ (i + k))⟩ (by simp)
  rintro e w7 ⟨rfl, hD⟩
  have hE8 := hE7.dr hD
  clear hE7
  clear hD
  go_wp2_with fail
  refine (bound_any m hmlo hmhi 1000 (by omega) (by omega)).mono ?_
  rintro e w' ⟨j, hjb, rfl, rfl⟩
  go_wp2_with fail
  refine (bound_any n hnlo hnhi 1000 (by omega) (by omega)).mono ?_
  rintro e w' ⟨l, hlb, rfl, rfl⟩
  have hs1 := hid (sh_up A j (by omega))
  have hz1 := hid (szShl (K := K) (n := j) A_sz.out (by omega))
  have hs2 : Hid (shN (A * 2 ^ j) (l : Int) = A * 2 ^ (j + l) ∧ shE (l : Int) = 0) := by have h := sh_up (A * 2 ^ j) l (by omega); rw [Nat.mul_assoc, ← Nat.pow_add] at h; exact h
  have hz2 := hid (szShl (K := K) (n := j + l) A_sz.out (by omega))
  have hs3 := hid (sh_up A (j + l) (by omega))
  rw [Int.natCast_add] at hs3
  have hs4 := hid (sh_down A j (by omega))
  have hz4 := hid (szDiv (2 ^ j) A_sz.out)
  have hs5 : Hid (pwN (val [2]) (j : Int) = 2 ^ j ∧ pwE (val [2]) (j : Int) = 0) := by have h := pw_two 1 j (by omega) (by omega); rw [Nat.one_mul] at h; exact h
  have hz5 : Hid (Sz (2 ^ j) K) := by have h := szShl (v := 1) (k := 1) (K := K) (n := j) (show 1 < 4294967296 ^ 1 by decide) (by omega); rw [Nat.one_mul] at h; exact h
  have hs6 : Hid (shN (A * 2 ^ j) (-(j : Int)) = A ∧ shE (-(j : Int)) = 0) := by have h := sh_down (A * 2 ^ j) j (by omega); rw [Nat.mul_div_cancel _ (Nat.pow_pos (by decide))] at h; exact h
  go_wp2_with fail
  refine (shift_any (l := lm A) (n := (j : Int)) ?_ ?_ ?_ ?_).mono ?_
  · exact hE8.rd ⟨a2, n2, c2, lm A⟩ (by simp)
  · omega
  · omega
  · omega
  rw [val_lm, hs1.out.1, hs1.out.2]
  rintro e w8 ⟨a8, n8, c8, rfl, hO, hB⟩
  have hn8 : n8 ≤ K := by have := hO.len; have := (hz1.out).len; omega
  have hE9 := hE8.note hO hB
  clear hE8
  clear hO hB
  go_wp2_with fail
  refine (shift_any (l := lm (A * 2 ^ j)) (n := (l : Int)) ?_ ?_ ?_ ?_).mono ?_
  · exact hE9.rd ⟨a8, n8, c8, lm (A * 2 ^ j)⟩ (by simp)
  · omega
  · omega
  · omega
  rw [val_lm, hs2.out.1, hs2.out.2]
  rintro e w9 ⟨a9, n9, c9, rfl, hO, hB⟩
  have hn9 : n9 ≤ K := by have := hO.len; have := (hz2.out).len; omega
  have hE10 := hE9.note hO hB
  clear hE9
  clear hO hB
  go_wp2_with fail
  refine (shift_any (l := lm A) (n := (j : Int) + (l : Int)) ?_ ?_ ?_ ?_).mono ?_
  · exact hE10.rd ⟨a2, n2, c2, lm A⟩ (by simp)
  · omega
  · omega
  · omega
  rw [val_lm, hs3.out.1, hs3.out.2]
  rintro e w10 ⟨a10, n10, c10, rfl, hO, hB⟩
  have hn10 : n10 ≤ K := by have := hO.len; have := (hz2.out).len; omega
  have hE11 := hE10.note hO hB
  clear hE10
  clear hO hB
  go_wp2_with fail
  refine (shift_any (l := lm A) (n := -(j : Int)) ?_ ?_ ?_ ?_).mono ?_
  · exact hE11.rd ⟨a2, n2, c2, lm A⟩ (by simp)
  · omega
  · omega
  · omega
  rw [val_lm, hs4.out.1, hs4.out.2]
  rintro e w11 ⟨a11, n11, c11, rfl, hO, hB⟩
  have hn11 : n11 ≤ K := by have := hO.len; have := ((hz4.out.mono (Nat.le_refl _) (show 20 ≤ K by omega))).len; omega
  have hE12 := hE11.note hO hB
  clear hE11
  clear hO hB
  have hE13 := hE12.lit [2] (by decide) (by simp [maxLen]) #[.int .u32 2] rfl (w11.heap.size) 1 (by simp) rfl
  clear hE12
  go_wp2_with fail
  refine (pow_any (l := [2]) (n := (j : Int)) ?_ ?_).mono ?_
  · exact hE13.rd ⟨(some ⟨w11.heap.size, 0, none⟩), 1, 1, [2]⟩ (by simp)
  · omega
  rw [hs5.out.1, hs5.out.2]
  rintro e w12 ⟨a12, n12, c12, rfl, hO, hB⟩
  have hn12 : n12 ≤ K := by have := hO.len; have := (hz5.out).len; omega
  have hE14 := hE13.note hO hB
  clear hE13
  clear hO hB
  go_wp2_with fail
  refine (shift_any (l := lm (A * 2 ^ j)) (n := -(j : Int)) ?_ ?_ ?_ ?_).mono ?_
  · exact hE14.rd ⟨a8, n8, c8, lm (A * 2 ^ j)⟩ (by simp)
  · omega
  · omega
  · omega
  rw [val_lm, hs6.out.1, hs6.out.2]
  rintro e w13 ⟨a13, n13, c13, rfl, hO, hB⟩
  have hn13 : n13 ≤ 20 := by have := hO.len; have := (A_sz.out).len; omega
  have hE15 := hE14.note hO hB
  clear hE14
  clear hO hB
  go_wp2_with fail
  refine (lsame_true (l := lm (A * 2 ^ (j + l))) ?_ ?_).mono ?_
  · exact hE15.rd ⟨a9, n9, c9, lm (A * 2 ^ (j + l))⟩ (by simp)
  · exact hE15.rd ⟨a10, n10, c10, lm (A * 2 ^ (j + l))⟩ (by simp)
  rintro e w14 ⟨rfl, hD⟩
  have hE16 := hE15.dr hD
  clear hE15
  clear hD
  go_wp2_with fail
  refine (lsame_true (l := lm (A)) ?_ ?_).mono ?_
  · exact hE16.rd ⟨a13, n13, c13, lm (A)⟩ (by simp)
  · exact hE16.rd ⟨a2, n2, c2, lm A⟩ (by simp)
  rintro e w15 ⟨rfl, hD⟩
  have hE17 := hE16.dr hD
  clear hE16
  clear hD
  go_wp2_with fail
  refine (mul_any (la := lm A) (lb := lm (2 ^ j)) ?_ ?_ ?_ ?_).mono ?_
  · exact hE17.rd ⟨a2, n2, c2, lm A⟩ (by simp)
  · exact hE17.rd ⟨a12, n12, c12, lm (2 ^ j)⟩ (by simp)
  · omega
  · omega
  rw [val_lm, val_lm]
  rintro e w16 ⟨a16, n16, c16, rfl, hO, hB⟩
  have hn16 : n16 ≤ K := by have := hO.len; have := (hz1.out).len; omega
  have hE18 := hE17.note hO hB
  clear hE17
  clear hO hB
  go_wp2_with fail
  refine (lsame_true (l := lm (A * 2 ^ j)) ?_ ?_).mono ?_
  · exact hE18.rd ⟨a8, n8, c8, lm (A * 2 ^ j)⟩ (by simp)
  · exact hE18.rd ⟨a16, n16, c16, lm (A * 2 ^ j)⟩ (by simp)
  rintro e w17 ⟨rfl, hD⟩
  have hE19 := hE18.dr hD
  clear hE18
  clear hD
  go_wp2_with fail
  refine (divmod_any (la := lm A) (lb := lm (2 ^ j)) ?_ ?_ ?_).mono ?_
  · exact hE19.rd ⟨a2, n2, c2, lm A⟩ (by simp)
  · exact hE19.rd ⟨a12, n12, c12, lm (2 ^ j)⟩ (by simp)
  · omega
  rw [val_lm, val_lm, dvE_pos (Nat.pos_iff_ne_zero.1 (show 0 < 2 ^ j from Nat.pow_pos (by decide)))]
  rintro e w18 ⟨a18, n18, c18, b18, m18, d18, rfl, hO, hO2, hDf, hB⟩
  have hn18 : n18 ≤ 20 := by have := hO.len; have := (hz4.out).len; omega
  have hm18 : m18 ≤ 20 := by have := hO2.len; have := ((szR (2 ^ j) A_sz.out)).len; omega
  have hE20 := hE19.note2 hO hO2 hB
  clear hE19
  clear hO hO2 hDf hB
  have hbl := sz_nb_le A_sz.out
  have hs7 : Hid (lm (shN A (-(nb A : Int))) = [] ∧ shE (-(nb A : Int)) = 0) := by have h := sh_down A (nb A) (by omega); rw [div_nb] at h; exact ⟨by rw [h.1]; rfl, h.2⟩
  have hs8 : shE (1 - (nb A : Int)) = 0 := by rw [shE, if_pos (by omega)]
  have hs8' := hid hs8
  clear hs8
  have hs9 : Hid (A ≠ 0 → lm (shN A (1 - (nb A : Int))) = [1]) := fun h => by have h1 := nb_pos h; have h2 := sh_down A (nb A - 1) (by omega); rw [show -((nb A - 1 : Nat) : Int) = 1 - (nb A : Int) by omega, div_nb1 h] at h2; rw [h2.1]; rfl
  have hb0 : Hid (A = 0 → nb A = 0) := fun h => by rw [h]; rfl
  have hbp : Hid (A ≠ 0 → 0 < nb A) := nb_pos
  go_wp2_with fail
  refine (bits_any (l := lm A) ?_ ?_).mono ?_
  · exact hE20.rd ⟨a2, n2, c2, lm A⟩ (by simp)
  · omega
  rw [val_lm]
  generalize nb A = b at *
  rintro e w19 ⟨rfl, hD⟩
  have hE21 := hE20.dr hD
  clear hE20
  clear hD
  by_cases h0 : A = 0
  · skip
    have hbz := hb0.out h0
    subst hbz
    clear h0 hs9 hb0 hbp
    go_wp2_with fail
    refine (shift_any (l := lm A) (n := -((0 : Nat) : Int)) ?_ ?_ ?_ ?_).mono ?_
    · exact hE21.rd ⟨a2, n2, c2, lm A⟩ (by simp)
    · omega
    · omega
    · omega
    rw [val_lm, hs7.out.1, hs7.out.2]
    rintro e w20 ⟨a20, n20, c20, rfl, hO, hB⟩
    obtain rfl : n20 = 0 := hO.len.symm
    have hE22 := hE21.note hO hB
    clear hE21
    clear hO hB
    go_wp2_with fail
    refine (shift_any (l := lm A) (n := 1) ?_ ?_ ?_ ?_).mono ?_
    · exact hE22.rd ⟨a2, n2, c2, lm A⟩ (by simp)
    · omega
    · omega
    · omega
    rw [val_lm, show shE 1 = 0 from rfl]
    rintro e w21 ⟨a21, n21, c21, rfl, hO, hB⟩
    have hE23 := hE22.note hO hB
    clear hE22
    clear hO hB
    go_wp2_with fail
    refine (lsame_true (l := lm (A / 2 ^ j)) ?_ ?_).mono ?_
    · exact hE23.rd ⟨a18, n18, c18, lm (A / 2 ^ j)⟩ (by simp)
    · exact hE23.rd ⟨a11, n11, c11, lm (A / 2 ^ j)⟩ (by simp)
    rintro e w22 ⟨rfl, hD⟩
    have hE24 := hE23.dr hD
    clear hE23
    clear hD
    go_wp2
    go_ret
    exact ⟨rfl, hE24.bel⟩
  · skip
    have hbp' := hbp.out h0
    have hbq : ((b : Int) == 0) = false := beq_eq_false_iff_ne.2 (by omega)
    have hl1 := hid (hs9.out h0)
    clear h0 hs9 hb0 hbp
    go_wp2_with fail
    refine (shift_any (l := lm A) (n := -(b : Int)) ?_ ?_ ?_ ?_).mono ?_
    · exact hE21.rd ⟨a2, n2, c2, lm A⟩ (by simp)
    · omega
    · omega
    · omega
    rw [val_lm, hs7.out.1, hs7.out.2]
    rintro e w20 ⟨a20, n20, c20, rfl, hO, hB⟩
    obtain rfl : n20 = 0 := hO.len.symm
    have hE22 := hE21.note hO hB
    clear hE21
    clear hO hB
    go_wp2_with fail
    refine (shift_any (l := lm A) (n := 1 - (b : Int)) ?_ ?_ ?_ ?_).mono ?_
    · exact hE22.rd ⟨a2, n2, c2, lm A⟩ (by simp)
    · omega
    · omega
    · omega
    rw [val_lm, hl1.out, hs8'.out]
    rintro e w21 ⟨a21, n21, c21, rfl, hO, hB⟩
    have hE23 := hE22.note hO hB
    clear hE22
    clear hO hB
    go_wp2_with fail
    refine (lsame_true (l := lm (A / 2 ^ j)) ?_ ?_).mono ?_
    · exact hE23.rd ⟨a18, n18, c18, lm (A / 2 ^ j)⟩ (by simp)
    · exact hE23.rd ⟨a11, n11, c11, lm (A / 2 ^ j)⟩ (by simp)
    rintro e w22 ⟨rfl, hD⟩
    have hE24 := hE23.dr hD
    clear hE23
    clear hD
    have hE25 := hE24.lit [1] (by decide) (by simp [maxLen]) #[.int .u32 1] rfl (w22.heap.size) 1 (by simp) rfl
    clear hE24
    go_wp2_with fail
    refine (lsame_true (l := [1]) ?_ ?_).mono ?_
    · exact hE25.rd ⟨a21, n21, c21, [1]⟩ (by simp)
    · exact hE25.rd ⟨(some ⟨w22.heap.size, 0, none⟩), 1, 1, [1]⟩ (by simp)
    rintro e w23 ⟨rfl, hD⟩
    have hE26 := hE25.dr hD
    clear hE25
    clear hD
    go_wp2
    go_ret
    exact ⟨rfl, hE26.bel⟩

end Go.Proofs.Ytknpacegaclcgaa
