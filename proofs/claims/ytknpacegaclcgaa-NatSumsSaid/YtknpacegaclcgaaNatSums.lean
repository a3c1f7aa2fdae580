/- THE WALK OF credencelaw01.NatSums: sums, differences, products, comparisons, bits: as the reference tells them. -/
import Derived.Test.YtknpacegaclcgaaWf
import Derived.Test.YtknpacegaclcgaaWk
namespace Go.Proofs.Ytknpacegaclcgaa
set_option linter.unusedVariables false
open Go.ChangeShapes Go.WideShapes Go.ChangeAt Go.RowKit Go.NatP

set_option maxRecDepth 100000 in
set_option maxHeartbeats 4000000 in
theorem natSums_walk {w : World} {x : Option Addr} {nx cx : Nat} {lx : List Nat} (hx : Rd w x nx cx lx) {y : Option Addr} {ny cy : Nat} {ly : List Nat} (hy : Rd w y ny cy ly) :
    Calls Try.prog 7 #[.slice x nx cx, .slice y ny cy] w fun e w' => e = .returned (.bool true) ∧ Below w.heap.size w w' := by
  go_enter Try.func7, Try.ntmps7
  go_wp2_with fail
  refine (cut_any hx 200 (by decide) (by decide)).mono ?_
  rintro e w' ⟨nx', rfl, rfl, hnx', hnx''⟩
  rw [show Int.toNat 200 = 200 from rfl] at hnx' hnx''
  generalize lx.take 200 = X at hnx''
  clear hx
  go_wp2_with fail
  refine (cut_any hy 200 (by decide) (by decide)).mono ?_
  rintro e w' ⟨ny', rfl, rfl, hny', hny''⟩
  rw [show Int.toNat 200 = 200 from rfl] at hny' hny''
  generalize ly.take 200 = Y at hny''
  clear hy
  have X_len := hid hnx''.len
  have X_lim := hid hnx''.lim
  have X_sz : Hid (Sz (val X) 200) := hnx''.lim.sz (by rw [X_len.out]; omega)
  have Y_len := hid hny''.len
  have Y_lim := hid hny''.lim
  have Y_sz : Hid (Sz (val Y) 200) := hny''.lim.sz (by rw [Y_len.out]; omega)
  have hE0 := ev_start w
  have hE1 := hE0.old hnx''
  clear hE0
  have hE2 := hE1.old hny''
  clear hE1
  go_wp2_with fail
  refine (roomy_any (l := X) ?_ ?_).mono ?_
  · exact hE2.rd ⟨x, nx', cx, X⟩ (by simp)
  · omega
  rintro e w1 ⟨a1, c1, rfl, hO, hB⟩
  have hE3 := hE2.note hO hB
  clear hE2
  clear hO hB
  have hE4 := hE3.pre (a := a1) (n := nx' + 5) (c := c1) (l := X ++ List.replicate 5 77) (by simp) (k := nx') (by omega) (l' := X) (List.take_left' X_len.out)
  clear hE3
  go_wp2_with fail
  refine (roomy_any (l := Y) ?_ ?_).mono ?_
  · exact hE4.rd ⟨y, ny', cy, Y⟩ (by simp)
  · omega
  rintro e w2 ⟨a2, c2, rfl, hO, hB⟩
  have hE5 := hE4.note hO hB
  clear hE4
  clear hO hB
  have hE6 := hE5.pre (a := a2) (n := ny' + 5) (c := c2) (l := Y ++ List.replicate 5 77) (by simp) (k := ny') (by omega) (l' := Y) (List.take_left' Y_len.out)
  clear hE5
  go_wp2_with fail
  refine (uint_any (l := X) ?_).mono ?_
  · exact hE6.rd ⟨a1, nx', c1, X⟩ (by simp)
  rintro e w3 ⟨rfl, hB⟩
  have hE7 := hE6.step hB
  clear hE6
  clear hB
  go_wp2_with fail
  refine (ruint_any (l := X) ?_ ?_).mono ?_
  · exact hE7.rd ⟨x, nx', cx, X⟩ (by simp)
  · omega
  rintro e w4 ⟨rfl, hB⟩
  have hE8 := hE7.step hB
  clear hE7
  clear hB
  go_wp2_with fail
  refine (bits_any (l := X) ?_ ?_).mono ?_
  · exact hE8.rd ⟨a1, nx', c1, X⟩ (by simp)
  · omega
  rintro e w5 ⟨rfl, hD⟩
  have hE9 := hE8.dr hD
  clear hE8
  clear hD
  go_wp2_with fail
  refine (rbits_any (l := X) ?_ ?_).mono ?_
  · exact hE9.rd ⟨x, nx', cx, X⟩ (by simp)
  · omega
  rintro e w6 ⟨rfl, hB⟩
  have hE10 := hE9.step hB
  clear hE9
  clear hB
  go_wp2_with fail
  refine (cmp_any (la := X) (lb := Y) ?_ ?_).mono ?_
  · exact hE10.rd ⟨a1, nx', c1, X⟩ (by simp)
  · exact hE10.rd ⟨a2, ny', c2, Y⟩ (by simp)
  rintro e w7 ⟨rfl, hD⟩
  have hE11 := hE10.dr hD
  clear hE10
  clear hD
  go_wp2_with fail
  refine (rcmp_any (la := X) (lb := Y) ?_ ?_).mono ?_
  · exact hE11.rd ⟨x, nx', cx, X⟩ (by simp)
  · exact hE11.rd ⟨y, ny', cy, Y⟩ (by simp)
  rintro e w8 ⟨rfl, hD⟩
  have hE12 := hE11.dr hD
  clear hE11
  clear hD
  go_wp2_with fail
  refine (cmp_any (la := Y) (lb := X) ?_ ?_).mono ?_
  · exact hE12.rd ⟨a2, ny', c2, Y⟩ (by simp)
  · exact hE12.rd ⟨a1, nx', c1, X⟩ (by simp)
  rintro e w9 ⟨rfl, hD⟩
  have hE13 := hE12.dr hD
  clear hE12
  clear hD
  go_wp2_with fail
  refine (rcmp_any (la := Y) (lb := X) ?_ ?_).mono ?_
  · exact hE13.rd ⟨y, ny', cy, Y⟩ (by simp)
  · exact hE13.rd ⟨x, nx', cx, X⟩ (by simp)
  rintro e w10 ⟨rfl, hD⟩
  have hE14 := hE13.dr hD
  clear hE13
  clear hD
  go_wp2_with fail
  refine (cmp_any (la := X) (lb := X) ?_ ?_).mono ?_
  · exact hE14.rd ⟨a1, nx', c1, X⟩ (by simp)
  · exact hE14.rd ⟨a1, nx', c1, X⟩ (by simp)
  rw [cmpI_eq rfl]
  rintro e w11 ⟨rfl, hD⟩
  have hE15 := hE14.dr hD
  clear hE14
  clear hD
  go_wp2_with fail
  refine (sub_any (la := X) (lb := Y) ?_ ?_ ?_).mono ?_
  · exact hE15.rd ⟨a1, nx', c1, X⟩ (by simp)
  · exact hE15.rd ⟨a2, ny', c2, Y⟩ (by simp)
  · omega
  rintro e w12 ⟨a12, n12, c12, rfl, hO, hB⟩
  have hE16 := hE15.tell hO hB (by have := hO.len; have := ((Sz.mono X_sz.out (Nat.sub_le _ (val Y)) (Nat.le_refl 200))).len; omega)
  clear hE15
  clear hO hB
  go_wp2_with fail
  refine (sub_any (la := Y) (lb := X) ?_ ?_ ?_).mono ?_
  · exact hE16.rd ⟨a2, ny', c2, Y⟩ (by simp)
  · exact hE16.rd ⟨a1, nx', c1, X⟩ (by simp)
  · omega
  rintro e w13 ⟨a13, n13, c13, rfl, hO, hB⟩
  have hE17 := hE16.tell hO hB (by have := hO.len; have := ((Sz.mono Y_sz.out (Nat.sub_le _ (val X)) (Nat.le_refl 200))).len; omega)
  clear hE16
  clear hO hB
  go_wp2_with fail
  refine (rsub_any (la := X) (lb := Y) ?_ ?_ ?_).mono ?_
  · exact hE17.rd ⟨x, nx', cx, X⟩ (by simp)
  · exact hE17.rd ⟨y, ny', cy, Y⟩ (by simp)
  · omega
  rintro e w14 ⟨a14, n14, c14, rfl, hO, hB⟩
  have hE18 := hE17.note hO hB
  clear hE17
  clear hO hB
  go_wp2_with fail
  refine (rsub_any (la := Y) (lb := X) ?_ ?_ ?_).mono ?_
  · exact hE18.rd ⟨y, ny', cy, Y⟩ (by simp)
  · exact hE18.rd ⟨x, nx', cx, X⟩ (by simp)
  · omega
  rintro e w15 ⟨a15, n15, c15, rfl, hO, hB⟩
  have hE19 := hE18.note hO hB
  clear hE18
  clear hO hB
  go_wp2_with fail
  refine (rnorm_any (l := X) ?_ ?_).mono ?_
  · exact hE19.rd ⟨x, nx', cx, X⟩ (by simp)
  · omega
  rintro e w16 ⟨a16, n16, c16, rfl, hO, hB⟩
  have hE20 := hE19.note hO hB
  clear hE19
  clear hO hB
  go_wp2_with fail
  refine (radd_any (la := X) (lb := Y) ?_ ?_ ?_ ?_).mono ?_
  · exact hE20.rd ⟨x, nx', cx, X⟩ (by simp)
  · exact hE20.rd ⟨y, ny', cy, Y⟩ (by simp)
  · omega
  · omega
  rintro e w17 ⟨a17, n17, c17, rfl, hO, hB⟩
  have hE21 := hE20.note hO hB
  clear hE20
  clear hO hB
  go_wp2_with fail
  refine (rmul_any (la := X) (lb := Y) ?_ ?_ ?_ ?_).mono ?_
  · exact hE21.rd ⟨x, nx', cx, X⟩ (by simp)
  · exact hE21.rd ⟨y, ny', cy, Y⟩ (by simp)
  · omega
  · omega
  rintro e w18 ⟨a18, n18, c18, rfl, hO, hB⟩
  have hE22 := hE21.note hO hB
  clear hE21
  clear hO hB
  go_wp2_with fail
  refine (norm_any (l := X) ?_ ?_).mono ?_
  · exact hE22.rd ⟨a1, nx', c1, X⟩ (by simp)
  · omega
  rintro e w19 ⟨a19, n19, c19, rfl, hO, hB⟩
  have hE23 := hE22.tell hO hB (by have := hO.len; have := (X_sz.out).len; omega)
  clear hE22
  clear hO hB
  go_wp2_with fail
  refine (norm_any (l := X) ?_ ?_).mono ?_
  · exact hE23.rd ⟨a1, nx', c1, X⟩ (by simp)
  · omega
  rintro e w20 ⟨a20, n20, c20, rfl, hO, hB⟩
  have hE24 := hE23.tell hO hB (by have := hO.len; have := (X_sz.out).len; omega)
  clear hE23
  clear hO hB
  go_wp2_with fail
  refine (add_any (la := X) (lb := Y) ?_ ?_ ?_ ?_).mono ?_
  · exact hE24.rd ⟨a1, nx', c1, X⟩ (by simp)
  · exact hE24.rd ⟨a2, ny', c2, Y⟩ (by simp)
  · omega
  · omega
  rintro e w21 ⟨a21, n21, c21, rfl, hO, hB⟩
  have hE25 := hE24.tell hO hB (by have := hO.len; have := ((X_sz.out.add Y_sz.out)).len; omega)
  clear hE24
  clear hO hB
  go_wp2_with fail
  refine (add_any (la := Y) (lb := X) ?_ ?_ ?_ ?_).mono ?_
  · exact hE25.rd ⟨a2, ny', c2, Y⟩ (by simp)
  · exact hE25.rd ⟨a1, nx', c1, X⟩ (by simp)
  · omega
  · omega
  rw [show val Y + val X = val X + val Y from Nat.add_comm _ _]
  rintro e w22 ⟨a22, n22, c22, rfl, hO, hB⟩
  have hE26 := hE25.tell hO hB (by have := hO.len; have := ((X_sz.out.add Y_sz.out)).len; omega)
  clear hE25
  clear hO hB
  go_wp2_with fail
  refine (mul_any (la := X) (lb := Y) ?_ ?_ ?_ ?_).mono ?_
  · exact hE26.rd ⟨a1, nx', c1, X⟩ (by simp)
  · exact hE26.rd ⟨a2, ny', c2, Y⟩ (by simp)
  · omega
  · omega
  rintro e w23 ⟨a23, n23, c23, rfl, hO, hB⟩
  have hE27 := hE26.tell hO hB (by have := hO.len; have := ((X_sz.out.mul Y_sz.out)).len; omega)
  clear hE26
  clear hO hB
  go_wp2_with fail
  refine (mul_any (la := Y) (lb := X) ?_ ?_ ?_ ?_).mono ?_
  · exact hE27.rd ⟨a2, ny', c2, Y⟩ (by simp)
  · exact hE27.rd ⟨a1, nx', c1, X⟩ (by simp)
  · omega
  · omega
  rw [show val Y * val X = val X * val Y from Nat.mul_comm _ _]
  rintro e w24 ⟨a24, n24, c24, rfl, hO, hB⟩
  have hE28 := hE27.tell hO hB (by have := hO.len; have := ((X_sz.out.mul Y_sz.out)).len; omega)
  clear hE27
  clear hO hB
  go_wp2_with fail
  refine (add_any (la := X) (lb := []) ?_ ?_ ?_ ?_).mono ?_
  · exact hE28.rd ⟨a1, nx', c1, X⟩ (by simp)
  · exact rd_nil _ _ _ (by simp [maxLen])
  · omega
  · omega
  rw [show val X + val [] = val X from rfl]
  rintro e w25 ⟨a25, n25, c25, rfl, hO, hB⟩
  have hE29 := hE28.tell hO hB (by have := hO.len; have := (X_sz.out).len; omega)
  clear hE28
  clear hO hB
  go_wp2_with fail
  refine (mul_any (la := X) (lb := [1]) ?_ ?_ ?_ ?_).mono ?_
  · exact (hE29.alloc _).rd ⟨a1, nx', c1, X⟩ (by simp)
  · exact rd_one rfl (by decide)
  · omega
  · omega
  rw [show val X * val [1] = val X from Nat.mul_one _]
  rintro e w26 ⟨a26, n26, c26, rfl, hO, hB⟩
  have hO := hO.mono (show _ ≤ _ from (by simp : w25.heap.size ≤ (w25.alloc _).heap.size))
  have hB := ((Below.refl _ _).alloc (Nat.le_refl _) _).next hB
  have hE30 := hE29.tell hO hB (by have := hO.len; have := (X_sz.out).len; omega)
  clear hE29
  clear hO hB
  go_wp2_with fail
  refine (add_any (la := X) (lb := Y) ?_ ?_ ?_ ?_).mono ?_
  · exact hE30.rd ⟨a1, nx', c1, X⟩ (by simp)
  · exact hE30.rd ⟨a2, ny', c2, Y⟩ (by simp)
  · omega
  · omega
  rintro e w27 ⟨a27, n27, c27, rfl, hO, hB⟩
  have hE31 := hE30.tell hO hB (by have := hO.len; have := ((X_sz.out.add Y_sz.out)).len; omega)
  clear hE30
  clear hO hB
  go_wp2_with fail
  refine (mul_any (la := X) (lb := Y) ?_ ?_ ?_ ?_).mono ?_
  · exact hE31.rd ⟨a1, nx', c1, X⟩ (by simp)
  · exact hE31.rd ⟨a2, ny', c2, Y⟩ (by simp)
  · omega
  · omega
  rintro e w28 ⟨a28, n28, c28, rfl, hO, hB⟩
  have hE32 := hE31.tell hO hB (by have := hO.len; have := ((X_sz.out.mul Y_sz.out)).len; omega)
  clear hE31
  clear hO hB
  go_wp2_with fail
  refine (hE32.apart_call (K := 12) [9, 8, 7, 6, 11, 10, 5, 4, 3, 2, 1, 0] [⟨a16, n16, c16, lm (val X)⟩, ⟨a16, n16, c16, lm (val X)⟩, ⟨a17, n17, c17, lm (val X + val Y)⟩, ⟨a17, n17, c17, lm (val X + val Y)⟩, ⟨a14, n14, c14, lm (val X - val Y)⟩, ⟨a15, n15, c15, lm (val Y - val X)⟩, ⟨a18, n18, c18, lm (val X * val Y)⟩, ⟨a18, n18, c18, lm (val X * val Y)⟩, ⟨a16, n16, c16, lm (val X)⟩, ⟨a16, n16, c16, lm (val X)⟩, ⟨a17, n17, c17, lm (val X + val Y)⟩, ⟨a18, n18, c18, lm (val X * val Y)⟩] rfl rfl (by decide) (by decide) (fun i hi => by simp at hi ⊢; omega) rfl rfl (by simp) rfl).mono ?_
  rintro e wA ⟨rfl, hE33⟩
  clear hE32
  go_wp2_with fail
  refine (kept_any (l := X) ?_ ?_).mono ?_
  · exact hE33.rd ⟨a1, nx' + 5, c1, X ++ List.replicate 5 77⟩ (by simp)
  · exact hE33.rd ⟨x, nx', cx, X⟩ (by simp)
  rintro e w29 ⟨rfl, hD⟩
  have hE34 := hE33.dr hD
  clear hE33
  clear hD
  go_wp2_with fail
  refine (kept_any (l := Y) ?_ ?_).mono ?_
  · exact hE34.rd ⟨a2, ny' + 5, c2, Y ++ List.replicate 5 77⟩ (by simp)
  · exact hE34.rd ⟨y, ny', cy, Y⟩ (by simp)
  rintro e w30 ⟨rfl, hD⟩
  have hE35 := hE34.dr hD
  clear hE34
  clear hD
  go_wp2_with fail
  refine (add_any (la := X) (lb := Y) ?_ ?_ ?_ ?_).mono ?_
  · exact hE35.rd ⟨a1, nx', c1, X⟩ (by simp)
  · exact hE35.rd ⟨a2, ny', c2, Y⟩ (by simp)
  · omega
  · omega
  rintro e w31 ⟨a31, n31, c31, rfl, hO, hB⟩
  have hE36 := hE35.note hO hB
  clear hE35
  clear hO hB
  go_wp2_with fail
  refine (same_true (l := lm (val X + val Y)) ?_ ?_).mono ?_
  · exact hE36.rd ⟨a31, n31, c31, lm (val X + val Y)⟩ (by simp)
  · exact hE36.rd ⟨a17, n17, c17, lm (val X + val Y)⟩ (by simp)
  rintro e w32 ⟨rfl, hD⟩
  have hE37 := hE36.dr hD
  clear hE36
  clear hD
  go_wp2
  go_ret
  exact ⟨rfl, hE37.bel⟩

end Go.Proofs.Ytknpacegaclcgaa
