/- THE WALK OF credencelaw01.NatDiv: quotients, rests, common divisors: as the reference tells them. -/
import Derived.Test.YtknpacegaclcgaaWf
import Derived.Test.YtknpacegaclcgaaWz
namespace Go.Proofs.Ytknpacegaclcgaa
set_option linter.unusedVariables false
open Go.ChangeShapes Go.WideShapes Go.ChangeAt Go.RowKit Go.NatP
theorem gcd_sz {x y K : Nat} (hx : NatP.Sz x K) (hy : NatP.Sz y K) : NatP.Sz (Nat.gcd x y) K := by
  rcases Nat.eq_zero_or_pos x with h | h
  · subst h; rw [Nat.gcd_zero_left]; exact hy
  · exact hx.mono (Nat.gcd_le_left _ h) (Nat.le_refl _)

set_option maxRecDepth 100000 in
set_option maxHeartbeats 4000000 in
theorem natDiv_walk {w : World} {x : Option Addr} {nx cx : Nat} {lx : List Nat} (hx : Rd w x nx cx lx) {y : Option Addr} {ny cy : Nat} {ly : List Nat} (hy : Rd w y ny cy ly) :
    Calls Try.prog 8 #[.slice x nx cx, .slice y ny cy] w fun e w' => e = .returned (.bool true) ∧ Below w.heap.size w w' := by
  go_enter Try.func8, Try.ntmps8
  go_wp2_with fail
  refine (cut_any hx 200 (by decide) (by decide)).mono ?_
  rintro e w' ⟨nx', rfl, rfl, hnx', hnx''⟩
  rw [show Int.toNat 200 = 200 from rfl] at hnx' hnx''
  generalize lx.take 200 = X at hnx''
  clear hx
  go_wp2_with fail
  refine (cut_any hy 200 (by decide) (by decide)).mono ?_
  rintro e w' ⟨ny', rfl, rfl, hny', hny''⟩
  rw [show Int.toNat 200 = 200 from rfl] at hny' hny''
  generalize ly.take 200 = Y at hny''
  clear hy
  have X_len := hid hnx''.len
  have X_sz : Hid (Sz (val X) 200) := hnx''.lim.sz (by rw [X_len.out]; omega)
  have Y_len := hid hny''.len
  have Y_sz : Hid (Sz (val Y) 200) := hny''.lim.sz (by rw [Y_len.out]; omega)
  have hE0 := ev_start w
  have hE1 := hE0.old hnx''
  clear hE0
  have hE2 := hE1.old hny''
  clear hE1
  go_wp2_with fail
  refine (roomy_any (l := X) ?_ ?_).mono ?_
  · exact hE2.rd ⟨x, nx', cx, X⟩ (by simp)
  · omega
  rintro e w1 ⟨a1, c1, rfl, hO, hB⟩
  have hE3 := hE2.note hO hB
  clear hE2
  have hOA := hO
  have hBA := hB
  clear hO hB
  have hE4 := hE3.pre (a := a1) (n := nx' + 5) (c := c1) (l := X ++ List.replicate 5 77) (by simp) (k := nx') (by omega) (l' := X) (List.take_left' X_len.out)
  clear hE3
  go_wp2_with fail
  refine (roomy_any (l := Y) ?_ ?_).mono ?_
  · exact hE4.rd ⟨y, ny', cy, Y⟩ (by simp)
  · omega
  rintro e w2 ⟨a2, c2, rfl, hO, hB⟩
  have hE5 := hE4.note hO hB
  clear hE4
  have hOB := hO
  have hBB := hB
  clear hO hB
  have hE6 := hE5.pre (a := a2) (n := ny' + 5) (c := c2) (l := Y ++ List.replicate 5 77) (by simp) (k := ny') (by omega) (l' := Y) (List.take_left' Y_len.out)
  clear hE5
  have hDf0 := diff_of hOA hOB (Nat.le_refl _)
  have hOA2 := hOA.below hBB
  have hltA := hid hOA.lt'
  have hltB := hid hOB.lt'
  have hs0 := hBA.size
  clear hOA hBA hBB
  have hBel := hE6.bel
  have hE7 := ev_start w2
  have hE8 := hE7.old (hE6.rd ⟨x, nx', cx, X⟩ (by simp))
  clear hE7
  have hE9 := hE8.old (hE6.rd ⟨y, ny', cy, Y⟩ (by simp))
  clear hE8
  have hE10 := hE9.old (hE6.rd ⟨a1, nx' + 5, c1, X ++ List.replicate 5 77⟩ (by simp))
  clear hE9
  have hE11 := hE10.old (hE6.rd ⟨a1, nx', c1, X⟩ (by simp))
  clear hE10
  have hE12 := hE11.old (hE6.rd ⟨a2, ny' + 5, c2, Y ++ List.replicate 5 77⟩ (by simp))
  clear hE11
  have hE13 := hE12.old (hE6.rd ⟨a2, ny', c2, Y⟩ (by simp))
  clear hE12
  clear hE6
  go_wp2_with fail
  refine (divmod_any (la := X) (lb := Y) ?_ ?_ ?_).mono ?_
  · exact hE13.rd ⟨a1, nx', c1, X⟩ (by simp)
  · exact hE13.rd ⟨a2, ny', c2, Y⟩ (by simp)
  · omega
  rintro e w3 ⟨a3, n3, c3, b3, m3, d3, rfl, hO, hO2, hDf, hB⟩
  have hE14 := hE13.tell2 hO hO2 hDf hB (by have := hO.len; have := (X_sz.out.mono (Nat.div_le_self _ (val Y)) (Nat.le_refl _)).len; omega) (by have := hO2.len; have := (X_sz.out.mono (dvR_le _ (val Y)) (Nat.le_refl _)).len; omega)
  clear hE13
  clear hO hO2 hDf hB
  go_wp2_with fail
  refine (rdm_any (la := X) (lb := Y) ?_ ?_ ?_ ?_).mono ?_
  · exact hE14.rd ⟨x, nx', cx, X⟩ (by simp)
  · exact hE14.rd ⟨y, ny', cy, Y⟩ (by simp)
  · omega
  · omega
  rintro e w4 ⟨a4, n4, c4, b4, m4, d4, rfl, hO, hO2, hDf, hB⟩
  have hE15 := hE14.note2 hO hO2 hB
  clear hE14
  clear hO hO2 hDf hB
  go_wp2_with fail
  refine (divmod_any (la := Y) (lb := X) ?_ ?_ ?_).mono ?_
  · exact hE15.rd ⟨a2, ny', c2, Y⟩ (by simp)
  · exact hE15.rd ⟨a1, nx', c1, X⟩ (by simp)
  · omega
  rintro e w5 ⟨a5, n5, c5, b5, m5, d5, rfl, hO, hO2, hDf, hB⟩
  have hE16 := hE15.tell2 hO hO2 hDf hB (by have := hO.len; have := (Y_sz.out.mono (Nat.div_le_self _ (val X)) (Nat.le_refl _)).len; omega) (by have := hO2.len; have := (Y_sz.out.mono (dvR_le _ (val X)) (Nat.le_refl _)).len; omega)
  clear hE15
  clear hO hO2 hDf hB
  go_wp2_with fail
  refine (rdm_any (la := Y) (lb := X) ?_ ?_ ?_ ?_).mono ?_
  · exact hE16.rd ⟨y, ny', cy, Y⟩ (by simp)
  · exact hE16.rd ⟨x, nx', cx, X⟩ (by simp)
  · omega
  · omega
  rintro e w6 ⟨a6, n6, c6, b6, m6, d6, rfl, hO, hO2, hDf, hB⟩
  have hE17 := hE16.note2 hO hO2 hB
  clear hE16
  clear hO hO2 hDf hB
  go_wp2_with fail
  refine (rgcd_any (la := X) (lb := Y) (K := 200) ?_ ?_ ?_ ?_ ?_).mono ?_
  · exact hE17.rd ⟨x, nx', cx, X⟩ (by simp)
  · exact hE17.rd ⟨y, ny', cy, Y⟩ (by simp)
  · omega
  · omega
  · omega
  rintro e w7 ⟨a7, n7, c7, rfl, hO, hB⟩
  have hE18 := hE17.note hO hB
  clear hE17
  clear hO hB
  go_wp2_with fail
  refine (gcd_any (la := X) (lb := Y) (K := 200) ?_ ?_ ?_ ?_ ?_).mono ?_
  · exact hE18.rd ⟨a1, nx', c1, X⟩ (by simp)
  · exact hE18.rd ⟨a2, ny', c2, Y⟩ (by simp)
  · omega
  · omega
  · omega
  rintro e w8 ⟨a8, n8, c8, rfl, hO, hB⟩
  have hE19 := hE18.tell hO hB (by have := hO.len; have := (gcd_sz X_sz.out Y_sz.out).len; omega)
  clear hE18
  clear hO hB
  go_wp2_with fail
  refine (gcd_any (la := Y) (lb := X) (K := 200) ?_ ?_ ?_ ?_ ?_).mono ?_
  · exact hE19.rd ⟨a2, ny', c2, Y⟩ (by simp)
  · exact hE19.rd ⟨a1, nx', c1, X⟩ (by simp)
  · omega
  · omega
  · omega
  rw [Nat.gcd_comm (val Y) (val X)]
  rintro e w9 ⟨a9, n9, c9, rfl, hO, hB⟩
  have hE20 := hE19.tell hO hB (by have := hO.len; have := (gcd_sz X_sz.out Y_sz.out).len; omega)
  clear hE19
  clear hO hB
  go_wp2_with fail
  refine (gcd_any (la := X) (lb := []) (K := 200) ?_ ?_ ?_ ?_ ?_).mono ?_
  · exact hE20.rd ⟨a1, nx', c1, X⟩ (by simp)
  · exact rd_nil _ _ _ (by simp [maxLen])
  · omega
  · omega
  · omega
  rw [show Nat.gcd (val X) (val []) = val X from Nat.gcd_zero_right _]
  rintro e w10 ⟨a10, n10, c10, rfl, hO, hB⟩
  have hE21 := hE20.tell hO hB (by have := hO.len; have := (X_sz.out).len; omega)
  clear hE20
  clear hO hB
  go_wp2_with fail
  refine (gcd_any (la := []) (lb := X) (K := 200) ?_ ?_ ?_ ?_ ?_).mono ?_
  · exact rd_nil _ _ _ (by simp [maxLen])
  · exact hE21.rd ⟨a1, nx', c1, X⟩ (by simp)
  · omega
  · omega
  · omega
  rw [show Nat.gcd (val []) (val X) = val X from Nat.gcd_zero_left _]
  rintro e w11 ⟨a11, n11, c11, rfl, hO, hB⟩
  have hE22 := hE21.tell hO hB (by have := hO.len; have := (X_sz.out).len; omega)
  clear hE21
  clear hO hB
  go_wp2_with fail
  refine (rnorm_any (l := X) ?_ ?_).mono ?_
  · exact (hE22.alloc _).rd ⟨x, nx', cx, X⟩ (by simp)
  · omega
  rintro e w12 ⟨a12, n12, c12, rfl, hO, hB⟩
  have hgc := (hB.block w11.heap.size (by simp)).trans (heap_alloc_new w11 _)
  have hgN := hid (fun x hx g e => (hE22.told.lt (x := x) hx (g := g) e).2)
  have hO := hO.mono (show _ ≤ _ from (by simp : w11.heap.size ≤ (w11.alloc _).heap.size))
  have hB := ((Below.refl _ _).alloc (Nat.le_refl _) _).next hB
  have hE23 := hE22.note hO hB
  clear hE22
  clear hO hB
  go_wp2_with fail
  refine (hE23.apart_call2 (K := 8) [7, 6, 5, 4, 3, 2, 1, 0] [⟨a4, n4, c4, lm (val X / val Y)⟩, ⟨b4, m4, d4, lm (dvR (val X) (val Y))⟩, ⟨a6, n6, c6, lm (val Y / val X)⟩, ⟨b6, m6, d6, lm (dvR (val Y) (val X))⟩, ⟨a7, n7, c7, lm (Nat.gcd (val X) (val Y))⟩, ⟨a7, n7, c7, lm (Nat.gcd (val X) (val Y))⟩, ⟨a12, n12, c12, lm (val X)⟩, ⟨a12, n12, c12, lm (val X)⟩] rfl rfl (by decide) (by decide) (fun i hi => by simp at hi ⊢; omega) rfl rfl (by simp) rfl hgc hgN.out).mono ?_
  rintro e wA ⟨rfl, hE24⟩
  clear hE23 hgc hgN
  go_wp2_with fail
  refine (kept_any (l := X) ?_ ?_).mono ?_
  · exact hE24.rd ⟨a1, nx' + 5, c1, X ++ List.replicate 5 77⟩ (by simp)
  · exact hE24.rd ⟨x, nx', cx, X⟩ (by simp)
  rintro e w13 ⟨rfl, hD⟩
  have hE25 := hE24.dr hD
  clear hE24
  clear hD
  go_wp2_with fail
  refine (kept_any (l := Y) ?_ ?_).mono ?_
  · exact hE25.rd ⟨a2, ny' + 5, c2, Y ++ List.replicate 5 77⟩ (by simp)
  · exact hE25.rd ⟨y, ny', cy, Y⟩ (by simp)
  rintro e w14 ⟨rfl, hD⟩
  have hE26 := hE25.dr hD
  clear hE25
  clear hD
  have hFa := (hOA2.below hE26.bel).take (k := nx') (by omega)
  have hFb := (hOB.below hE26.bel).take (k := ny') (by omega)
  go_wp2_with fail
  refine (anew_any (hFa.mono (Nat.zero_le _)) (hFb.mono (Nat.zero_le _)) hDf0 (by omega) (by omega)).mono ?_
  rintro e wZ ⟨rfl, hKz⟩
  go_wp2
  go_ret
  refine ⟨rfl, (hBel.next hE26.bel).kp hKz (hBel.next hE26.bel).size fun g hg e => ?_⟩
  rcases e with e | e
  · have := hltA.out _ e; omega
  · have := hltB.out _ e; omega

end Go.Proofs.Ytknpacegaclcgaa
