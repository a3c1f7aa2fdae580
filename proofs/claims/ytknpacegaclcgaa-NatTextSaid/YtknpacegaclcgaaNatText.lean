/- THE WALK OF credencelaw01.NatText: any number, any text. -/
import Derived.Test.YtknpacegaclcgaaWf
import Derived.Test.YtknpacegaclcgaaWp
namespace Go.Proofs.Ytknpacegaclcgaa
set_option linter.unusedVariables false
open Go.ChangeShapes Go.WideShapes Go.ChangeAt Go.RowKit Go.NatP

set_option maxRecDepth 100000 in
set_option maxHeartbeats 4000000 in
theorem natText_walk {w : World} {x : Option Addr} {nx cx : Nat} {lx : List Nat} (hx : Rd w x nx cx lx) (s : ByteArray) (hs : s.size ≤ maxLen) :
    Calls Try.prog 5 #[.slice x nx cx, .string s] w fun e w' => e = .returned (.bool true) ∧ Below w.heap.size w w' := by
  unfold maxLen at hs
  by_cases hlong : 2000 < s.size
  · obtain ⟨t, ht⟩ : ∃ t, t = s.extract 0 2000 := ⟨_, rfl⟩
    have htl : t.size ≤ 2000 := by rw [ht, ByteArray.size_extract]; omega
    have HT := hid ht
    clear ht
    go_enter Try.func5, Try.ntmps5
    go_wp2_with fail
    refine (cut_any hx 200 (by decide) (by decide)).mono ?_
    rintro e w' ⟨nx', rfl, rfl, hnx', hnx''⟩
    rw [show Int.toNat 200 = 200 from rfl] at hnx' hnx''
    generalize lx.take 200 = X at hnx''
    clear hx
    have X_len := hid hnx''.len
    have X_sz : Hid (Sz (val X) 200) := hnx''.lim.sz (by rw [X_len.out]; omega)
    have hE0 := ev_start w
    have hE1 := hE0.old hnx''
    clear hE0
    go_wp2_with fail
    rw [← HT.out]
    go_wp2_with fail
    refine (roomy_any (l := X) ?_ ?_).mono ?_
    · exact hE1.rd ⟨x, nx', cx, X⟩ (by simp)
    · omega
    rintro e w1 ⟨a1, c1, rfl, hO, hB⟩
    have hE2 := hE1.note hO hB
    clear hE1
    clear hO hB
    have hE3 := hE2.pre (a := a1) (n := nx' + 5) (c := c1) (l := X ++ List.replicate 5 77) (by simp) (k := nx') (by omega) (l' := X) (List.take_left' X_len.out)
    clear hE2
    go_wp2_with fail
    refine (parse_any t ?_).mono ?_
    · omega
    rintro e w2 ⟨a2, n2, c2, rfl, hO, hB⟩
    have hE4 := hE3.tell hO hB (by have := hO.len; have := ((paN_sz t htl)).len; omega)
    clear hE3
    clear hO hB
    go_wp2_with fail
    refine (parse_any t ?_).mono ?_
    · omega
    rintro e w3 ⟨a3, n3, c3, rfl, hO, hB⟩
    have hE5 := hE4.tell hO hB (by have := hO.len; have := ((paN_sz t htl)).len; omega)
    clear hE4
    clear hO hB
    go_wp2_with fail
    refine (rparse_any t ?_).mono ?_
    · omega
    rintro e w4 ⟨a4, n4, c4, rfl, hO, hB⟩
    have hE6 := hE5.note hO hB
    clear hE5
    clear hO hB
    go_wp2_with fail
    refine (text_any (l := X) ?_ ?_).mono ?_
    · exact hE6.rd ⟨a1, nx', c1, X⟩ (by simp)
    · omega
    rintro e w5 ⟨rfl, hB⟩
    have hE7 := hE6.step hB
    clear hE6
    clear hB
    go_wp2_with fail
    refine (rtext_any (l := X) ?_ ?_).mono ?_
    · exact hE7.rd ⟨x, nx', cx, X⟩ (by simp)
    · omega
    rintro e w6 ⟨rfl, hB⟩
    have hE8 := hE7.step hB
    clear hE7
    clear hB
    go_wp2_with fail
    refine (hE8.apart_call (K := 2) [1, 0] [⟨a4, n4, c4, lm (paN (by' t))⟩, ⟨a4, n4, c4, lm (paN (by' t))⟩] rfl rfl (by decide) (by decide) (fun i hi => by simp at hi ⊢; omega) rfl rfl (by simp) rfl).mono ?_
    rintro e wA ⟨rfl, hE9⟩
    clear hE8
    go_wp2_with fail
    refine (kept_any (l := X) ?_ ?_).mono ?_
    · exact hE9.rd ⟨a1, nx' + 5, c1, X ++ List.replicate 5 77⟩ (by simp)
    · exact hE9.rd ⟨x, nx', cx, X⟩ (by simp)
    rintro e w7 ⟨rfl, hD⟩
    have hE10 := hE9.dr hD
    clear hE9
    clear hD
    go_wp2
    go_ret
    exact ⟨rfl, hE10.bel⟩
  · skip
    have htl : s.size ≤ 2000 := by omega
    go_enter Try.func5, Try.ntmps5
    go_wp2_with fail
    refine (cut_any hx 200 (by decide) (by decide)).mono ?_
    rintro e w' ⟨nx', rfl, rfl, hnx', hnx''⟩
    rw [show Int.toNat 200 = 200 from rfl] at hnx' hnx''
    generalize lx.take 200 = X at hnx''
    clear hx
    have X_len := hid hnx''.len
    have X_sz : Hid (Sz (val X) 200) := hnx''.lim.sz (by rw [X_len.out]; omega)
    have hE0 := ev_start w
    have hE1 := hE0.old hnx''
    clear hE0
    go_wp2_with fail
    refine (roomy_any (l := X) ?_ ?_).mono ?_
    · exact hE1.rd ⟨x, nx', cx, X⟩ (by simp)
    · omega
    rintro e w1 ⟨a1, c1, rfl, hO, hB⟩
    have hE2 := hE1.note hO hB
    clear hE1
    clear hO hB
    have hE3 := hE2.pre (a := a1) (n := nx' + 5) (c := c1) (l := X ++ List.replicate 5 77) (by simp) (k := nx') (by omega) (l' := X) (List.take_left' X_len.out)
    clear hE2
    go_wp2_with fail
    refine (parse_any s ?_).mono ?_
    · omega
    rintro e w2 ⟨a2, n2, c2, rfl, hO, hB⟩
    have hE4 := hE3.tell hO hB (by have := hO.len; have := ((paN_sz s htl)).len; omega)
    clear hE3
    clear hO hB
    go_wp2_with fail
    refine (parse_any s ?_).mono ?_
    · omega
    rintro e w3 ⟨a3, n3, c3, rfl, hO, hB⟩
    have hE5 := hE4.tell hO hB (by have := hO.len; have := ((paN_sz s htl)).len; omega)
    clear hE4
    clear hO hB
    go_wp2_with fail
    refine (rparse_any s ?_).mono ?_
    · omega
    rintro e w4 ⟨a4, n4, c4, rfl, hO, hB⟩
    have hE6 := hE5.note hO hB
    clear hE5
    clear hO hB
    go_wp2_with fail
    refine (text_any (l := X) ?_ ?_).mono ?_
    · exact hE6.rd ⟨a1, nx', c1, X⟩ (by simp)
    · omega
    rintro e w5 ⟨rfl, hB⟩
    have hE7 := hE6.step hB
    clear hE6
    clear hB
    go_wp2_with fail
    refine (rtext_any (l := X) ?_ ?_).mono ?_
    · exact hE7.rd ⟨x, nx', cx, X⟩ (by simp)
    · omega
    rintro e w6 ⟨rfl, hB⟩
    have hE8 := hE7.step hB
    clear hE7
    clear hB
    go_wp2_with fail
    refine (hE8.apart_call (K := 2) [1, 0] [⟨a4, n4, c4, lm (paN (by' s))⟩, ⟨a4, n4, c4, lm (paN (by' s))⟩] rfl rfl (by decide) (by decide) (fun i hi => by simp at hi ⊢; omega) rfl rfl (by simp) rfl).mono ?_
    rintro e wA ⟨rfl, hE9⟩
    clear hE8
    go_wp2_with fail
    refine (kept_any (l := X) ?_ ?_).mono ?_
    · exact hE9.rd ⟨a1, nx' + 5, c1, X ++ List.replicate 5 77⟩ (by simp)
    · exact hE9.rd ⟨x, nx', cx, X⟩ (by simp)
    rintro e w7 ⟨rfl, hD⟩
    have hE10 := hE9.dr hD
    clear hE9
    clear hD
    go_wp2
    go_ret
    exact ⟨rfl, hE10.bel⟩

end Go.Proofs.Ytknpacegaclcgaa
