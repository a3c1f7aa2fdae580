/- THE WALK OF credencelaw01.NatNames: the limits and the errors have their numbers; where a power is too long. -/
import Derived.Test.YtknpacegaclcgaaWD
namespace Go.Proofs.Ytknpacegaclcgaa
set_option linter.unusedVariables false
open Go.ChangeShapes Go.WideShapes Go.ChangeAt Go.RowKit Go.NatP

set_option maxRecDepth 100000 in
set_option maxHeartbeats 4000000 in
theorem natNames_walk {w : World}  :
    Calls Try.prog 14 #[] w fun e w' => e = .returned (.bool true) ∧ Below w.heap.size w w' := by
  obtain ⟨E, hE⟩ : ∃ E : Nat, 256 * 1023 = E := ⟨_, rfl⟩
  obtain ⟨F, hF⟩ : ∃ F : Nat, 262144 = F := ⟨_, rfl⟩
  obtain ⟨T, hT1, hT2⟩ : ∃ T : Nat, 8200 ≤ T ∧ T ≤ 9000 := ⟨8200, by omega, by omega⟩
  have hlv : val [0, 0, 0, 0, 0, 0, 0, 0, 1] = 2 ^ 256 := by decide +kernel
  have hnv : val [4294967295, 4294967295, 4294967295, 4294967295, 4294967295, 4294967295, 4294967295, 4294967295, 1] + 1 = 2 ^ 256 * 2 := by decide +kernel
  have h1 : Hid (pwN (val [0, 0, 0, 0, 0, 0, 0, 0, 1]) 1023 = 2 ^ E ∧ pwE (val [0, 0, 0, 0, 0, 0, 0, 0, 1]) 1023 = 0) := pw_twoE 256 1023 E (by decide) hE (by omega) hlv
  have h2 : Hid (pwN (val [0, 0, 0, 0, 0, 0, 0, 0, 1]) 1024 = 0 ∧ pwE (val [0, 0, 0, 0, 0, 0, 0, 0, 1]) 1024 = 12) := pw_two_big 256 1024 (by decide) (by decide) hlv
  have h3 : Hid (pwN (val [1]) 1025 = 0 ∧ pwE (val [1]) 1025 = 3) := ⟨rfl, rfl⟩
  have h4 : Hid (pwN (val [1]) 1024 = 1 ∧ pwE (val [1]) 1024 = 0) := pw_twoE 0 1024 0 (by decide) rfl (by decide) rfl
  have h5 : Hid (shN (val [1]) 262145 = 0 ∧ shE 262145 = 3) := ⟨rfl, rfl⟩
  have h6 : Hid (shN (val [1]) 262144 = 2 ^ F ∧ shE 262144 = 0) := by have h := sh_up 1 F (by omega); rw [Nat.one_mul, ← hF] at h; rw [← hF]; exact h
  have h7 : Hid (pwN (val [4294967295, 4294967295, 4294967295, 4294967295, 4294967295, 4294967295, 4294967295, 4294967295, 1]) 1023 = 0 ∧ pwE (val [4294967295, 4294967295, 4294967295, 4294967295, 4294967295, 4294967295, 4294967295, 4294967295, 1]) 1023 = 12) := pw_near (m := 256) (n := 1023) (q := 511) (by decide) hnv (by decide) rfl (by decide)
  have hzE := hid (szTwo (E := E) (K := T) (by omega))
  have hzF := hid (szTwo (E := F) (K := T) (by omega))
  have hnE : Hid (((nb (2 ^ E) : Nat) : Int) = 261889) := by show _ = _; rw [nb_two_pow]; omega
  have hnF : Hid (((nb (2 ^ F) : Nat) : Int) = 262145) := by show _ = _; rw [nb_two_pow]; omega
  clear hE hF hlv hnv
  go_enter Try.func14, Try.ntmps14
  have hE0 := ev_start w
  have hE1 := hE0.lit [0, 0, 0, 0, 0, 0, 0, 0, 1] (by decide) (by simp [maxLen]) #[.int .u32 0, .int .u32 0, .int .u32 0, .int .u32 0, .int .u32 0, .int .u32 0, .int .u32 0, .int .u32 0, .int .u32 1] rfl (w.heap.size) 9 (by simp) rfl
  clear hE0
  go_wp2_with fail
  refine (pow_any (l := [0, 0, 0, 0, 0, 0, 0, 0, 1]) (n := 1023) ?_ ?_).mono ?_
  · exact hE1.rd ⟨(some ⟨w.heap.size, 0, none⟩), 9, 9, [0, 0, 0, 0, 0, 0, 0, 0, 1]⟩ (by simp)
  · omega
  rw [h1.out.1, h1.out.2]
  rintro e w1 ⟨a1, n1, c1, rfl, hO, hB⟩
  have hn1 : n1 ≤ T := by have := hO.len; have := (hzE.out).len; omega
  have hE2 := hE1.note hO hB
  clear hE1
  clear hO hB
  go_wp2_with fail
  refine (pow_any (l := [0, 0, 0, 0, 0, 0, 0, 0, 1]) (n := 1024) ?_ ?_).mono ?_
  · exact hE2.rd ⟨(some ⟨w.heap.size, 0, none⟩), 9, 9, [0, 0, 0, 0, 0, 0, 0, 0, 1]⟩ (by simp)
  · omega
  rw [h2.out.1, h2.out.2, show lm 0 = [] from rfl]
  rintro e w2 ⟨a2, n2, c2, rfl, hO, hB⟩
  obtain rfl : n2 = 0 := hO.len.symm
  have hE3 := hE2.note hO hB
  clear hE2
  clear hO hB
  have hE4 := hE3.lit [1] (by decide) (by simp [maxLen]) #[.int .u32 1] rfl (w2.heap.size) 1 (by simp) rfl
  clear hE3
  go_wp2_with fail
  refine (pow_any (l := [1]) (n := 1025) ?_ ?_).mono ?_
  · exact hE4.rd ⟨(some ⟨w2.heap.size, 0, none⟩), 1, 1, [1]⟩ (by simp)
  · omega
  rw [h3.out.1, h3.out.2, show lm 0 = [] from rfl]
  rintro e w3 ⟨a3, n3, c3, rfl, hO, hB⟩
  obtain rfl : n3 = 0 := hO.len.symm
  have hE5 := hE4.note hO hB
  clear hE4
  clear hO hB
  have hE6 := hE5.lit [1] (by decide) (by simp [maxLen]) #[.int .u32 1] rfl (w3.heap.size) 1 (by simp) rfl
  clear hE5
  go_wp2_with fail
  refine (pow_any (l := [1]) (n := 1024) ?_ ?_).mono ?_
  · exact hE6.rd ⟨(some ⟨w3.heap.size, 0, none⟩), 1, 1, [1]⟩ (by simp)
  · omega
  rw [h4.out.1, h4.out.2, show lm 1 = [1] from rfl]
  rintro e w4 ⟨a4, n4, c4, rfl, hO, hB⟩
  have hE7 := hE6.note hO hB
  clear hE6
  clear hO hB
  have hE8 := hE7.lit [1] (by decide) (by simp [maxLen]) #[.int .u32 1] rfl (w4.heap.size) 1 (by simp) rfl
  clear hE7
  go_wp2_with fail
  refine (shift_any (l := [1]) (n := 262145) ?_ ?_ ?_ ?_).mono ?_
  · exact hE8.rd ⟨(some ⟨w4.heap.size, 0, none⟩), 1, 1, [1]⟩ (by simp)
  · omega
  · omega
  · omega
  rw [h5.out.1, h5.out.2, show lm 0 = [] from rfl]
  rintro e w5 ⟨a5, n5, c5, rfl, hO, hB⟩
  obtain rfl : n5 = 0 := hO.len.symm
  have hE9 := hE8.note hO hB
  clear hE8
  clear hO hB
  have hE10 := hE9.lit [1] (by decide) (by simp [maxLen]) #[.int .u32 1] rfl (w5.heap.size) 1 (by simp) rfl
  clear hE9
  go_wp2_with fail
  refine (shift_any (l := [1]) (n := 262144) ?_ ?_ ?_ ?_).mono ?_
  · exact hE10.rd ⟨(some ⟨w5.heap.size, 0, none⟩), 1, 1, [1]⟩ (by simp)
  · omega
  · omega
  · omega
  rw [h6.out.1, h6.out.2]
  rintro e w6 ⟨a6, n6, c6, rfl, hO, hB⟩
  have hn6 : n6 ≤ T := by have := hO.len; have := (hzF.out).len; omega
  have hE11 := hE10.note hO hB
  clear hE10
  clear hO hB
  have hE12 := hE11.lit [4294967295, 4294967295, 4294967295, 4294967295, 4294967295, 4294967295, 4294967295, 4294967295, 1] (by decide) (by simp [maxLen]) #[.int .u32 4294967295, .int .u32 4294967295, .int .u32 4294967295, .int .u32 4294967295, .int .u32 4294967295, .int .u32 4294967295, .int .u32 4294967295, .int .u32 4294967295, .int .u32 1] rfl (w6.heap.size) 9 (by simp) rfl
  clear hE11
  go_wp2_with fail
  refine (pow_any (l := [4294967295, 4294967295, 4294967295, 4294967295, 4294967295, 4294967295, 4294967295, 4294967295, 1]) (n := 1023) ?_ ?_).mono ?_
  · exact hE12.rd ⟨(some ⟨w6.heap.size, 0, none⟩), 9, 9, [4294967295, 4294967295, 4294967295, 4294967295, 4294967295, 4294967295, 4294967295, 4294967295, 1]⟩ (by simp)
  · omega
  rw [h7.out.1, h7.out.2, show lm 0 = [] from rfl]
  rintro e w7 ⟨a7, n7, c7, rfl, hO, hB⟩
  obtain rfl : n7 = 0 := hO.len.symm
  have hE13 := hE12.note hO hB
  clear hE12
  clear hO hB
  go_wp2_with fail
  refine (parse_any ⟨#[49, 95, 48]⟩ ?_).mono ?_
  · decide
  rw [show lm (paN (by' ⟨#[49, 95, 48]⟩)) = [] from by decide +kernel, show paE (by' ⟨#[49, 95, 48]⟩) = 10 from by decide +kernel]
  rintro e w8 ⟨a8, n8, c8, rfl, hO, hB⟩
  obtain rfl : n8 = 0 := hO.len.symm
  have hE14 := hE13.note hO hB
  clear hE13
  clear hO hB
  go_wp2_with fail
  refine (parse_any ⟨#[48, 48]⟩ ?_).mono ?_
  · decide
  rw [show lm (paN (by' ⟨#[48, 48]⟩)) = [] from by decide +kernel, show paE (by' ⟨#[48, 48]⟩) = 0 from by decide +kernel]
  rintro e w9 ⟨a9, n9, c9, rfl, hO, hB⟩
  obtain rfl : n9 = 0 := hO.len.symm
  have hE15 := hE14.note hO hB
  clear hE14
  clear hO hB
  go_wp2_with fail
  refine (alive_any ).mono ?_
  rintro e w10 ⟨rfl, hB⟩
  have hE16 := hE15.step hB
  clear hE15
  clear hB
  go_wp2_with fail
  refine (bits_any (l := lm (2 ^ E)) ?_ ?_).mono ?_
  · exact hE16.rd ⟨a1, n1, c1, lm (2 ^ E)⟩ (by simp)
  · omega
  rw [val_lm, hnE.out]
  rintro e w11 ⟨rfl, hD⟩
  have hE17 := hE16.dr hD
  clear hE16
  clear hD
  have hE18 := hE17.lit [1] (by decide) (by simp [maxLen]) #[.int .u32 1] rfl (w11.heap.size) 1 (by simp) rfl
  clear hE17
  go_wp2_with fail
  refine (lsame_true (l := [1]) ?_ ?_).mono ?_
  · exact hE18.rd ⟨a4, n4, c4, [1]⟩ (by simp)
  · exact hE18.rd ⟨(some ⟨w11.heap.size, 0, none⟩), 1, 1, [1]⟩ (by simp)
  rintro e w12 ⟨rfl, hD⟩
  have hE19 := hE18.dr hD
  clear hE18
  clear hD
  go_wp2_with fail
  refine (bits_any (l := lm (2 ^ F)) ?_ ?_).mono ?_
  · exact hE19.rd ⟨a6, n6, c6, lm (2 ^ F)⟩ (by simp)
  · omega
  rw [val_lm, hnF.out]
  rintro e w13 ⟨rfl, hD⟩
  have hE20 := hE19.dr hD
  clear hE19
  clear hD
  go_wp2
  go_ret
  exact ⟨rfl, hE20.bel⟩

end Go.Proofs.Ytknpacegaclcgaa
