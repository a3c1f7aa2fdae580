/- WALKS OF DECIMALS, 3: the document's helpers: a byte sought, digits, small numbers, powers of ten. -/
import Derived.Test.YtbodlkfhmapngaaDc
namespace Go.Proofs.Ytbodlkfhmapngaa
set_option linter.unusedVariables false
set_option linter.unusedSimpArgs false
open Go.ChangeShapes Go.WideShapes Go.ChangeAt Go.RowKit Go.NatP

theorem fdN_eq {a b : Nat} : ∀ {l : List Nat} {i : Nat}, (∀ j, j < i → l.getD j 0 ≠ a ∧ l.getD j 0 ≠ b) → i ≤ l.length → (i = l.length ∨ (l.getD i 0 = a ∨ l.getD i 0 = b)) → fdN a b l = i
  | [], i, _, hi, _ => by simp at hi; subst hi; rfl
  | c :: l, 0, _, _, h => by
    rcases h with h | h
    · simp at h
    · exact fdN_hit l (by simpa using h)
  | c :: l, i + 1, ho, hi, h => by
    have h0 := ho 0 (by omega)
    simp at h0
    rw [fdN_miss l (by omega)]
    rw [fdN_eq (l := l) (i := i) (fun j hj => by have := ho (j + 1) (by omega); simpa using this) (by simpa using hi) (by
      rcases h with h | h
      · exact .inl (by simpa using h)
      · exact .inr (by simpa using h))]

set_option maxRecDepth 100000 in
set_option maxHeartbeats 2000000 in
theorem rfind {w : World} (s : ByteArray) (hs : s.size ≤ 16777216) (a b : Nat) (ha : a < 256) (hb : b < 256) :
    Calls Try.prog 110 #[.string s, .int .u8 (a : Int), .int .u8 (b : Int)] w (fun e w' => e = .returned (.int .i64 (fdN a b (by' s) : Nat)) ∧ w' = w) := by
  have HL := hid (by_len s)
  go_enter Try.func110, Try.ntmps110
  go_wp2
  go_loopw [7] (fun iv wr => ∃ i : Nat, i ≤ s.size ∧ iv = .int .i64 i ∧ Hid (∀ j, j < i → (by' s).getD j 0 ≠ a ∧ (by' s).getD j 0 ≠ b) ∧ wr = w) (fun iv _ => s.size - (intOf iv).toNat)
  case atStart => exact ⟨0, by omega, rfl, fun j hj => absurd hj (Nat.not_lt_zero _), rfl⟩
  case round =>
    obtain ⟨i, hi, rfl, hV, rfl⟩ := hrel
    by_cases hlt : i < s.size
    · have hx := by_get s i hlt
      obtain ⟨x, hxe⟩ : ∃ x, s[i].toNat = x := ⟨_, rfl⟩
      rw [hxe] at hx
      by_cases h1 : x = a
      · have hE : Hid (fdN a b (by' s) = i) := fdN_eq hV.out (by rw [by_len]; omega) (.inr (.inl (by rw [hx]; exact h1)))
        have hd3 : ((x : Int) == (a : Int)) = true := by simp [h1]
        clear hV hx HL h1
        go_wp2
        go_ret
        exact ⟨by rw [hE.out]; rfl, rfl⟩
      · have hd3 : ((x : Int) == (a : Int)) = false := by simp; omega
        by_cases h2 : x = b
        · have hE : Hid (fdN a b (by' s) = i) := fdN_eq hV.out (by rw [by_len]; omega) (.inr (.inr (by rw [hx]; exact h2)))
          have hd4 : ((x : Int) == (b : Int)) = true := by simp [h2]
          clear hV hx HL h1 h2
          go_wp2
          go_ret
          exact ⟨by rw [hE.out]; rfl, rfl⟩
        · have hd4 : ((x : Int) == (b : Int)) = false := by simp; omega
          have HN : Hid (∀ j, j < i + 1 → (by' s).getD j 0 ≠ a ∧ (by' s).getD j 0 ≠ b) := fun j hj => by
            by_cases e : j = i
            · rw [e, hx]; exact ⟨h1, h2⟩
            · exact hV.out j (by omega)
          clear hV hx HL h1 h2
          go_wp2
          go_roundw
          case rel => exact ⟨i + 1, by omega, by go_num, HN, by first | rfl | trivial⟩
          case measure => simp [intOf]; omega
    · obtain rfl : i = s.size := by omega
      have hE : Hid (fdN a b (by' s) = s.size) := fdN_eq hV.out (by rw [by_len]; omega) (.inl (by rw [by_len]))
      clear hV HL
      go_wp2
      go_ret
      exact ⟨by rw [hE.out]; rfl, rfl⟩

/-- digits, one at least -/
def dgOk (s : ByteArray) : Bool := okD (by' s) && decide (0 < s.size)
theorem dgOk_iff (s : ByteArray) : dgOk s = true ↔ okD (by' s) = true ∧ by' s ≠ [] := by
  unfold dgOk
  have h1 : by' s ≠ [] ↔ 0 < s.size := by rw [← by_len]; exact List.length_pos_iff.symm
  rw [h1]; simp

set_option maxRecDepth 100000 in
set_option maxHeartbeats 2000000 in
theorem rdig {w : World} (s : ByteArray) (hs : s.size ≤ 16777216) : Calls Try.prog 111 #[.string s] w (fun e w' => e = .returned (.bool (dgOk s)) ∧ w' = w) := by
  have hOk := hid (show dgOk s = (okD (by' s) && decide (0 < s.size)) from rfl)
  have HL := hid (by_len s)
  go_enter Try.func111, Try.ntmps111
  go_wp2
  go_loopw [3] (fun iv wr => ∃ i : Nat, i ≤ s.size ∧ iv = .int .i64 i ∧ Hid (okD ((by' s).take i) = true) ∧ wr = w) (fun iv _ => s.size - (intOf iv).toNat)
  case atStart => exact ⟨0, by omega, rfl, rfl, rfl⟩
  case round =>
    obtain ⟨i, hi, rfl, hV, rfl⟩ := hrel
    by_cases hlt : i < s.size
    · have hx := by_get s i hlt
      obtain ⟨x, hxe⟩ : ∃ x, s[i].toNat = x := ⟨_, rfl⟩
      rw [hxe] at hx
      by_cases hd : 48 ≤ x ∧ x ≤ 57
      · obtain ⟨hd1, hd2⟩ := hd
        have HN : Hid (okD ((by' s).take (i + 1)) = true) := by
          show _ = _
          rw [take_succ_getD _ _ (by rw [by_len]; exact hlt), hx, okD_snoc, hV.out]
          simp [hd1, hd2]
        clear hV hx
        have hd3 : decide (x < 48) = false := decide_eq_false (by omega)
        have hd4 : decide (57 < x) = false := decide_eq_false (by omega)
        go_wp2
        go_roundw
        case rel => exact ⟨i + 1, by omega, by go_num, HN, by first | rfl | trivial⟩
        case measure => simp [intOf]; omega
      · have hbad : dgOk s = false := by
          rw [hOk.out, okD_bad (l := by' s) (i := i) (by rw [by_len]; exact hlt) (by rw [hx]; exact hd)]; rfl
        have hB := hid hbad
        clear hV hx hbad hOk
        by_cases h48 : x < 48
        · have hd3 : decide (x < 48) = true := decide_eq_true h48
          go_wp2
          go_ret
          exact ⟨by rw [hB.out]; rfl, rfl⟩
        · have hd3 : decide (x < 48) = false := decide_eq_false h48
          have hd4 : decide (57 < x) = true := decide_eq_true (by omega)
          go_wp2
          go_ret
          exact ⟨by rw [hB.out]; rfl, rfl⟩
    · obtain rfl : i = s.size := by omega
      have hB := hid (show dgOk s = decide (0 < s.size) by
        rw [hOk.out]
        have := hV.out
        rw [List.take_of_length_le (by rw [by_len]; exact Nat.le_refl _)] at this
        rw [this, Bool.true_and])
      clear hV hOk
      go_wp2
      go_ret
      exact ⟨by rw [hB.out]; simp, rfl⟩

theorem numD_pre : ∀ (m l : List Nat), numD l ≤ numD (l ++ m)
  | [], l => by simp
  | c :: m, l => by
    have h := numD_pre m (l ++ [c])
    rw [List.append_assoc] at h
    have h2 := numD_snoc l c
    simp only [List.cons_append, List.nil_append] at h
    omega
theorem numD_take (l : List Nat) (i : Nat) : numD (l.take i) ≤ numD l := by
  have h := numD_pre (l.drop i) (l.take i)
  rwa [List.take_append_drop] at h
/-- a number up to the greatest exponent -/
def smN (v : Nat) : Nat := if v ≤ 1000 then v else 0

set_option maxRecDepth 100000 in
set_option maxHeartbeats 2000000 in
theorem rsmall {w : World} (s : ByteArray) (hs : s.size ≤ 16777216) (hok : okD (by' s) = true) : Calls Try.prog 112 #[.string s] w (fun e w' => e = .returned (.tuple #[.int .i64 (smN (numD (by' s)) : Nat), .bool (decide (numD (by' s) ≤ 1000))]) ∧ w' = w) := by
  have HL := hid (by_len s)
  have HO := hid (fun i (hi : i < s.size) => okD_mem (l := by' s) hok (c := (by' s).getD i 0) (by
    rw [List.getD_eq_getElem?_getD, List.getElem?_eq_getElem (by rw [by_len]; exact hi)]
    exact List.getElem_mem _))
  have HT := hid (numD_take (by' s))
  clear hok
  go_enter Try.func112, Try.ntmps112
  go_wp2
  go_loopw [4, 5] (fun nv iv wr => ∃ i v : Nat, i ≤ s.size ∧ iv = .int .i64 i ∧ nv = .int .i64 v ∧ v ≤ 1000 ∧ Hid (v = numD ((by' s).take i)) ∧ wr = w) (fun _ iv _ => s.size - (intOf iv).toNat)
  case atStart => exact ⟨0, 0, by omega, rfl, rfl, by omega, rfl, rfl⟩
  case round =>
    obtain ⟨i, v, hi, rfl, rfl, hv, hV, rfl⟩ := hrel
    by_cases hlt : i < s.size
    · have hx := by_get s i hlt
      obtain ⟨hd1, hd2⟩ := HO.out i hlt
      obtain ⟨x, hxe⟩ : ∃ x, s[i].toNat = x := ⟨_, rfl⟩
      rw [hxe] at hx
      rw [hx] at hd1 hd2
      obtain ⟨v', hv'⟩ : ∃ v', v' = 10 * v + x - 48 := ⟨_, rfl⟩
      have HN : Hid (v' = numD ((by' s).take (i + 1))) := by
        show _ = _
        rw [take_succ_getD _ _ (by rw [by_len]; exact hlt), hx, numD_snoc, ← hV.out]; omega
      have hle := HT.out (i + 1)
      rw [← HN.out] at hle
      have hvI : (10 : Int) * (v : Int) + (x : Int) - 48 = (v' : Int) := by omega
      clear hV hx HO HT HL
      by_cases hb : v' ≤ 1000
      · have hd4 : decide (1000 < v') = false := decide_eq_false (by omega)
        clear hle
        go_wp2
        go_roundw
        case rel => exact ⟨i + 1, v', by omega, by go_num, by go_num, hb, HN, by first | rfl | trivial⟩
        case measure => simp [intOf]; omega
      · have hB : Hid (numD (by' s) = numD (by' s) ∧ smN (numD (by' s)) = 0 ∧ decide (numD (by' s) ≤ 1000) = false) := ⟨rfl, if_neg (by omega), decide_eq_false (by omega)⟩
        have hd4 : decide (1000 < v') = true := decide_eq_true (by omega)
        clear hle HN
        go_wp2
        go_ret2
        exact ⟨by rw [hB.out.2.1, hB.out.2.2]; rfl, rfl⟩
    · obtain rfl : i = s.size := by omega
      have hE := hV.out
      rw [List.take_of_length_le (by rw [by_len]; exact Nat.le_refl _)] at hE
      have hB : Hid (smN (numD (by' s)) = v ∧ decide (numD (by' s) ≤ 1000) = true) := by show _ ∧ _; rw [← hE]; exact ⟨if_pos hv, decide_eq_true hv⟩
      clear hV hE HT HO HL
      go_wp2
      go_ret2
      exact ⟨by rw [hB.out.1, hB.out.2]; rfl, rfl⟩

set_option maxRecDepth 100000 in
set_option maxHeartbeats 2000000 in
theorem rten {w : World} (N : Nat) (hN : N ≤ 1000000) : Calls Try.prog 48 #[.int .i64 N] w (Ret1 w (lm (10 ^ N))) := by
  obtain ⟨T, hT⟩ : ∃ T, lm (10 ^ N) = T := ⟨_, rfl⟩
  have HT := hid hT
  rw [hT]
  clear hT
  have O1 := own_one w.heap.size w 1 (by omega) (Nat.le_refl _)
  have O2 := own_one w.heap.size (w.alloc (.cells #[.int .u32 ((1 : Nat) : Int)] 39)) 10 (by omega) (by simp)
  rw [show (w.alloc (.cells #[.int .u32 ((1 : Nat) : Int)] 39)).heap.size = w.heap.size + 1 by simp] at O2
  have O1' := O1.alloc (.cells #[.int .u32 ((10 : Nat) : Int)] 39)
  have hB := below_two w (.cells #[.int .u32 ((1 : Nat) : Int)] 39) (.cells #[.int .u32 ((10 : Nat) : Int)] 39)
  go_enter Try.func48, Try.ntmps48
  go_wp2
  go_loopw [0, 3, 4] (fun iv pv tv wr => ∃ (j e f n c n' c' : Nat) (a a' : Option Addr), iv = .int .i64 j ∧ pv = .slice a n c ∧ tv = .slice a' n' c' ∧ Hid (e * j + f = N) ∧ e ≤ 2 * N + 1 ∧ f ≤ N ∧ j ≤ N ∧ Own w.heap.size wr a n c (lm (10 ^ f)) ∧ Own w.heap.size wr a' n' c' (lm (10 ^ e)) ∧ Below w.heap.size w wr) (fun iv _ _ _ => (intOf iv).toNat)
  case atStart => exact ⟨N, 1, 0, 1, 1, 1, 1, _, _, rfl, rfl, rfl, by show _ = _; omega, by omega, by omega, Nat.le_refl _, O1', O2, hB⟩
  case round =>
    clear O1 O1' O2 hB
    obtain ⟨j, e, f, n, c, n', c', a, a', rfl, rfl, rfl, hV, he, hf, hj, hO, hO', hB⟩ := hrel
    have hs := hB.size
    by_cases h0 : 0 < j
    · have he2 : e ≤ N := by
        have h1 := hV.out
        have h2 := Nat.le_mul_of_pos_right e h0
        omega
      have hR := hO.rdN (szTen f)
      have hR' := hO'.rdN (szTen e)
      have HM := hid (Nat.pow_add 10 e e).symm
      have HP := hid (Nat.pow_add 10 f e).symm
      have hq1 : ((j : Int)).tdiv 2 = ((j / 2 : Nat) : Int) := by rw [Int.tdiv_eq_ediv_of_nonneg (by omega)]; omega
      have hq2 : ((j : Int)).tmod 2 = ((j % 2 : Nat) : Int) := by rw [Int.tmod_eq_emod_of_nonneg (by omega)]; omega
      have hq3 : j / 2 < j := by omega
      rcases (by omega : j % 2 = 1 ∨ j % 2 = 0) with hodd | hodd
      · have HV : Hid ((e + e) * (j / 2) + (f + e) = N ∧ f + e ≤ N) := by
          have h1 := hV.out
          have h2 : e * j = e * (2 * (j / 2) + 1) := by congr 1; omega
          rw [Nat.mul_add, ← Nat.mul_assoc, Nat.mul_one, Nat.mul_two] at h2
          have h3 : (e + e) * (j / 2) + (f + e) = N := by omega
          exact ⟨h3, by omega⟩
        have hfe : f + e ≤ N := HV.out.2
        rw [hodd] at hq2
        generalize j / 2 = j2 at *
        have HG := hid (fun (x : Nat) (hx : x = 10 ^ f * 10 ^ e) => hx.trans HP.out)
        have HG' := hid (fun (x : Nat) (hx : x = 10 ^ e * 10 ^ e) => hx.trans HM.out)
        generalize 10 ^ f = P at *
        generalize 10 ^ e = Q at *
        clear hV
        go_wp2_with fail
        refine (rmulR hR hR' (by omega) (by omega)).mono ?_
        rintro e2 w2 ⟨a2, n2, c2, rfl, hO2, hB2⟩
        have hR2 := hR'.below hB2
        go_wp2_with fail
        refine (rmulR hR2 hR2 (by omega) (by omega)).mono ?_
        rintro e3 w3 ⟨a3, n3, c3, rfl, hO3, hB3⟩
        have hs2 := hB2.size
        go_wp2
        go_roundw
        case rel => exact ⟨j2, e + e, f + e, n2, c2, n3, c3, a2, a3, by go_num, rfl, rfl, HV.out.1, by omega, by omega, by omega, by rw [← HG.out _ rfl]; exact (hO2.below hB3).mono hs, by rw [← HG'.out _ rfl]; exact hO3.mono (by omega), (hB.next hB2).next hB3⟩
        case measure => simp [intOf]; omega
      · have HV : Hid ((e + e) * (j / 2) + f = N) := by
          have h1 := hV.out
          have h2 : e * j = e * (2 * (j / 2)) := by congr 1; omega
          rw [← Nat.mul_assoc, Nat.mul_two] at h2
          show _ = _
          omega
        rw [hodd] at hq2
        generalize j / 2 = j2 at *
        have HG' := hid (fun (x : Nat) (hx : x = 10 ^ e * 10 ^ e) => hx.trans HM.out)
        clear HM HP
        have hO0 := hid hO
        generalize 10 ^ e = Q at *
        clear hV hR hO
        go_wp2_with fail
        refine (rmulR hR' hR' (by omega) (by omega)).mono ?_
        rintro e3 w3 ⟨a3, n3, c3, rfl, hO3, hB3⟩
        go_wp2
        go_roundw
        case rel => exact ⟨j2, e + e, f, n, c, n3, c3, a, a3, by go_num, rfl, rfl, HV.out, by omega, by omega, by omega, hO0.out.below hB3, by rw [← HG'.out _ rfl]; exact hO3.mono (by omega), hB.next hB3⟩
        case measure => simp [intOf]; omega
    · obtain rfl : j = 0 := by omega
      have hT : Hid (lm (10 ^ f) = T) := by
        have h1 := hV.out
        rw [Nat.mul_zero, Nat.zero_add] at h1
        rw [h1]; exact HT.out
      rw [hT.out] at hO
      clear hV hO'
      go_wp2
      go_ret
      exact ⟨a, n, c, rfl, hO, hB⟩
end Go.Proofs.Ytbodlkfhmapngaa
