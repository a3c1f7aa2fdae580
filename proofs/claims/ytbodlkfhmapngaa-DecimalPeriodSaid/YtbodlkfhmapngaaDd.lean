/- WALKS OF DECIMALS, 2: what a text begins with; the exponent. -/
import Derived.Test.YtbodlkfhmapngaaDc
namespace Go.Proofs.Ytbodlkfhmapngaa
set_option linter.unusedVariables false
set_option linter.unusedSimpArgs false
open Go.ChangeShapes Go.WideShapes Go.ChangeAt Go.RowKit Go.NatP

theorem be_append (s t : ByteArray) : by' (s ++ t) = by' s ++ by' t := by
  unfold by'
  rw [ByteArray.data_append, Array.toList_append, List.map_append]
theorem be_drop (s : ByteArray) (k : Nat) : by' (s.extract k s.size) = (by' s).drop k := by
  unfold by'
  rw [ByteArray.data_extract, Array.toList_extract, List.extract_eq_take_drop, ← List.map_drop]
  rw [List.take_of_length_le (by simp)]
theorem be_mid (s : ByteArray) (j k : Nat) : by' (s.extract j k) = ((by' s).drop j).take (k - j) := by
  unfold by'
  rw [ByteArray.data_extract, Array.toList_extract, List.extract_eq_take_drop, ← List.map_drop, ← List.map_take]
theorem be_take (s : ByteArray) (k : Nat) : by' (s.extract 0 k) = (by' s).take k := by
  rw [be_mid, List.drop_zero, Nat.sub_zero]
theorem be_nil {s : ByteArray} (h : s.size = 0) : s = ⟨#[]⟩ := by
  cases s with
  | mk d => simp [ByteArray.size] at h; rw [h]
theorem be_ne {s : ByteArray} (h : s.size ≠ 0) : s.toList.isEmpty = false := by
  rw [ByteArray.toList_eq]
  cases hl : s.data.toList with
  | nil => exact absurd (by have h1 := congrArg List.length hl; rw [Array.length_toList] at h1; exact h1) h
  | cons _ _ => rfl
theorem be_cons {s : ByteArray} (h : 0 < s.size) : by' s = (s[0]).toNat :: by' (s.extract 1 s.size) := by
  rw [be_drop]
  have h1 := by_get s 0 h
  cases hl : by' s with
  | nil => have := by_len s; rw [hl] at this; simp at this; omega
  | cons x l => rw [hl] at h1; simp at h1; rw [← h1]; rfl
/-- does a text begin with a byte? -/
def pfB (b : Nat) (s : ByteArray) : Bool := decide (0 < s.size ∧ (by' s).getD 0 0 = b)
theorem pfB_cons {b : Nat} {s : ByteArray} (h : 0 < s.size) : pfB b s = decide ((s[0]).toNat = b) := by
  unfold pfB
  rw [by_get s 0 h]
  simp [h]
theorem stroke43 (s : ByteArray) (h : 0 < s.size) : ((s.extract 0 1).toList == [43]) = pfB 43 s := by
  have e : ((s.extract 0 1).toList = [43]) ↔ (s.extract 0 1 = ⟨#[43]⟩) := by
    rw [ByteArray.toList_eq]
    constructor
    · intro h; exact ByteArray.ext (Array.ext' h)
    · intro h; rw [h]
  have e2 : (s.extract 0 1 = ⟨#[43]⟩) ↔ (by' s).getD 0 0 = 43 := by
    constructor
    · intro e
      have := by_take1 s h
      rw [e] at this
      have h2 : by' (⟨#[43]⟩ : ByteArray) = [43] := rfl
      rw [h2] at this
      simpa using this.symm
    · intro e
      refine by_inj ?_
      rw [by_take1 s h, e]; rfl
  rw [Bool.eq_iff_iff, beq_iff_eq, e, e2, pfB, decide_eq_true_iff]
  exact ⟨fun h2 => ⟨h, h2⟩, fun h2 => h2.2⟩
set_option maxRecDepth 100000 in
set_option maxHeartbeats 1000000 in
theorem lpre43 {w : World} (s : ByteArray) (hs : s.size ≤ 16777216) : Calls Try.prog 182 #[.string s, .string ⟨#[43]⟩] w (RetS2 w (pfB 43 s)) := by
  by_cases h0 : 0 < s.size
  · have hb := hid (stroke43 s h0)
    go_enter Try.func182, Try.ntmps182
    go_wp2
    go_ret
    exact ⟨by rw [← hb.out]; rfl, rfl⟩
  · have hb : Hid (pfB 43 s = false) := decide_eq_false fun h => h0 h.1
    have h1 : ¬ 1 ≤ (s.size : Int) := by omega
    go_enter Try.func182, Try.ntmps182
    go_wp2
    go_ret
    exact ⟨by rw [hb.out]; rfl, rfl⟩
set_option maxRecDepth 100000 in
set_option maxHeartbeats 1000000 in
theorem pre43 {w : World} (s : ByteArray) (hs : s.size ≤ 16777216) : Calls Try.prog 117 #[.string s, .string ⟨#[43]⟩] w (RetS2 w (pfB 43 s)) := by
  have hH := hid (fun w => lpre43 (w := w) s hs)
  generalize pfB 43 s = b at *
  go_enter Try.func117, Try.ntmps117
  go_wp2_with fail
  refine (hH.out _).mono ?_
  rintro e w' ⟨rfl, rfl⟩
  go_wp2
  go_ret
  exact ⟨rfl, rfl⟩

theorem stroke45 (s : ByteArray) (h : 0 < s.size) : ((s.extract 0 1).toList == [45]) = pfB 45 s := by
  have e : ((s.extract 0 1).toList = [45]) ↔ (s.extract 0 1 = ⟨#[45]⟩) := by
    rw [ByteArray.toList_eq]
    constructor
    · intro h; exact ByteArray.ext (Array.ext' h)
    · intro h; rw [h]
  have e2 : (s.extract 0 1 = ⟨#[45]⟩) ↔ (by' s).getD 0 0 = 45 := by
    constructor
    · intro e
      have := by_take1 s h
      rw [e] at this
      have h2 : by' (⟨#[45]⟩ : ByteArray) = [45] := rfl
      rw [h2] at this
      simpa using this.symm
    · intro e
      refine by_inj ?_
      rw [by_take1 s h, e]; rfl
  rw [Bool.eq_iff_iff, beq_iff_eq, e, e2, pfB, decide_eq_true_iff]
  exact ⟨fun h2 => ⟨h, h2⟩, fun h2 => h2.2⟩
set_option maxRecDepth 100000 in
set_option maxHeartbeats 1000000 in
theorem lpre45 {w : World} (s : ByteArray) (hs : s.size ≤ 16777216) : Calls Try.prog 182 #[.string s, .string ⟨#[45]⟩] w (RetS2 w (pfB 45 s)) := by
  by_cases h0 : 0 < s.size
  · have hb := hid (stroke45 s h0)
    go_enter Try.func182, Try.ntmps182
    go_wp2
    go_ret
    exact ⟨by rw [← hb.out]; rfl, rfl⟩
  · have hb : Hid (pfB 45 s = false) := decide_eq_false fun h => h0 h.1
    have h1 : ¬ 1 ≤ (s.size : Int) := by omega
    go_enter Try.func182, Try.ntmps182
    go_wp2
    go_ret
    exact ⟨by rw [hb.out]; rfl, rfl⟩
set_option maxRecDepth 100000 in
set_option maxHeartbeats 1000000 in
theorem pre45 {w : World} (s : ByteArray) (hs : s.size ≤ 16777216) : Calls Try.prog 117 #[.string s, .string ⟨#[45]⟩] w (RetS2 w (pfB 45 s)) := by
  have hH := hid (fun w => lpre45 (w := w) s hs)
  generalize pfB 45 s = b at *
  go_enter Try.func117, Try.ntmps117
  go_wp2_with fail
  refine (hH.out _).mono ?_
  rintro e w' ⟨rfl, rfl⟩
  go_wp2
  go_ret
  exact ⟨rfl, rfl⟩

theorem stroke46 (s : ByteArray) (h : 0 < s.size) : ((s.extract 0 1).toList == [46]) = pfB 46 s := by
  have e : ((s.extract 0 1).toList = [46]) ↔ (s.extract 0 1 = ⟨#[46]⟩) := by
    rw [ByteArray.toList_eq]
    constructor
    · intro h; exact ByteArray.ext (Array.ext' h)
    · intro h; rw [h]
  have e2 : (s.extract 0 1 = ⟨#[46]⟩) ↔ (by' s).getD 0 0 = 46 := by
    constructor
    · intro e
      have := by_take1 s h
      rw [e] at this
      have h2 : by' (⟨#[46]⟩ : ByteArray) = [46] := rfl
      rw [h2] at this
      simpa using this.symm
    · intro e
      refine by_inj ?_
      rw [by_take1 s h, e]; rfl
  rw [Bool.eq_iff_iff, beq_iff_eq, e, e2, pfB, decide_eq_true_iff]
  exact ⟨fun h2 => ⟨h, h2⟩, fun h2 => h2.2⟩
set_option maxRecDepth 100000 in
set_option maxHeartbeats 1000000 in
theorem lpre46 {w : World} (s : ByteArray) (hs : s.size ≤ 16777216) : Calls Try.prog 182 #[.string s, .string ⟨#[46]⟩] w (RetS2 w (pfB 46 s)) := by
  by_cases h0 : 0 < s.size
  · have hb := hid (stroke46 s h0)
    go_enter Try.func182, Try.ntmps182
    go_wp2
    go_ret
    exact ⟨by rw [← hb.out]; rfl, rfl⟩
  · have hb : Hid (pfB 46 s = false) := decide_eq_false fun h => h0 h.1
    have h1 : ¬ 1 ≤ (s.size : Int) := by omega
    go_enter Try.func182, Try.ntmps182
    go_wp2
    go_ret
    exact ⟨by rw [hb.out]; rfl, rfl⟩
set_option maxRecDepth 100000 in
set_option maxHeartbeats 1000000 in
theorem pre46 {w : World} (s : ByteArray) (hs : s.size ≤ 16777216) : Calls Try.prog 117 #[.string s, .string ⟨#[46]⟩] w (RetS2 w (pfB 46 s)) := by
  have hH := hid (fun w => lpre46 (w := w) s hs)
  generalize pfB 46 s = b at *
  go_enter Try.func117, Try.ntmps117
  go_wp2_with fail
  refine (hH.out _).mono ?_
  rintro e w' ⟨rfl, rfl⟩
  go_wp2
  go_ret
  exact ⟨rfl, rfl⟩

/-! ### the exponent -/
theorem exS_n {c : Nat} {t : List Nat} (h : c = 45) : exS (c :: t) = (true, t) := if_pos h
theorem exS_p {c : Nat} {t : List Nat} (h : ¬ c = 45) (h' : c = 43) : exS (c :: t) = (false, t) := (if_neg h).trans (if_pos h')
theorem exS_z {c : Nat} {t : List Nat} (h : ¬ c = 45) (h' : ¬ c = 43) : exS (c :: t) = (false, c :: t) := (if_neg h).trans (if_neg h')
def exI (l : List Nat) : Int := (exP l).getD 0
def exB (l : List Nat) : Bool := (exP l).isSome
theorem numD_uv {v : Nat} (h : v < two64) : uv v = v := if_pos h
theorem dgw_by {s : ByteArray} : dgw (by' s) ≤ s.size := by have := dgw_le (by' s); rwa [by_len] at this
theorem okD_iff (s : ByteArray) : okD (by' s) = true ↔ dgw (by' s) = s.size := by rw [← by_len s]; exact dgw_all.symm
theorem pa_ok {s : ByteArray} (h : okD (by' s) = true) (h0 : s.size ≠ 0) : paN (by' s) = numD (by' s) ∧ paE (by' s) = 0 := by
  have hn : by' s ≠ [] := fun e => by have := by_len s; rw [e] at this; simp at this; omega
  unfold paN paE
  rw [if_pos ⟨hn, h⟩, if_pos ⟨hn, h⟩]
  exact ⟨rfl, rfl⟩

set_option maxRecDepth 100000 in
set_option maxHeartbeats 2000000 in
theorem dexp_n {w : World} (s : ByteArray) (hs : s.size ≤ 16777216) (h0 : 0 < s.size) (hc : s[0].toNat = 101 ∨ s[0].toNat = 69) (hd : pfB 45 (s.extract 1 s.size) = true) :
    Calls Try.prog 118 #[.string s] w (fun e w' => e = .returned (.tuple #[.int .i64 (exI (by' s)), .bool (exB (by' s))]) ∧ Below w.heap.size w w') := by
  obtain ⟨T, hT⟩ : ∃ T, s.extract 1 s.size = T := ⟨_, rfl⟩
  rw [hT] at hd
  have hTs : T.size + 1 = s.size := by rw [← hT, ByteArray.size_extract]; omega
  have hby : by' s = s[0].toNat :: by' T := by rw [← hT]; exact be_cons h0
  have hex0 : exP (by' s) = exT (by' T) := by rw [hby]; exact exP_e _ hc
  have hz : 0 < T.size := (of_decide_eq_true hd).1
  have hz1 : 1 ≤ T.size := hz
  obtain ⟨U, hUe⟩ : ∃ U, T.extract 1 T.size = U := ⟨_, rfl⟩
  have hUs : U.size ≤ 16777216 := by rw [← hUe, ByteArray.size_extract]; omega
  have hU : (exS (by' T)) = (true, by' U) := by
    have e1 := be_cons hz
    rw [pfB_cons hz] at hd
    have d1 := of_decide_eq_true hd
    rw [e1, hUe]; exact exS_n d1
  have hX : exP (by' s) = if by' U ≠ [] ∧ okD (by' U) = true ∧ numD (by' U) ≤ 1000 then some (exV true (numD (by' U))) else none := by
    rw [hex0]; unfold exT; rw [hU]
  clear hU hex0 hby
  have HD := hid (fun w => pre45 (w := w) T (by omega))
  rw [hd] at HD
  have HR := hid (fun w => run_any (w := w) U hUs)
  have hrl := dgw_by (s := U)
  have hok := okD_iff U
  by_cases hA : U.size = 0
  · have hX' : exP (by' s) = none := by rw [hX, if_neg]; intro h; exact h.1 (by have := by_len U; rw [hA] at this; exact List.length_eq_zero_iff.1 this)
    have hx1 : exI (by' s) = 0 := by unfold exI; rw [hX']; rfl
    have hx2 : exB (by' s) = false := by unfold exB; rw [hX']; rfl
    rw [hx1, hx2]
    clear hX hX' hx1 hx2 hok
    have hUe0 := be_nil hA
    clear HR hrl
    have hne := be_ne (s := s) (by omega)
    obtain ⟨c0, hc0⟩ : ∃ c0, s[0].toNat = c0 := ⟨_, rfl⟩
    rw [hc0] at hc
    clear hs
    rcases hc with rfl | rfl
    all_goals
      go_enter Try.func118, Try.ntmps118
      go_wp2_with fail
      try simp only [hT]
      refine (HD.out _).mono ?_
      rintro e w1 ⟨rfl, rfl⟩
      go_wp2_with fail
      try simp only [hUe]
      try simp only [hUe0]
      go_wp2
      go_ret2
      exact ⟨rfl, Below.refl _ _⟩
  have hne2 := be_ne (s := U) hA
  by_cases hB : dgw (by' U) = U.size
  · have hok2 := (okD_iff U).2 hB
    have hpa := pa_ok hok2 hA
    have hsz := paN_sz U (K := 16777216) hUs
    rw [hpa.1] at hsz
    have HPa := hid (fun w => parse_any (w := w) U hUs)
    rw [hpa.1, hpa.2] at HPa
    rw [hB] at HR
    have hnn : by' U ≠ [] := fun e => by have := by_len U; rw [e] at this; simp at this; omega
    obtain ⟨v, hv⟩ : ∃ v, numD (by' U) = v := ⟨_, rfl⟩
    rw [hv] at hX HPa hsz
    clear hv hpa hB hrl
    by_cases hbig : v < two64
    · by_cases hle : v ≤ 1000
      · have hX' : exP (by' s) = some (exV true v) := by rw [hX, if_pos ⟨hnn, hok2, hle⟩]
        have hx1 : exI (by' s) = exV true v := by unfold exI; rw [hX']; rfl
        have hx2 : exB (by' s) = true := by unfold exB; rw [hX']; rfl
        rw [hx1, hx2]
        clear hX hX' hx1 hx2 hok
        have huv := numD_uv hbig
        have hdc : decide (v < two64) = true := decide_eq_true hbig
        have hV : Hid (exV true v = -(v : Int)) := by show _ = _; rfl
        rw [hV.out]
        clear hbig hnn hok2 hsz
        have hne := be_ne (s := s) (by omega)
        obtain ⟨c0, hc0⟩ : ∃ c0, s[0].toNat = c0 := ⟨_, rfl⟩
        rw [hc0] at hc
        clear hs
        rcases hc with rfl | rfl
        all_goals
          go_enter Try.func118, Try.ntmps118
          go_wp2_with fail
          try simp only [hT]
          refine (HD.out _).mono ?_
          rintro e w1 ⟨rfl, rfl⟩
          go_wp2_with fail
          try simp only [hUe]
          refine (HR.out _).mono ?_
          rintro e w2 ⟨rfl, hB2⟩
          go_wp2_with fail
          refine (HPa.out _).mono ?_
          rintro e w3 ⟨a3, n3, c3, rfl, hO3, hB3⟩
          go_wp2_with fail
          refine (uint_any hO3.rd).mono ?_
          rw [val_lm]
          rintro e w4 ⟨rfl, hB4⟩
          rw [huv, hdc]
          go_wp2
          go_ret2
          exact ⟨rfl, (hB2.next hB3).next hB4⟩
      · have hX' : exP (by' s) = none := by rw [hX, if_neg]; intro h; exact hle h.2.2
        have hx1 : exI (by' s) = 0 := by unfold exI; rw [hX']; rfl
        have hx2 : exB (by' s) = false := by unfold exB; rw [hX']; rfl
        rw [hx1, hx2]
        clear hX hX' hx1 hx2 hok
        have huv := numD_uv hbig
        have hdc : decide (v < two64) = true := decide_eq_true hbig
        have hgt : 1000 < v := by omega
        clear hbig hnn hok2 hsz hle
        have hne := be_ne (s := s) (by omega)
        obtain ⟨c0, hc0⟩ : ∃ c0, s[0].toNat = c0 := ⟨_, rfl⟩
        rw [hc0] at hc
        clear hs
        rcases hc with rfl | rfl
        all_goals
          go_enter Try.func118, Try.ntmps118
          go_wp2_with fail
          try simp only [hT]
          refine (HD.out _).mono ?_
          rintro e w1 ⟨rfl, rfl⟩
          go_wp2_with fail
          try simp only [hUe]
          refine (HR.out _).mono ?_
          rintro e w2 ⟨rfl, hB2⟩
          go_wp2_with fail
          refine (HPa.out _).mono ?_
          rintro e w3 ⟨a3, n3, c3, rfl, hO3, hB3⟩
          go_wp2_with fail
          refine (uint_any hO3.rd).mono ?_
          rw [val_lm]
          rintro e w4 ⟨rfl, hB4⟩
          rw [huv, hdc]
          go_wp2
          go_ret2
          exact ⟨rfl, (hB2.next hB3).next hB4⟩
    · have hX' : exP (by' s) = none := by rw [hX, if_neg]; intro h; exact hbig (Nat.lt_of_le_of_lt h.2.2 (by decide))
      have hx1 : exI (by' s) = 0 := by unfold exI; rw [hX']; rfl
      have hx2 : exB (by' s) = false := by unfold exB; rw [hX']; rfl
      rw [hx1, hx2]
      clear hX hX' hx1 hx2 hok
      have hdc : decide (v < two64) = false := decide_eq_false hbig
      obtain ⟨uu, huv⟩ : ∃ uu, uv v = uu := ⟨_, rfl⟩
      clear hbig hnn hok2 hsz
      have hne := be_ne (s := s) (by omega)
      obtain ⟨c0, hc0⟩ : ∃ c0, s[0].toNat = c0 := ⟨_, rfl⟩
      rw [hc0] at hc
      clear hs
      rcases hc with rfl | rfl
      all_goals
        go_enter Try.func118, Try.ntmps118
        go_wp2_with fail
        try simp only [hT]
        refine (HD.out _).mono ?_
        rintro e w1 ⟨rfl, rfl⟩
        go_wp2_with fail
        try simp only [hUe]
        refine (HR.out _).mono ?_
        rintro e w2 ⟨rfl, hB2⟩
        go_wp2_with fail
        refine (HPa.out _).mono ?_
        rintro e w3 ⟨a3, n3, c3, rfl, hO3, hB3⟩
        go_wp2_with fail
        refine (uint_any hO3.rd).mono ?_
        rw [val_lm]
        rintro e w4 ⟨rfl, hB4⟩
        rw [huv, hdc]
        go_wp2
        go_ret2
        exact ⟨rfl, (hB2.next hB3).next hB4⟩
  · have hX' : exP (by' s) = none := by rw [hX, if_neg]; intro h; exact hB (hok.1 h.2.1)
    have hx1 : exI (by' s) = 0 := by unfold exI; rw [hX']; rfl
    have hx2 : exB (by' s) = false := by unfold exB; rw [hX']; rfl
    rw [hx1, hx2]
    clear hX hX' hx1 hx2 hok
    obtain ⟨r, hr⟩ : ∃ r, dgw (by' U) = r := ⟨_, rfl⟩
    rw [hr] at HR hrl hB
    have hrI : ((r : Int) != (U.size : Int)) = true := by simp; omega
    have hne := be_ne (s := s) (by omega)
    obtain ⟨c0, hc0⟩ : ∃ c0, s[0].toNat = c0 := ⟨_, rfl⟩
    rw [hc0] at hc
    clear hs
    rcases hc with rfl | rfl
    all_goals
      go_enter Try.func118, Try.ntmps118
      go_wp2_with fail
      try simp only [hT]
      refine (HD.out _).mono ?_
      rintro e w1 ⟨rfl, rfl⟩
      go_wp2_with fail
      try simp only [hUe]
      refine (HR.out _).mono ?_
      rintro e w2 ⟨rfl, hB2⟩
      go_wp2
      go_ret2
      exact ⟨rfl, hB2⟩

set_option maxRecDepth 100000 in
set_option maxHeartbeats 2000000 in
theorem dexp_p {w : World} (s : ByteArray) (hs : s.size ≤ 16777216) (h0 : 0 < s.size) (hc : s[0].toNat = 101 ∨ s[0].toNat = 69) (hd : pfB 45 (s.extract 1 s.size) = false) (hp : pfB 43 (s.extract 1 s.size) = true) :
    Calls Try.prog 118 #[.string s] w (fun e w' => e = .returned (.tuple #[.int .i64 (exI (by' s)), .bool (exB (by' s))]) ∧ Below w.heap.size w w') := by
  obtain ⟨T, hT⟩ : ∃ T, s.extract 1 s.size = T := ⟨_, rfl⟩
  rw [hT] at hd hp
  have hTs : T.size + 1 = s.size := by rw [← hT, ByteArray.size_extract]; omega
  have hby : by' s = s[0].toNat :: by' T := by rw [← hT]; exact be_cons h0
  have hex0 : exP (by' s) = exT (by' T) := by rw [hby]; exact exP_e _ hc
  have hz : 0 < T.size := (of_decide_eq_true hp).1
  have hz1 : 1 ≤ T.size := hz
  obtain ⟨U, hUe⟩ : ∃ U, T.extract 1 T.size = U := ⟨_, rfl⟩
  have hUs : U.size ≤ 16777216 := by rw [← hUe, ByteArray.size_extract]; omega
  have hU : (exS (by' T)) = (false, by' U) := by
    have e1 := be_cons hz
    rw [pfB_cons hz] at hd hp
    have d1 := of_decide_eq_false hd
    have d2 := of_decide_eq_true hp
    rw [e1, hUe]; exact exS_p d1 d2
  have hX : exP (by' s) = if by' U ≠ [] ∧ okD (by' U) = true ∧ numD (by' U) ≤ 1000 then some (exV false (numD (by' U))) else none := by
    rw [hex0]; unfold exT; rw [hU]
  clear hU hex0 hby
  have HD := hid (fun w => pre45 (w := w) T (by omega))
  rw [hd] at HD
  have HP := hid (fun w => pre43 (w := w) T (by omega))
  rw [hp] at HP
  have HR := hid (fun w => run_any (w := w) U hUs)
  have hrl := dgw_by (s := U)
  have hok := okD_iff U
  by_cases hA : U.size = 0
  · have hX' : exP (by' s) = none := by rw [hX, if_neg]; intro h; exact h.1 (by have := by_len U; rw [hA] at this; exact List.length_eq_zero_iff.1 this)
    have hx1 : exI (by' s) = 0 := by unfold exI; rw [hX']; rfl
    have hx2 : exB (by' s) = false := by unfold exB; rw [hX']; rfl
    rw [hx1, hx2]
    clear hX hX' hx1 hx2 hok
    have hUe0 := be_nil hA
    clear HR hrl
    have hne := be_ne (s := s) (by omega)
    obtain ⟨c0, hc0⟩ : ∃ c0, s[0].toNat = c0 := ⟨_, rfl⟩
    rw [hc0] at hc
    clear hs
    rcases hc with rfl | rfl
    all_goals
      go_enter Try.func118, Try.ntmps118
      go_wp2_with fail
      try simp only [hT]
      refine (HD.out _).mono ?_
      rintro e w1 ⟨rfl, rfl⟩
      go_wp2_with fail
      refine (HP.out _).mono ?_
      rintro e w1 ⟨rfl, rfl⟩
      go_wp2_with fail
      try simp only [hUe]
      try simp only [hUe0]
      go_wp2
      go_ret2
      exact ⟨rfl, Below.refl _ _⟩
  have hne2 := be_ne (s := U) hA
  by_cases hB : dgw (by' U) = U.size
  · have hok2 := (okD_iff U).2 hB
    have hpa := pa_ok hok2 hA
    have hsz := paN_sz U (K := 16777216) hUs
    rw [hpa.1] at hsz
    have HPa := hid (fun w => parse_any (w := w) U hUs)
    rw [hpa.1, hpa.2] at HPa
    rw [hB] at HR
    have hnn : by' U ≠ [] := fun e => by have := by_len U; rw [e] at this; simp at this; omega
    obtain ⟨v, hv⟩ : ∃ v, numD (by' U) = v := ⟨_, rfl⟩
    rw [hv] at hX HPa hsz
    clear hv hpa hB hrl
    by_cases hbig : v < two64
    · by_cases hle : v ≤ 1000
      · have hX' : exP (by' s) = some (exV false v) := by rw [hX, if_pos ⟨hnn, hok2, hle⟩]
        have hx1 : exI (by' s) = exV false v := by unfold exI; rw [hX']; rfl
        have hx2 : exB (by' s) = true := by unfold exB; rw [hX']; rfl
        rw [hx1, hx2]
        clear hX hX' hx1 hx2 hok
        have huv := numD_uv hbig
        have hdc : decide (v < two64) = true := decide_eq_true hbig
        have hV : Hid (exV false v = (v : Int)) := by show _ = _; rfl
        rw [hV.out]
        clear hbig hnn hok2 hsz
        have hne := be_ne (s := s) (by omega)
        obtain ⟨c0, hc0⟩ : ∃ c0, s[0].toNat = c0 := ⟨_, rfl⟩
        rw [hc0] at hc
        clear hs
        rcases hc with rfl | rfl
        all_goals
          go_enter Try.func118, Try.ntmps118
          go_wp2_with fail
          try simp only [hT]
          refine (HD.out _).mono ?_
          rintro e w1 ⟨rfl, rfl⟩
          go_wp2_with fail
          refine (HP.out _).mono ?_
          rintro e w1 ⟨rfl, rfl⟩
          go_wp2_with fail
          try simp only [hUe]
          refine (HR.out _).mono ?_
          rintro e w2 ⟨rfl, hB2⟩
          go_wp2_with fail
          refine (HPa.out _).mono ?_
          rintro e w3 ⟨a3, n3, c3, rfl, hO3, hB3⟩
          go_wp2_with fail
          refine (uint_any hO3.rd).mono ?_
          rw [val_lm]
          rintro e w4 ⟨rfl, hB4⟩
          rw [huv, hdc]
          go_wp2
          go_ret2
          exact ⟨rfl, (hB2.next hB3).next hB4⟩
      · have hX' : exP (by' s) = none := by rw [hX, if_neg]; intro h; exact hle h.2.2
        have hx1 : exI (by' s) = 0 := by unfold exI; rw [hX']; rfl
        have hx2 : exB (by' s) = false := by unfold exB; rw [hX']; rfl
        rw [hx1, hx2]
        clear hX hX' hx1 hx2 hok
        have huv := numD_uv hbig
        have hdc : decide (v < two64) = true := decide_eq_true hbig
        have hgt : 1000 < v := by omega
        clear hbig hnn hok2 hsz hle
        have hne := be_ne (s := s) (by omega)
        obtain ⟨c0, hc0⟩ : ∃ c0, s[0].toNat = c0 := ⟨_, rfl⟩
        rw [hc0] at hc
        clear hs
        rcases hc with rfl | rfl
        all_goals
          go_enter Try.func118, Try.ntmps118
          go_wp2_with fail
          try simp only [hT]
          refine (HD.out _).mono ?_
          rintro e w1 ⟨rfl, rfl⟩
          go_wp2_with fail
          refine (HP.out _).mono ?_
          rintro e w1 ⟨rfl, rfl⟩
          go_wp2_with fail
          try simp only [hUe]
          refine (HR.out _).mono ?_
          rintro e w2 ⟨rfl, hB2⟩
          go_wp2_with fail
          refine (HPa.out _).mono ?_
          rintro e w3 ⟨a3, n3, c3, rfl, hO3, hB3⟩
          go_wp2_with fail
          refine (uint_any hO3.rd).mono ?_
          rw [val_lm]
          rintro e w4 ⟨rfl, hB4⟩
          rw [huv, hdc]
          go_wp2
          go_ret2
          exact ⟨rfl, (hB2.next hB3).next hB4⟩
    · have hX' : exP (by' s) = none := by rw [hX, if_neg]; intro h; exact hbig (Nat.lt_of_le_of_lt h.2.2 (by decide))
      have hx1 : exI (by' s) = 0 := by unfold exI; rw [hX']; rfl
      have hx2 : exB (by' s) = false := by unfold exB; rw [hX']; rfl
      rw [hx1, hx2]
      clear hX hX' hx1 hx2 hok
      have hdc : decide (v < two64) = false := decide_eq_false hbig
      obtain ⟨uu, huv⟩ : ∃ uu, uv v = uu := ⟨_, rfl⟩
      clear hbig hnn hok2 hsz
      have hne := be_ne (s := s) (by omega)
      obtain ⟨c0, hc0⟩ : ∃ c0, s[0].toNat = c0 := ⟨_, rfl⟩
      rw [hc0] at hc
      clear hs
      rcases hc with rfl | rfl
      all_goals
        go_enter Try.func118, Try.ntmps118
        go_wp2_with fail
        try simp only [hT]
        refine (HD.out _).mono ?_
        rintro e w1 ⟨rfl, rfl⟩
        go_wp2_with fail
        refine (HP.out _).mono ?_
        rintro e w1 ⟨rfl, rfl⟩
        go_wp2_with fail
        try simp only [hUe]
        refine (HR.out _).mono ?_
        rintro e w2 ⟨rfl, hB2⟩
        go_wp2_with fail
        refine (HPa.out _).mono ?_
        rintro e w3 ⟨a3, n3, c3, rfl, hO3, hB3⟩
        go_wp2_with fail
        refine (uint_any hO3.rd).mono ?_
        rw [val_lm]
        rintro e w4 ⟨rfl, hB4⟩
        rw [huv, hdc]
        go_wp2
        go_ret2
        exact ⟨rfl, (hB2.next hB3).next hB4⟩
  · have hX' : exP (by' s) = none := by rw [hX, if_neg]; intro h; exact hB (hok.1 h.2.1)
    have hx1 : exI (by' s) = 0 := by unfold exI; rw [hX']; rfl
    have hx2 : exB (by' s) = false := by unfold exB; rw [hX']; rfl
    rw [hx1, hx2]
    clear hX hX' hx1 hx2 hok
    obtain ⟨r, hr⟩ : ∃ r, dgw (by' U) = r := ⟨_, rfl⟩
    rw [hr] at HR hrl hB
    have hrI : ((r : Int) != (U.size : Int)) = true := by simp; omega
    have hne := be_ne (s := s) (by omega)
    obtain ⟨c0, hc0⟩ : ∃ c0, s[0].toNat = c0 := ⟨_, rfl⟩
    rw [hc0] at hc
    clear hs
    rcases hc with rfl | rfl
    all_goals
      go_enter Try.func118, Try.ntmps118
      go_wp2_with fail
      try simp only [hT]
      refine (HD.out _).mono ?_
      rintro e w1 ⟨rfl, rfl⟩
      go_wp2_with fail
      refine (HP.out _).mono ?_
      rintro e w1 ⟨rfl, rfl⟩
      go_wp2_with fail
      try simp only [hUe]
      refine (HR.out _).mono ?_
      rintro e w2 ⟨rfl, hB2⟩
      go_wp2
      go_ret2
      exact ⟨rfl, hB2⟩

set_option maxRecDepth 100000 in
set_option maxHeartbeats 2000000 in
theorem dexp_z {w : World} (s : ByteArray) (hs : s.size ≤ 16777216) (h0 : 0 < s.size) (hc : s[0].toNat = 101 ∨ s[0].toNat = 69) (hd : pfB 45 (s.extract 1 s.size) = false) (hp : pfB 43 (s.extract 1 s.size) = false) :
    Calls Try.prog 118 #[.string s] w (fun e w' => e = .returned (.tuple #[.int .i64 (exI (by' s)), .bool (exB (by' s))]) ∧ Below w.heap.size w w') := by
  obtain ⟨T, hT⟩ : ∃ T, s.extract 1 s.size = T := ⟨_, rfl⟩
  rw [hT] at hd hp
  have hTs : T.size + 1 = s.size := by rw [← hT, ByteArray.size_extract]; omega
  have hby : by' s = s[0].toNat :: by' T := by rw [← hT]; exact be_cons h0
  have hex0 : exP (by' s) = exT (by' T) := by rw [hby]; exact exP_e _ hc
  have hU : (exS (by' T)) = (false, by' T) := by
    by_cases hz : 0 < T.size
    · have e1 := be_cons hz
      rw [pfB_cons hz] at hd hp
      have d1 := of_decide_eq_false hd
      have d2 := of_decide_eq_false hp
      rw [e1]; exact exS_z d1 d2
    · rw [be_nil (s := T) (by omega)]; rfl
  have hUs : T.size ≤ 16777216 := by omega
  have hX : exP (by' s) = if by' T ≠ [] ∧ okD (by' T) = true ∧ numD (by' T) ≤ 1000 then some (exV false (numD (by' T))) else none := by
    rw [hex0]; unfold exT; rw [hU]
  clear hU hex0 hby
  have HD := hid (fun w => pre45 (w := w) T (by omega))
  rw [hd] at HD
  have HP := hid (fun w => pre43 (w := w) T (by omega))
  rw [hp] at HP
  have HR := hid (fun w => run_any (w := w) T hUs)
  have hrl := dgw_by (s := T)
  have hok := okD_iff T
  by_cases hA : T.size = 0
  · have hX' : exP (by' s) = none := by rw [hX, if_neg]; intro h; exact h.1 (by have := by_len T; rw [hA] at this; exact List.length_eq_zero_iff.1 this)
    have hx1 : exI (by' s) = 0 := by unfold exI; rw [hX']; rfl
    have hx2 : exB (by' s) = false := by unfold exB; rw [hX']; rfl
    rw [hx1, hx2]
    clear hX hX' hx1 hx2 hok
    have hUe0 := be_nil hA
    subst hUe0
    clear HR hrl
    have hne := be_ne (s := s) (by omega)
    obtain ⟨c0, hc0⟩ : ∃ c0, s[0].toNat = c0 := ⟨_, rfl⟩
    rw [hc0] at hc
    clear hs
    rcases hc with rfl | rfl
    all_goals
      go_enter Try.func118, Try.ntmps118
      go_wp2_with fail
      try simp only [hT]
      refine (HD.out _).mono ?_
      rintro e w1 ⟨rfl, rfl⟩
      go_wp2_with fail
      refine (HP.out _).mono ?_
      rintro e w1 ⟨rfl, rfl⟩
      go_wp2_with fail
      go_wp2
      go_ret2
      exact ⟨rfl, Below.refl _ _⟩
  have hne2 := be_ne (s := T) hA
  by_cases hB : dgw (by' T) = T.size
  · have hok2 := (okD_iff T).2 hB
    have hpa := pa_ok hok2 hA
    have hsz := paN_sz T (K := 16777216) hUs
    rw [hpa.1] at hsz
    have HPa := hid (fun w => parse_any (w := w) T hUs)
    rw [hpa.1, hpa.2] at HPa
    rw [hB] at HR
    have hnn : by' T ≠ [] := fun e => by have := by_len T; rw [e] at this; simp at this; omega
    obtain ⟨v, hv⟩ : ∃ v, numD (by' T) = v := ⟨_, rfl⟩
    rw [hv] at hX HPa hsz
    clear hv hpa hB hrl
    by_cases hbig : v < two64
    · by_cases hle : v ≤ 1000
      · have hX' : exP (by' s) = some (exV false v) := by rw [hX, if_pos ⟨hnn, hok2, hle⟩]
        have hx1 : exI (by' s) = exV false v := by unfold exI; rw [hX']; rfl
        have hx2 : exB (by' s) = true := by unfold exB; rw [hX']; rfl
        rw [hx1, hx2]
        clear hX hX' hx1 hx2 hok
        have huv := numD_uv hbig
        have hdc : decide (v < two64) = true := decide_eq_true hbig
        have hV : Hid (exV false v = (v : Int)) := by show _ = _; rfl
        rw [hV.out]
        clear hbig hnn hok2 hsz
        have hne := be_ne (s := s) (by omega)
        obtain ⟨c0, hc0⟩ : ∃ c0, s[0].toNat = c0 := ⟨_, rfl⟩
        rw [hc0] at hc
        clear hs
        rcases hc with rfl | rfl
        all_goals
          go_enter Try.func118, Try.ntmps118
          go_wp2_with fail
          try simp only [hT]
          refine (HD.out _).mono ?_
          rintro e w1 ⟨rfl, rfl⟩
          go_wp2_with fail
          refine (HP.out _).mono ?_
          rintro e w1 ⟨rfl, rfl⟩
          go_wp2_with fail
          refine (HR.out _).mono ?_
          rintro e w2 ⟨rfl, hB2⟩
          go_wp2_with fail
          refine (HPa.out _).mono ?_
          rintro e w3 ⟨a3, n3, c3, rfl, hO3, hB3⟩
          go_wp2_with fail
          refine (uint_any hO3.rd).mono ?_
          rw [val_lm]
          rintro e w4 ⟨rfl, hB4⟩
          rw [huv, hdc]
          go_wp2
          go_ret2
          exact ⟨rfl, (hB2.next hB3).next hB4⟩
      · have hX' : exP (by' s) = none := by rw [hX, if_neg]; intro h; exact hle h.2.2
        have hx1 : exI (by' s) = 0 := by unfold exI; rw [hX']; rfl
        have hx2 : exB (by' s) = false := by unfold exB; rw [hX']; rfl
        rw [hx1, hx2]
        clear hX hX' hx1 hx2 hok
        have huv := numD_uv hbig
        have hdc : decide (v < two64) = true := decide_eq_true hbig
        have hgt : 1000 < v := by omega
        clear hbig hnn hok2 hsz hle
        have hne := be_ne (s := s) (by omega)
        obtain ⟨c0, hc0⟩ : ∃ c0, s[0].toNat = c0 := ⟨_, rfl⟩
        rw [hc0] at hc
        clear hs
        rcases hc with rfl | rfl
        all_goals
          go_enter Try.func118, Try.ntmps118
          go_wp2_with fail
          try simp only [hT]
          refine (HD.out _).mono ?_
          rintro e w1 ⟨rfl, rfl⟩
          go_wp2_with fail
          refine (HP.out _).mono ?_
          rintro e w1 ⟨rfl, rfl⟩
          go_wp2_with fail
          refine (HR.out _).mono ?_
          rintro e w2 ⟨rfl, hB2⟩
          go_wp2_with fail
          refine (HPa.out _).mono ?_
          rintro e w3 ⟨a3, n3, c3, rfl, hO3, hB3⟩
          go_wp2_with fail
          refine (uint_any hO3.rd).mono ?_
          rw [val_lm]
          rintro e w4 ⟨rfl, hB4⟩
          rw [huv, hdc]
          go_wp2
          go_ret2
          exact ⟨rfl, (hB2.next hB3).next hB4⟩
    · have hX' : exP (by' s) = none := by rw [hX, if_neg]; intro h; exact hbig (Nat.lt_of_le_of_lt h.2.2 (by decide))
      have hx1 : exI (by' s) = 0 := by unfold exI; rw [hX']; rfl
      have hx2 : exB (by' s) = false := by unfold exB; rw [hX']; rfl
      rw [hx1, hx2]
      clear hX hX' hx1 hx2 hok
      have hdc : decide (v < two64) = false := decide_eq_false hbig
      obtain ⟨uu, huv⟩ : ∃ uu, uv v = uu := ⟨_, rfl⟩
      clear hbig hnn hok2 hsz
      have hne := be_ne (s := s) (by omega)
      obtain ⟨c0, hc0⟩ : ∃ c0, s[0].toNat = c0 := ⟨_, rfl⟩
      rw [hc0] at hc
      clear hs
      rcases hc with rfl | rfl
      all_goals
        go_enter Try.func118, Try.ntmps118
        go_wp2_with fail
        try simp only [hT]
        refine (HD.out _).mono ?_
        rintro e w1 ⟨rfl, rfl⟩
        go_wp2_with fail
        refine (HP.out _).mono ?_
        rintro e w1 ⟨rfl, rfl⟩
        go_wp2_with fail
        refine (HR.out _).mono ?_
        rintro e w2 ⟨rfl, hB2⟩
        go_wp2_with fail
        refine (HPa.out _).mono ?_
        rintro e w3 ⟨a3, n3, c3, rfl, hO3, hB3⟩
        go_wp2_with fail
        refine (uint_any hO3.rd).mono ?_
        rw [val_lm]
        rintro e w4 ⟨rfl, hB4⟩
        rw [huv, hdc]
        go_wp2
        go_ret2
        exact ⟨rfl, (hB2.next hB3).next hB4⟩
  · have hX' : exP (by' s) = none := by rw [hX, if_neg]; intro h; exact hB (hok.1 h.2.1)
    have hx1 : exI (by' s) = 0 := by unfold exI; rw [hX']; rfl
    have hx2 : exB (by' s) = false := by unfold exB; rw [hX']; rfl
    rw [hx1, hx2]
    clear hX hX' hx1 hx2 hok
    obtain ⟨r, hr⟩ : ∃ r, dgw (by' T) = r := ⟨_, rfl⟩
    rw [hr] at HR hrl hB
    have hrI : ((r : Int) != (T.size : Int)) = true := by simp; omega
    have hne := be_ne (s := s) (by omega)
    obtain ⟨c0, hc0⟩ : ∃ c0, s[0].toNat = c0 := ⟨_, rfl⟩
    rw [hc0] at hc
    clear hs
    rcases hc with rfl | rfl
    all_goals
      go_enter Try.func118, Try.ntmps118
      go_wp2_with fail
      try simp only [hT]
      refine (HD.out _).mono ?_
      rintro e w1 ⟨rfl, rfl⟩
      go_wp2_with fail
      refine (HP.out _).mono ?_
      rintro e w1 ⟨rfl, rfl⟩
      go_wp2_with fail
      refine (HR.out _).mono ?_
      rintro e w2 ⟨rfl, hB2⟩
      go_wp2
      go_ret2
      exact ⟨rfl, hB2⟩

set_option maxRecDepth 100000 in
set_option maxHeartbeats 2000000 in
theorem dexp {w : World} (s : ByteArray) (hs : s.size ≤ 16777216) :
    Calls Try.prog 118 #[.string s] w (fun e w' => e = .returned (.tuple #[.int .i64 (exI (by' s)), .bool (exB (by' s))]) ∧ Below w.heap.size w w') := by
  by_cases h0 : 0 < s.size
  · by_cases hc : s[0].toNat = 101 ∨ s[0].toNat = 69
    · cases hd : pfB 45 (s.extract 1 s.size)
      · cases hp : pfB 43 (s.extract 1 s.size)
        · exact dexp_z s hs h0 hc hd hp
        · exact dexp_p s hs h0 hc hd hp
      · exact dexp_n s hs h0 hc hd
    · have hX : exP (by' s) = none := by rw [be_cons h0]; exact exP_no _ hc
      have hx1 : exI (by' s) = 0 := by unfold exI; rw [hX]; rfl
      have hx2 : exB (by' s) = false := by unfold exB; rw [hX]; rfl
      rw [hx1, hx2]
      have hne := be_ne (s := s) (by omega)
      obtain ⟨c0, hc0⟩ : ∃ c0, s[0].toNat = c0 := ⟨_, rfl⟩
      rw [hc0] at hc
      have hc1 : c0 ≠ 101 := fun e => hc (.inl e)
      have hc2 : c0 ≠ 69 := fun e => hc (.inr e)
      have hd3 : ((c0 : Int) != 101) = true := by simp; omega
      have hd4 : ((c0 : Int) != 69) = true := by simp; omega
      clear hc hc1 hc2 hX hx1 hx2 hs
      go_enter Try.func118, Try.ntmps118
      go_wp2
      go_ret2
      exact ⟨rfl, Below.refl _ _⟩
  · have hx : exI (by' ⟨#[]⟩) = 0 ∧ exB (by' ⟨#[]⟩) = true := ⟨rfl, rfl⟩
    obtain rfl := be_nil (s := s) (by omega)
    rw [hx.1, hx.2]
    clear hx
    go_enter Try.func118, Try.ntmps118
    go_wp2
    go_ret2
    exact ⟨rfl, Below.refl _ _⟩
end Go.Proofs.Ytbodlkfhmapngaa
