/- PLAIN LAW: decimal numbers written and read again; as few digits as can be; off by at most half of the last digit. No program in sight. -/
import Derived.Test.YtnpkmlpmeeidbaaEa
import Derived.Test.YtnpkmlpmeeidbaaPn
namespace Go.NatP
set_option linter.unusedSimpArgs false

theorem okD_rep (k : Nat) : okD (List.replicate k 48) = true := by
  rw [okD_all, List.all_eq_true]
  intro x hx
  rw [List.eq_of_mem_replicate hx]
  rfl
theorem okD_pad (v k : Nat) : okD (pad (tx v) k) = true := by
  unfold pad
  rw [okD_append, okD_tx, okD_rep]
  rfl
theorem numD_pad (v k : Nat) : numD (pad (tx v) k) = v := by
  unfold pad
  rw [numD_append, numD_zeros, numD_tx, Nat.zero_mul, Nat.zero_add]
theorem okD_parts {l : List Nat} (h : okD l = true) (i : Nat) : okD (l.take i) = true ∧ okD (l.drop i) = true := by
  rw [← List.take_append_drop i l, okD_append, Bool.and_eq_true] at h
  exact h
theorem dgA_app {A t : List Nat} {c : Nat} (h : okD A = true) (hc : isD c = false) : dgA (A ++ c :: t) = A ∧ dgB (A ++ c :: t) = c :: t := by
  induction A with
  | nil => unfold dgA dgB; rw [List.nil_append, List.takeWhile_cons, List.dropWhile_cons, hc]; exact ⟨rfl, rfl⟩
  | cons a A ih =>
    rw [okD_cons, Bool.and_eq_true] at h
    obtain ⟨h1, h2⟩ := ih h.2
    unfold dgA dgB at *
    rw [List.cons_append, List.takeWhile_cons, List.dropWhile_cons, h.1]
    exact ⟨by rw [if_pos rfl, h1], by rw [if_pos rfl, h2]⟩
theorem dgB_ok {A : List Nat} (h : okD A = true) : dgB A = [] := by
  have h1 := dgAB A
  rw [dgA_all h] at h1
  simpa using h1
/-- the digits ahead of the point and behind it -/
theorem ptd_split {v k : Nat} (hk : k ≠ 0) : ∃ A B, ptd v k = A ++ 46 :: B ∧ A ++ B = pad (tx v) k ∧ B.length = k ∧ A ≠ [] ∧ okD A = true ∧ okD B = true := by
  have hl := pad_len (tx v) k
  have ho := okD_parts (okD_pad v k) ((pad (tx v) k).length - k)
  refine ⟨_, _, if_neg hk, List.take_append_drop _ _, by rw [List.length_drop]; omega, fun h => ?_, ho.1, ho.2⟩
  have := congrArg List.length h
  rw [List.length_take, List.length_nil] at this
  omega
theorem pad_zero (v : Nat) : pad (tx v) 0 = tx v := pad_long (by have := tx_ne v; exact List.length_pos_iff.2 this)
theorem dcU_ptd (v k : Nat) : dcU (ptd v k) = some (pad (tx v) k, -(k : Int)) := by
  by_cases hk : k = 0
  · subst hk
    rw [show ptd v 0 = tx v from if_pos rfl, pad_zero]
    unfold dcU
    rw [dgB_ok (okD_tx v)]
    show dcG _ _ _ = _
    unfold dcG
    rw [dgA_all (okD_tx v), if_neg (tx_ne v), exP_nil]
    simp
  · obtain ⟨A, B, h1, h2, h3, h4, h5, h6⟩ := ptd_split (v := v) hk
    obtain ⟨h7, h8⟩ := dgA_app (t := B) h5 (show isD 46 = false from rfl)
    have hB : B ≠ [] := fun h => hk (by rw [h] at h3; exact h3.symm)
    rw [h1]
    unfold dcU
    rw [h8]
    show (if (46 : Nat) = 46 then (if dgA B = [] then none else dcG (dgA (A ++ 46 :: B)) (dgA B) (dgB B)) else dcG (dgA (A ++ 46 :: B)) [] (46 :: B)) = _
    rw [if_pos rfl, dgA_all h6, if_neg hB, h7, dgB_ok h6]
    unfold dcG
    rw [if_neg h4, exP_nil, ← h2, ← h3]
    simp
theorem ptd_head (v k : Nat) : ∃ c t, ptd v k = c :: t ∧ 48 ≤ c ∧ c ≤ 57 := by
  by_cases hk : k = 0
  · subst hk
    rw [show ptd v 0 = tx v from if_pos rfl]
    cases h : tx v with
    | nil => exact absurd h (tx_ne v)
    | cons c t => exact ⟨c, t, rfl, okD_get (okD_tx v) (h ▸ List.mem_cons_self ..)⟩
  · obtain ⟨A, B, h1, h2, h3, h4, h5, h6⟩ := ptd_split (v := v) hk
    cases A with
    | nil => exact absurd rfl h4
    | cons c t => exact ⟨c, t ++ 46 :: B, h1, okD_get h5 (List.mem_cons_self ..)⟩
/-- a sign ahead of a text -/
def sgn1 (b : Bool) (l : List Nat) : List Nat := if b = true then 45 :: l else l
theorem dcP_ptd (b : Bool) (v k : Nat) : dcP (sgn1 b (ptd v k)) = some (b, pad (tx v) k, -(k : Int)) := by
  unfold dcP
  cases b
  · obtain ⟨c, t, h1, h2, h3⟩ := ptd_head v k
    have : sgS (ptd v k) = (false, ptd v k) := by rw [h1]; unfold sgS; exact if_neg (by omega)
    show (dcU (sgS (ptd v k)).2).map (fun p => ((sgS (ptd v k)).1, p)) = _
    rw [this, dcU_ptd]
    rfl
  · show (dcU (ptd v k)).map (fun p => (true, p)) = _
    rw [dcU_ptd]
    rfl
theorem dcV_ptd (b : Bool) (v k : Nat) : dcV (b, pad (tx v) k, -(k : Int)) = mkRat (zv b v) (10 ^ k) := by
  unfold dcV
  dsimp only
  rw [numD_pad]
  by_cases hk : k = 0
  · subst hk
    rw [if_pos (by omega)]
    simp
  · rw [if_neg (by omega), show (-(-(k : Int))).toNat = k by omega]
/-- what is written is read again -/
theorem dc_ptd (b : Bool) (v k : Nat) : dcQ (sgn1 b (ptd v k)) = mkRat (zv b v) (10 ^ k) ∧ dcE (sgn1 b (ptd v k)) = 0 := by
  unfold dcQ dcE
  rw [dcP_ptd]
  exact ⟨dcV_ptd b v k, rfl⟩

/-! ### as few digits as can be -/
theorem dl_head : ∀ n v, v ≤ n → v ≠ 0 → ∃ c t, (dl v).reverse = c :: t ∧ c ≠ 0
  | 0, v, h, h0 => absurd (Nat.le_zero.1 h) h0
  | n + 1, v, h, h0 => by
    rw [dl_pos h0, List.reverse_cons]
    by_cases h1 : v / 10 = 0
    · rw [h1]
      exact ⟨v % 10, [], rfl, by omega⟩
    · obtain ⟨c, t, h2, h3⟩ := dl_head n (v / 10) (by omega) h1
      rw [h2]
      exact ⟨c, t ++ [v % 10], rfl, h3⟩
theorem tx_head {v : Nat} {t : List Nat} (h : tx v = 48 :: t) : v = 0 ∧ t = [] := by
  by_cases h0 : v = 0
  · subst h0
    rw [show tx 0 = [48] from rfl] at h
    injection h with _ h
    exact ⟨rfl, h.symm⟩
  · obtain ⟨c, u, h1, h2⟩ := dl_head v v (Nat.le_refl _) h0
    unfold tx at h
    rw [if_neg h0, h1, List.map_cons] at h
    injection h with h _
    omega
theorem tx_snoc (v : Nat) : ∃ P, tx v = P ++ [v % 10 + 48] := by
  by_cases h0 : v = 0
  · subst h0; exact ⟨[], rfl⟩
  · unfold tx
    rw [if_neg h0, dl_pos h0, List.reverse_cons, List.map_append]
    exact ⟨_, rfl⟩
theorem ptd_snoc {v k : Nat} (hk : k ≠ 0) : ∃ P, ptd v k = P ++ [v % 10 + 48] := by
  obtain ⟨A, B, h1, h2, h3, h4, h5, h6⟩ := ptd_split (v := v) hk
  obtain ⟨P, hP⟩ := tx_snoc v
  have hB : B ≠ [] := fun h => hk (by rw [h] at h3; exact h3.symm)
  have hlast : B.getLast hB = v % 10 + 48 := by
    have e1 : (A ++ B).getLast? = some (B.getLast hB) := by rw [List.getLast?_append, List.getLast?_eq_some_getLast hB]; rfl
    rw [h2] at e1
    unfold pad at e1
    rw [hP, List.getLast?_append, List.getLast?_append] at e1
    simp at e1
    exact e1.symm
  refine ⟨A ++ 46 :: B.dropLast, ?_⟩
  rw [h1, List.append_assoc, List.cons_append, ← hlast, List.dropLast_concat_getLast]
/-- where the point stands: nowhere (the text's length is told then), or ahead of the last k digits -/
def ptP (v k : Nat) : Nat := if k = 0 then (ptd v k).length else (ptd v k).length - (k + 1)
theorem ptd_point (v k : Nat) : ∀ j, j < (ptd v k).length → ((ptd v k).getD j 0 = 46 ↔ j = ptP v k) := by
  intro j hj
  by_cases hk : k = 0
  · subst hk
    have h1 : ptd v 0 = tx v := if_pos rfl
    unfold ptP
    rw [if_pos rfl]
    have h2 : 48 ≤ (ptd v 0).getD j 0 := by
      rw [h1] at hj ⊢
      rw [List.getD_eq_getElem?_getD, List.getElem?_eq_getElem hj]
      exact (okD_get (okD_tx v) (List.getElem_mem hj)).1
    omega
  · obtain ⟨A, B, h1, h2, h3, h4, h5, h6⟩ := ptd_split (v := v) hk
    unfold ptP
    rw [if_neg hk]
    rw [h1] at hj ⊢
    have hl : (A ++ 46 :: B).length = A.length + (k + 1) := by simp [h3]
    rw [hl] at hj ⊢
    rw [Nat.add_sub_cancel, List.getD_eq_getElem?_getD]
    rcases Nat.lt_trichotomy j A.length with h | h | h
    · rw [List.getElem?_append_left h, List.getElem?_eq_getElem h]
      have := okD_get h5 (List.getElem_mem h)
      simp
      omega
    · subst h
      simp
    · rw [List.getElem?_append_right (by omega)]
      obtain ⟨i, hi⟩ : ∃ i, j - A.length = i + 1 := ⟨j - A.length - 1, by omega⟩
      rw [hi, List.getElem?_cons_succ, List.getElem?_eq_getElem (show i < B.length by omega)]
      have := okD_get h6 (List.getElem_mem (show i < B.length by omega))
      simp
      omega
theorem ptP_lt {v k : Nat} (hk : k ≠ 0) : 0 < ptP v k ∧ ptP v k + k + 1 = (ptd v k).length := by
  obtain ⟨A, B, h1, h2, h3, h4, h5, h6⟩ := ptd_split (v := v) hk
  have hl : (ptd v k).length = A.length + (k + 1) := by rw [h1]; simp [h3]
  have := List.length_pos_iff.2 h4
  unfold ptP
  rw [if_neg hk]
  omega
/-- no nought stands needlessly ahead -/
theorem ptd_lead {v k : Nat} (h1 : 1 < (ptd v k).length) (h2 : (ptd v k).getD 0 0 = 48) : (ptd v k).getD 1 0 = 46 := by
  by_cases hk : k = 0
  · subst hk
    have e : ptd v 0 = tx v := if_pos rfl
    rw [e] at h1 h2
    cases ht : tx v with
    | nil => exact absurd ht (tx_ne v)
    | cons c t =>
      rw [ht] at h1 h2
      have hc : c = 48 := by simpa using h2
      subst hc
      obtain ⟨_, rfl⟩ := tx_head ht
      simp at h1
  · obtain ⟨A, B, e1, e2, e3, e4, e5, e6⟩ := ptd_split (v := v) hk
    rw [e1] at h2 ⊢
    cases A with
    | nil => exact absurd rfl e4
    | cons c A =>
      have hc : c = 48 := by simpa using h2
      subst hc
      cases A with
      | nil => rfl
      | cons x A =>
        exfalso
        have hl := pad_len (tx v) k
        rw [← e2] at hl
        simp at hl
        have ht : pad (tx v) k = tx v := pad_long (by omega)
        rw [ht] at e2
        obtain ⟨_, h⟩ := tx_head e2.symm
        cases h
theorem getD_snoc {P : List Nat} {c : Nat} : (P ++ [c]).getD ((P ++ [c]).length - 1) 0 = c := by
  simp [List.getD_eq_getElem?_getD]
theorem ptd_last {v k : Nat} (hk : k ≠ 0) : (ptd v k).getD ((ptd v k).length - 1) 0 = v % 10 + 48 := by
  obtain ⟨P, h⟩ := ptd_snoc (v := v) hk
  rw [h]
  exact getD_snoc
/-- written exactly: the number above the power of ten -/
theorem ex_mul {q : Rat} {n : Nat} (h : ExIs q.den (some n)) : (q.num.natAbs * 10 ^ n / q.den) * q.den = q.num.natAbs * 10 ^ n :=
  Nat.div_mul_cancel (Nat.dvd_trans h.2.1 (Nat.dvd_mul_left _ _))
theorem zv_muln (s : Bool) (a b : Nat) : zv s (a * b) = zv s a * (b : Int) := by
  unfold zv
  split
  · rw [Int.natCast_mul, Int.neg_mul]
  · rw [Int.natCast_mul]
theorem ex_back {q : Rat} {n : Nat} (h : ExIs q.den (some n)) : mkRat (zv (decide (q.num < 0)) (q.num.natAbs * 10 ^ n / q.den)) (10 ^ n) = q := by
  have h1 := ex_mul h
  conv => rhs; rw [← Rat.mkRat_self q]
  rw [Rat.mkRat_eq_iff (Nat.ne_of_gt (Nat.pow_pos (by decide))) q.den_nz, ← zv_muln, h1, zv_muln, zv_self]
theorem ex_last {q : Rat} {n : Nat} (h : ExIs q.den (some n)) (hn : n ≠ 0) : (q.num.natAbs * 10 ^ n / q.den) % 10 ≠ 0 := by
  have h1 := ex_mul h
  intro h0
  obtain ⟨u, hu⟩ := Nat.dvd_of_mod_eq_zero h0
  rw [hu] at h1
  obtain ⟨m, rfl⟩ : ∃ m, n = m + 1 := ⟨n - 1, by omega⟩
  have h2 : u * q.den = q.num.natAbs * 10 ^ m := by
    rw [Nat.pow_succ, ← Nat.mul_assoc, Nat.mul_assoc 10 u, Nat.mul_comm 10] at h1
    exact Nat.eq_of_mul_eq_mul_right (by decide) h1
  have h3 : q.den ∣ q.num.natAbs * 10 ^ m := ⟨u, by rw [← h2, Nat.mul_comm]⟩
  exact h.2.2 m (by omega) (Nat.Coprime.dvd_of_dvd_mul_left q.reduced.symm h3)
/-- where there is none, no power of ten up to the hundredth makes it whole -/
theorem ex_none_whole {q : Rat} (h : ExIs q.den none) (k : Nat) (hk : k ≤ 4096) : (q * ((10 ^ k : Nat) : Rat)).den ≠ 1 := by
  intro h1
  obtain ⟨P, hP⟩ : ∃ P, 10 ^ k = P := ⟨_, rfl⟩
  have h2 := h k hk
  rw [hP] at h1 h2
  have h3 : q * (P : Rat) = mkRat (q.num * P) q.den := by
    conv => lhs; rw [← Rat.mkRat_self q, show ((P : Nat) : Rat) = mkRat (P : Int) 1 from (Rat.mkRat_one (P : Int)).symm]
    rw [Rat.mkRat_mul_mkRat, Nat.mul_one]
  have h4 : q * (P : Rat) = mkRat (q * (P : Rat)).num 1 := by
    conv => lhs; rw [← Rat.mkRat_self (q * (P : Rat)), h1]
  rw [h3] at h4
  generalize (mkRat (q.num * P) q.den).num = m at h4
  rw [Rat.mkRat_eq_iff q.den_nz (by decide)] at h4
  have h5 : q.den ∣ q.num.natAbs * P := by
    refine ⟨m.natAbs, ?_⟩
    have := congrArg Int.natAbs h4
    rw [Int.natAbs_mul, Int.natAbs_mul, Int.natAbs_mul] at this
    simp at this
    rw [this, Nat.mul_comm]
  exact h2 (Nat.Coprime.dvd_of_dvd_mul_left q.reduced.symm h5)
end Go.NatP
