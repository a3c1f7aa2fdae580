/- PLAIN ARITHMETIC, 14: digits written and read. No program in sight. -/
import Derived.Test.YtnpkmlpmeeidbaaPP
namespace Go.NatP
set_option linter.unusedVariables false

theorem numD_fold (l : List Nat) : ∀ v, l.foldl (fun v c => 10 * v + (c - 48)) v = v * 10 ^ l.length + numD l := by
  induction l with
  | nil => intro v; simp [numD]
  | cons c l ih =>
    intro v
    have e : numD (c :: l) = (10 * 0 + (c - 48)) * 10 ^ l.length + numD l := ih _
    rw [List.foldl_cons, ih, e, List.length_cons, Nat.pow_succ]
    simp only [Nat.mul_zero, Nat.zero_add, Nat.add_mul]
    have : 10 * v * 10 ^ l.length = v * (10 ^ l.length * 10) := by grind
    omega
theorem numD_append (l m : List Nat) : numD (l ++ m) = numD l * 10 ^ m.length + numD m := by
  unfold numD
  rw [List.foldl_append, numD_fold]
  rfl
theorem okD_append (l m : List Nat) : okD (l ++ m) = (okD l && okD m) := by simp [okD]
theorem numD_zeros (k : Nat) : numD (List.replicate k 48) = 0 := by
  induction k with
  | zero => rfl
  | succ k ih => rw [List.replicate_succ', numD_snoc, ih]
theorem numD_dl (n : Nat) : numD ((dl n).reverse.map (· + 48)) = n := by
  induction n using Nat.strongRecOn with
  | ind n ih =>
    by_cases h : n = 0
    · subst h; rw [dl_zero]; rfl
    · rw [dl_pos h, List.reverse_cons, List.map_append, List.map_cons, List.map_nil, numD_snoc, ih (n / 10) (by omega)]
      omega
theorem numD_tx (n : Nat) : numD (tx n) = n := by
  unfold tx
  split
  · rename_i h; rw [h]; rfl
  · exact numD_dl n
theorem okD_tx (n : Nat) : okD (tx n) = true := by
  unfold tx
  split
  · rfl
  · simp only [okD, List.all_eq_true, Bool.and_eq_true, decide_eq_true_eq, List.mem_map, List.mem_reverse]
    rintro x ⟨d, hd, rfl⟩
    have := dl_lt n d hd
    omega
theorem tx_ne (n : Nat) : tx n ≠ [] := by
  unfold tx
  split
  · simp
  · rename_i h; rw [dl_pos h]; simp
theorem paN_tx (n : Nat) : paN (tx n) = n ∧ paE (tx n) = 0 := by
  unfold paN paE
  rw [if_pos ⟨tx_ne n, okD_tx n⟩, if_pos ⟨tx_ne n, okD_tx n⟩]
  exact ⟨numD_tx n, rfl⟩
theorem paN_ok {l : List Nat} (h : l ≠ []) (ho : okD l = true) : paN l = numD l ∧ paE l = 0 := by
  unfold paN paE
  rw [if_pos ⟨h, ho⟩, if_pos ⟨h, ho⟩]
  exact ⟨rfl, rfl⟩

theorem okD_get {l : List Nat} (h : okD l = true) {c : Nat} (hc : c ∈ l) : 48 ≤ c ∧ c ≤ 57 := by
  simp only [okD, List.all_eq_true, Bool.and_eq_true, decide_eq_true_eq] at h
  exact h c hc
theorem numD_cons (c : Nat) (l : List Nat) : numD (c :: l) = (c - 48) * 10 ^ l.length + numD l := by
  have := numD_append [c] l
  simpa [numD] using this
/-- digits without a nought ahead: they are the number's -/
theorem dl_numD (n : Nat) : ∀ c l, l.length = n → okD (c :: l) = true → c ≠ 48 → dl (numD (c :: l)) = ((c :: l).map (· - 48)).reverse := by
  induction n with
  | zero =>
    intro c l hl ho hc
    obtain rfl : l = [] := List.eq_nil_of_length_eq_zero hl
    have h1 := okD_get ho (c := c) (by simp)
    have e : numD [c] = c - 48 := by simp [numD]
    rw [e, dl_pos (by omega), show (c - 48) / 10 = 0 by omega, dl_zero, Nat.mod_eq_of_lt (by omega)]
    rfl
  | succ n ih =>
    intro c l hl ho hc
    obtain ⟨m, x, rfl⟩ : ∃ m x, l = m ++ [x] := by
      rcases List.eq_nil_or_concat l with h | ⟨m, x, h⟩
      · subst h; simp at hl
      · exact ⟨m, x, by simpa using h⟩
    have ho2 : okD (c :: m) = true ∧ (48 ≤ x ∧ x ≤ 57) := by
      have h1 := okD_append (c :: m) [x]
      rw [List.cons_append, ho] at h1
      have h2 : okD (c :: m) = true ∧ okD [x] = true := by
        cases h3 : okD (c :: m) <;> cases h4 : okD [x] <;> simp [h3, h4] at h1 ⊢
      exact ⟨h2.1, okD_get h2.2 (by simp)⟩
    have h3 := ih c m (by simpa using hl) ho2.1 hc
    have e : numD (c :: (m ++ [x])) = 10 * numD (c :: m) + (x - 48) := by rw [← List.cons_append, numD_snoc]
    have hc1 := okD_get ho2.1 (c := c) (by simp)
    have hpos : 0 < numD (c :: m) := by
      rw [numD_cons]
      have : 0 < (c - 48) * 10 ^ m.length := Nat.mul_pos (by omega) (Nat.pow_pos (by decide))
      omega
    rw [e, dl_pos (by omega), show (10 * numD (c :: m) + (x - 48)) / 10 = numD (c :: m) by omega, h3, show (10 * numD (c :: m) + (x - 48)) % 10 = x - 48 by omega]
    simp
theorem map_back {l : List Nat} (h : okD l = true) : ((l.map (· - 48)).map (· + 48)) = l := by
  rw [List.map_map]
  conv => rhs; rw [← List.map_id l]
  refine List.map_congr_left fun c hc => ?_
  have := okD_get h hc
  simp only [Function.comp_apply, id_eq]
  omega
/-- noughts ahead stripped, but for the last digit -/
theorem tx_strip {l : List Nat} {k : Nat} (ho : okD l = true) (hk : k < l.length) (hz : ∀ j, j < k → l.getD j 0 = 48) (he : k + 1 = l.length ∨ l.getD k 0 ≠ 48) : tx (numD l) = l.drop k := by
  have e1 : l = List.replicate k 48 ++ l.drop k := by
    have : l.take k = List.replicate k 48 := by
      refine List.ext_getElem (by simp; omega) fun i h1 h2 => ?_
      have h3 : i < k := by simpa using h2
      have h4 := hz i h3
      rw [getD_eq _ _ (by omega)] at h4
      simp [h4]
    rw [← this, List.take_append_drop]
  have e2 : numD l = numD (l.drop k) := by
    rw [e1, numD_append, numD_zeros, Nat.zero_mul, Nat.zero_add, ← e1]
  have ho2 : okD (l.drop k) = true := by
    rw [e1, okD_append] at ho
    simp at ho
    exact ho.2
  rw [e2]
  rw [drop_getD l k hk] at *
  generalize l.getD k 0 = c at *
  have hl : (l.drop (k + 1)).length = l.length - (k + 1) := List.length_drop
  generalize l.drop (k + 1) = m at *
  have hc := okD_get ho2 (c := c) (by simp)
  by_cases hc0 : c = 48
  · have : m = [] := List.eq_nil_of_length_eq_zero (by rcases he with h | h <;> omega)
    subst this hc0
    rfl
  · have h1 := dl_numD _ c m rfl ho2 hc0
    have hpos : numD (c :: m) ≠ 0 := by
      rw [numD_cons]
      have : 0 < (c - 48) * 10 ^ m.length := Nat.mul_pos (by omega) (Nat.pow_pos (by decide))
      omega
    unfold tx
    rw [if_neg hpos, h1, List.reverse_reverse, map_back ho2]

end Go.NatP
