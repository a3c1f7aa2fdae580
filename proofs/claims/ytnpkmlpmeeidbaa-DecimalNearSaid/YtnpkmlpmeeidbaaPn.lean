/- PLAIN ARITHMETIC, 14: digits written and read. No program in sight. -/
import Derived.Test.YtnpkmlpmeeidbaaPP
namespace Go.NatP
set_option linter.unusedVariables false

theorem numD_fold (l : List Nat) : ∀ v, l.foldl (fun v c => 10 * v + (c - 48)) v = v * 10 ^ l.length + numD l := by
  induction l with
  | nil => intro v; simp [numD]
  | cons c l ih =>
    intro v
    have e : numD (c :: l) = (10 * 0 + (c - 48)) * 10 ^ l.length + numD l := ih _
    rw [List.foldl_cons, ih, e, List.length_cons, Nat.pow_succ]
    simp only [Nat.mul_zero, Nat.zero_add, Nat.add_mul]
    have : 10 * v * 10 ^ l.length = v * (10 ^ l.length * 10) := by grind
    omega
theorem numD_append (l m : List Nat) : numD (l ++ m) = numD l * 10 ^ m.length + numD m := by
  unfold numD
  rw [List.foldl_append, numD_fold]
  rfl
theorem okD_append (l m : List Nat) : okD (l ++ m) = (okD l && okD m) := by simp [okD]
theorem numD_zeros (k : Nat) : numD (List.replicate k 48) = 0 := by
  induction k with
  | zero => rfl
  | succ k ih => rw [List.replicate_succ', numD_snoc, ih]
theorem numD_dl (n : Nat) : numD ((dl n).reverse.map (· + 48)) = n := by
  induction n using Nat.strongRecOn with
  | ind n ih =>
    by_cases h : n = 0
    · subst h; rw [dl_zero]; rfl
    · rw [dl_pos h, List.reverse_cons, List.map_append, List.map_cons, List.map_nil, numD_snoc, ih (n / 10) (by omega)]
      omega
theorem numD_tx (n : Nat) : numD (tx n) = n := by
  unfold tx
  split
  · rename_i h; rw [h]; rfl
  · exact numD_dl n
theorem okD_tx (n : Nat) : okD (tx n) = true := by
  unfold tx
  split
  · rfl
  · simp only [okD, List.all_eq_true, Bool.and_eq_true, decide_eq_true_eq, List.mem_map, List.mem_reverse]
    rintro x ⟨d, hd, rfl⟩
    have := dl_lt n d hd
    omega
theorem tx_ne (n : Nat) : tx n ≠ [] := by
  unfold tx
  split
  · simp
  · rename_i h; rw [dl_pos h]; simp
theorem okD_get {l : List Nat} (h : okD l = true) {c : Nat} (hc : c ∈ l) : 48 ≤ c ∧ c ≤ 57 := by
  simp only [okD, List.all_eq_true, Bool.and_eq_true, decide_eq_true_eq] at h
  exact h c hc
end Go.NatP
