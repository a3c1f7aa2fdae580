/- PLAIN ARITHMETIC OF LIMBS: lists of limbs to the base 4294967296, lowest first, and the numbers that they are. No program in sight. -/
namespace Go.NatP

/-- the number of a list of limbs -/
def val : List Nat → Nat
  | [] => 0
  | x :: l => x + 4294967296 * val l

/-- every limb fits -/
def Lim (l : List Nat) : Prop := ∀ x ∈ l, x < 4294967296

def lmF : Nat → Nat → List Nat
  | 0, _ => []
  | f + 1, n => if n = 0 then [] else n % 4294967296 :: lmF f (n / 4294967296)

/-- the limbs of a number, without noughts at the end -/
def lm (n : Nat) : List Nat := lmF n n

theorem lmF_eq (f : Nat) : ∀ g n, n ≤ f → n ≤ g → lmF f n = lmF g n := by
  induction f with
  | zero =>
    intro g n hf _
    have : n = 0 := by omega
    subst this
    cases g <;> simp [lmF]
  | succ f ih =>
    intro g n hf hg
    cases g with
    | zero =>
      have : n = 0 := by omega
      subst this
      simp [lmF]
    | succ g =>
      simp only [lmF]
      split
      · rfl
      · rw [ih g (n / 4294967296) (by omega) (by omega)]

theorem lm_zero : lm 0 = [] := rfl

theorem lm_pos {n : Nat} (h : n ≠ 0) : lm n = n % 4294967296 :: lm (n / 4294967296) := by
  unfold lm
  cases n with
  | zero => omega
  | succ n =>
    rw [lmF, if_neg h, lmF_eq n ((n + 1) / 4294967296) _ (by omega) (by omega)]

theorem val_lm (n : Nat) : val (lm n) = n := by
  induction n using Nat.strongRecOn with
  | _ n ih =>
    by_cases h : n = 0
    · subst h; rfl
    · rw [lm_pos h, val, ih _ (by omega)]; omega

theorem lim_nil : Lim [] := fun _ h => by cases h
theorem lim_cons {x : Nat} {l : List Nat} (hx : x < 4294967296) (h : Lim l) : Lim (x :: l) := by
  intro y hy
  rcases List.mem_cons.1 hy with rfl | hy
  · exact hx
  · exact h y hy
theorem Lim.head {x : Nat} {l : List Nat} (h : Lim (x :: l)) : x < 4294967296 := h x List.mem_cons_self
theorem Lim.tail {x : Nat} {l : List Nat} (h : Lim (x :: l)) : Lim l := fun y hy => h y (List.mem_cons_of_mem _ hy)
theorem Lim.append {l m : List Nat} (h : Lim l) (k : Lim m) : Lim (l ++ m) := fun y hy => by
  rcases List.mem_append.1 hy with hy | hy
  · exact h y hy
  · exact k y hy
theorem Lim.take {l : List Nat} (h : Lim l) (n : Nat) : Lim (l.take n) := fun y hy => h y (List.mem_of_mem_take hy)
theorem Lim.drop {l : List Nat} (h : Lim l) (n : Nat) : Lim (l.drop n) := fun y hy => h y (List.mem_of_mem_drop hy)
theorem Lim.getD {l : List Nat} (h : Lim l) (n : Nat) : l.getD n 0 < 4294967296 := by
  rw [List.getD_eq_getElem?_getD]
  rcases hn : l[n]? with _ | x
  · simp
  · exact h x (List.mem_of_getElem? hn)
theorem lim_replicate (n x : Nat) (hx : x < 4294967296) : Lim (List.replicate n x) := fun y hy => by
  rw [List.eq_of_mem_replicate hy]; exact hx
theorem Lim.set {l : List Nat} (h : Lim l) (n x : Nat) (hx : x < 4294967296) : Lim (l.set n x) := fun y hy => by
  rcases List.mem_or_eq_of_mem_set hy with hy | rfl
  · exact h y hy
  · exact hx

theorem lim_lm (n : Nat) : Lim (lm n) := by
  induction n using Nat.strongRecOn with
  | _ n ih =>
    by_cases h : n = 0
    · subst h; exact lim_nil
    · rw [lm_pos h]; exact lim_cons (Nat.mod_lt _ (by decide)) (ih _ (by omega))

/-- normal: the last limb is not nought -/
def Norm (l : List Nat) : Prop := Lim l ∧ (l ≠ [] → l.getLastD 1 ≠ 0)

theorem lm_val {l : List Nat} (h : Lim l) (hn : l ≠ [] → l.getLastD 1 ≠ 0) : lm (val l) = l := by
  induction l with
  | nil => rfl
  | cons x l ih =>
    have hx := h.head
    by_cases hl : l = []
    · subst hl
      have : x ≠ 0 := by simpa using hn (by simp)
      simp only [val]
      rw [lm_pos (by omega)]
      congr 1
      · omega
      · rw [show (x + 4294967296 * 0) / 4294967296 = 0 by omega]; rfl
    · have hl' : l.getLastD 1 ≠ 0 := by
        have := hn (by simp)
        cases l with
        | nil => exact absurd rfl hl
        | cons y l => simpa using this
      have e := ih h.tail (fun _ => hl')
      have hv : val l ≠ 0 := by
        intro h0
        rw [h0] at e
        exact hl e.symm
      simp only [val]
      rw [lm_pos (by omega)]
      congr 1
      · omega
      · rw [show (x + 4294967296 * val l) / 4294967296 = val l by omega]; exact e

theorem lm_last (n : Nat) : lm n ≠ [] → (lm n).getLastD 1 ≠ 0 := by
  induction n using Nat.strongRecOn with
  | _ n ih =>
    intro h
    have hn : n ≠ 0 := by rintro rfl; exact h rfl
    rw [lm_pos hn]
    by_cases hz : n / 4294967296 = 0
    · rw [hz, lm_zero]
      simp
      omega
    · have := ih (n / 4294967296) (by omega) (by rw [lm_pos hz]; simp)
      rw [lm_pos hz] at this ⊢
      simpa using this

theorem lm_norm (n : Nat) : Norm (lm n) := ⟨lim_lm n, lm_last n⟩
theorem Norm.lm {l : List Nat} (h : Norm l) : lm (val l) = l := lm_val h.1 h.2

theorem lm_inj {m n : Nat} (h : lm m = lm n) : m = n := by
  rw [← val_lm m, h, val_lm]

theorem lm_eq_nil {n : Nat} : lm n = [] ↔ n = 0 := by
  constructor
  · intro h; exact lm_inj (h.trans lm_zero.symm)
  · rintro rfl; rfl

theorem val_append (l m : List Nat) : val (l ++ m) = val l + 4294967296 ^ l.length * val m := by
  induction l with
  | nil => simp [val]
  | cons x l ih =>
    simp only [List.cons_append, val, ih, List.length_cons]
    grind

theorem val_lt {l : List Nat} (h : Lim l) : val l < 4294967296 ^ l.length := by
  induction l with
  | nil => simp [val]
  | cons x l ih =>
    have h1 := ih h.tail
    have h2 := h.head
    simp only [val, List.length_cons, Nat.pow_succ]
    omega

theorem val_replicate_zero (n : Nat) : val (List.replicate n 0) = 0 := by
  induction n with
  | zero => rfl
  | succ n ih => rw [List.replicate_succ, val, ih]

theorem getD_eq (l : List Nat) (i : Nat) (h : i < l.length) : l.getD i 0 = l[i] := by
  rw [List.getD_eq_getElem?_getD, List.getElem?_eq_getElem h]; rfl

theorem take_succ_getD (l : List Nat) (i : Nat) (h : i < l.length) : l.take (i + 1) = l.take i ++ [l.getD i 0] := by
  rw [List.take_succ_eq_append_getElem h, getD_eq l i h]

theorem val_take_succ (l : List Nat) (i : Nat) (h : i < l.length) : val (l.take (i + 1)) = val (l.take i) + l.getD i 0 * 4294967296 ^ i := by
  rw [take_succ_getD l i h, val_append]
  simp only [val, List.length_take]
  rw [Nat.min_eq_left (by omega), Nat.mul_comm]
  simp

theorem val_take_all (l : List Nat) (i : Nat) (h : l.length ≤ i) : val (l.take i) = val l := by rw [List.take_of_length_le h]

theorem getD_ge (l : List Nat) (i : Nat) (h : l.length ≤ i) : l.getD i 0 = 0 := by
  rw [List.getD_eq_getElem?_getD, List.getElem?_eq_none h]; rfl

/-- also past the end -/
theorem val_take_succ' (l : List Nat) (i : Nat) : val (l.take (i + 1)) = val (l.take i) + l.getD i 0 * 4294967296 ^ i := by
  by_cases h : i < l.length
  · exact val_take_succ l i h
  · rw [getD_ge l i (by omega), val_take_all l _ (by omega), val_take_all l _ (by omega)]; omega

theorem val_drop (l : List Nat) (i : Nat) (h : i ≤ l.length) : val l = val (l.take i) + 4294967296 ^ i * val (l.drop i) := by
  have := val_append (l.take i) (l.drop i)
  rwa [List.take_append_drop, List.length_take, Nat.min_eq_left h] at this

theorem drop_getD (l : List Nat) (i : Nat) (h : i < l.length) : l.drop i = l.getD i 0 :: l.drop (i + 1) := by
  rw [getD_eq l i h]; exact (List.drop_eq_getElem_cons h)

theorem val_drop_succ (l : List Nat) (i : Nat) (h : i < l.length) : val (l.drop i) = l.getD i 0 + 4294967296 * val (l.drop (i + 1)) := by
  rw [drop_getD l i h, val]

theorem length_lm_le {n k : Nat} (h : n < 4294967296 ^ k) : (lm n).length ≤ k := by
  induction k generalizing n with
  | zero => have : n = 0 := by simpa using h
            subst this; simp [lm_zero]
  | succ k ih =>
    by_cases hn : n = 0
    · subst hn; simp [lm_zero]
    · rw [lm_pos hn, List.length_cons]
      have := ih (n := n / 4294967296) (by rw [Nat.div_lt_iff_lt_mul (by decide), ← Nat.pow_succ]; exact h)
      omega

theorem lt_pow_length (n : Nat) : n < 4294967296 ^ (lm n).length := by
  have := val_lt (lim_lm n)
  rwa [val_lm] at this

theorem pow_le_lm {n k : Nat} (h : k < (lm n).length) : 4294967296 ^ k ≤ n := by
  rcases Nat.lt_or_ge n (4294967296 ^ k) with h1 | h1
  · have := length_lm_le h1; omega
  · exact h1

/-- the length without noughts at the end -/
def tlen (l : List Nat) : Nat → Nat
  | 0 => 0
  | n + 1 => if l.getD n 0 = 0 then tlen l n else n + 1

theorem tlen_le (l : List Nat) (n : Nat) : tlen l n ≤ n := by
  induction n with
  | zero => simp [tlen]
  | succ n ih => simp only [tlen]; split <;> omega

theorem tlen_zero {l : List Nat} {n : Nat} (h : l.getD n 0 = 0) : tlen l (n + 1) = tlen l n := by rw [tlen, if_pos h]
theorem tlen_stop {l : List Nat} {n : Nat} (h : l.getD n 0 ≠ 0) : tlen l (n + 1) = n + 1 := by rw [tlen, if_neg h]

theorem getD_take (l : List Nat) (n i : Nat) (h : i < n) : (l.take n).getD i 0 = l.getD i 0 := by
  simp [List.getD_eq_getElem?_getD, h]

theorem take_tlen {l : List Nat} (h : Lim l) (n : Nat) (hn : n ≤ l.length) : l.take (tlen l n) = lm (val (l.take n)) := by
  induction n with
  | zero => simp [tlen, val, lm_zero]
  | succ n ih =>
    by_cases hz : l.getD n 0 = 0
    · rw [tlen_zero hz, ih (by omega), val_take_succ l n (by omega), hz]; simp
    · rw [tlen_stop hz]
      refine (lm_val (h.take _) fun _ => ?_).symm
      rw [take_succ_getD l n (by omega)]
      simpa using hz

theorem take_tlen_all {l : List Nat} (h : Lim l) : l.take (tlen l l.length) = lm (val l) := by
  rw [take_tlen h _ (Nat.le_refl _), List.take_length]

theorem tlen_eq {l : List Nat} (h : Lim l) : tlen l l.length = (lm (val l)).length := by
  rw [← take_tlen_all h, List.length_take, Nat.min_eq_left (tlen_le l _)]

theorem length_lm_val {l : List Nat} (h : Lim l) : (lm (val l)).length ≤ l.length := by
  rw [← tlen_eq h]; exact tlen_le l _

theorem lm_pref {l : List Nat} (h : Lim l) (i : Nat) (hi : i < (lm (val l)).length) : (lm (val l)).getD i 0 = l.getD i 0 := by
  rw [← take_tlen_all h, getD_take]
  rw [tlen_eq h]; exact hi

theorem lm_last' {n : Nat} (h : n ≠ 0) : (lm n).getD ((lm n).length - 1) 0 ≠ 0 := by
  have h1 : lm n ≠ [] := fun e => h (lm_eq_nil.1 e)
  have h2 := lm_last n h1
  have : 0 < (lm n).length := List.length_pos_iff.2 h1
  rw [getD_eq _ _ (by omega)]
  rw [List.getLastD_eq_getLast?, List.getLast?_eq_getElem?, List.getElem?_eq_getElem (by omega)] at h2
  exact h2

theorem set_take_succ (l : List Nat) (i x : Nat) (h : i < l.length) : (l.set i x).take (i + 1) = l.take i ++ [x] := by
  rw [List.take_succ_eq_append_getElem (by simpa using h), List.take_set, List.set_eq_of_length_le (by simp; omega)]
  simp

theorem val_set_take (l : List Nat) (i x : Nat) (h : i < l.length) : val ((l.set i x).take (i + 1)) = val (l.take i) + x * 4294967296 ^ i := by
  rw [set_take_succ l i x h, val_append]
  simp only [val, List.length_take]
  rw [Nat.min_eq_left (by omega), Nat.mul_comm]
  simp

theorem getD_set_ne (l : List Nat) (i j x : Nat) (h : i ≠ j) : (l.set i x).getD j 0 = l.getD j 0 := by
  simp [List.getD_eq_getElem?_getD, List.getElem?_set_ne h]

theorem getD_set_eq (l : List Nat) (i x : Nat) (h : i < l.length) : (l.set i x).getD i 0 = x := by
  simp [List.getD_eq_getElem?_getD, List.getElem?_set_self h]

theorem val_set (l : List Nat) (i x : Nat) (h : i < l.length) : val (l.set i x) + l.getD i 0 * 4294967296 ^ i = val l + x * 4294967296 ^ i := by
  induction l generalizing i with
  | nil => simp at h
  | cons y l ih =>
    cases i with
    | zero => simp [val]; omega
    | succ i =>
      have := ih i (by simpa using h)
      simp only [List.set_cons_succ, val, List.getD_cons_succ]
      grind

end Go.NatP
