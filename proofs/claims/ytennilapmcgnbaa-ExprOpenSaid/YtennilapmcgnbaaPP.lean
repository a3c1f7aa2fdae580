/- PLAIN ARITHMETIC OF LIMBS: lists of limbs to the base 4294967296, lowest first, and the numbers that they are. No program in sight. -/
namespace Go.NatP

/-- the number of a list of limbs -/
def val : List Nat → Nat
  | [] => 0
  | x :: l => x + 4294967296 * val l

/-- every limb fits -/
def Lim (l : List Nat) : Prop := ∀ x ∈ l, x < 4294967296

def lmF : Nat → Nat → List Nat
  | 0, _ => []
  | f + 1, n => if n = 0 then [] else n % 4294967296 :: lmF f (n / 4294967296)

/-- the limbs of a number, without noughts at the end -/
def lm (n : Nat) : List Nat := lmF n n

theorem lmF_eq (f : Nat) : ∀ g n, n ≤ f → n ≤ g → lmF f n = lmF g n := by
  induction f with
  | zero =>
    intro g n hf _
    have : n = 0 := by omega
    subst this
    cases g <;> simp [lmF]
  | succ f ih =>
    intro g n hf hg
    cases g with
    | zero =>
      have : n = 0 := by omega
      subst this
      simp [lmF]
    | succ g =>
      simp only [lmF]
      split
      · rfl
      · rw [ih g (n / 4294967296) (by omega) (by omega)]

theorem lm_zero : lm 0 = [] := rfl

theorem lm_pos {n : Nat} (h : n ≠ 0) : lm n = n % 4294967296 :: lm (n / 4294967296) := by
  unfold lm
  cases n with
  | zero => omega
  | succ n =>
    rw [lmF, if_neg h, lmF_eq n ((n + 1) / 4294967296) _ (by omega) (by omega)]

theorem val_lm (n : Nat) : val (lm n) = n := by
  induction n using Nat.strongRecOn with
  | _ n ih =>
    by_cases h : n = 0
    · subst h; rfl
    · rw [lm_pos h, val, ih _ (by omega)]; omega

theorem lim_nil : Lim [] := fun _ h => by cases h
theorem lim_cons {x : Nat} {l : List Nat} (hx : x < 4294967296) (h : Lim l) : Lim (x :: l) := by
  intro y hy
  rcases List.mem_cons.1 hy with rfl | hy
  · exact hx
  · exact h y hy
theorem Lim.head {x : Nat} {l : List Nat} (h : Lim (x :: l)) : x < 4294967296 := h x List.mem_cons_self
theorem Lim.tail {x : Nat} {l : List Nat} (h : Lim (x :: l)) : Lim l := fun y hy => h y (List.mem_cons_of_mem _ hy)
theorem Lim.append {l m : List Nat} (h : Lim l) (k : Lim m) : Lim (l ++ m) := fun y hy => by
  rcases List.mem_append.1 hy with hy | hy
  · exact h y hy
  · exact k y hy
theorem Lim.take {l : List Nat} (h : Lim l) (n : Nat) : Lim (l.take n) := fun y hy => h y (List.mem_of_mem_take hy)
theorem Lim.drop {l : List Nat} (h : Lim l) (n : Nat) : Lim (l.drop n) := fun y hy => h y (List.mem_of_mem_drop hy)
theorem Lim.getD {l : List Nat} (h : Lim l) (n : Nat) : l.getD n 0 < 4294967296 := by
  rw [List.getD_eq_getElem?_getD]
  rcases hn : l[n]? with _ | x
  · simp
  · exact h x (List.mem_of_getElem? hn)
theorem lim_replicate (n x : Nat) (hx : x < 4294967296) : Lim (List.replicate n x) := fun y hy => by
  rw [List.eq_of_mem_replicate hy]; exact hx
theorem Lim.set {l : List Nat} (h : Lim l) (n x : Nat) (hx : x < 4294967296) : Lim (l.set n x) := fun y hy => by
  rcases List.mem_or_eq_of_mem_set hy with hy | rfl
  · exact h y hy
  · exact hx

theorem lim_lm (n : Nat) : Lim (lm n) := by
  induction n using Nat.strongRecOn with
  | _ n ih =>
    by_cases h : n = 0
    · subst h; exact lim_nil
    · rw [lm_pos h]; exact lim_cons (Nat.mod_lt _ (by decide)) (ih _ (by omega))

/-- normal: the last limb is not nought -/
def Norm (l : List Nat) : Prop := Lim l ∧ (l ≠ [] → l.getLastD 1 ≠ 0)

theorem lm_val {l : List Nat} (h : Lim l) (hn : l ≠ [] → l.getLastD 1 ≠ 0) : lm (val l) = l := by
  induction l with
  | nil => rfl
  | cons x l ih =>
    have hx := h.head
    by_cases hl : l = []
    · subst hl
      have : x ≠ 0 := by simpa using hn (by simp)
      simp only [val]
      rw [lm_pos (by omega)]
      congr 1
      · omega
      · rw [show (x + 4294967296 * 0) / 4294967296 = 0 by omega]; rfl
    · have hl' : l.getLastD 1 ≠ 0 := by
        have := hn (by simp)
        cases l with
        | nil => exact absurd rfl hl
        | cons y l => simpa using this
      have e := ih h.tail (fun _ => hl')
      have hv : val l ≠ 0 := by
        intro h0
        rw [h0] at e
        exact hl e.symm
      simp only [val]
      rw [lm_pos (by omega)]
      congr 1
      · omega
      · rw [show (x + 4294967296 * val l) / 4294967296 = val l by omega]; exact e

theorem lm_last (n : Nat) : lm n ≠ [] → (lm n).getLastD 1 ≠ 0 := by
  induction n using Nat.strongRecOn with
  | _ n ih =>
    intro h
    have hn : n ≠ 0 := by rintro rfl; exact h rfl
    rw [lm_pos hn]
    by_cases hz : n / 4294967296 = 0
    · rw [hz, lm_zero]
      simp
      omega
    · have := ih (n / 4294967296) (by omega) (by rw [lm_pos hz]; simp)
      rw [lm_pos hz] at this ⊢
      simpa using this

theorem lm_norm (n : Nat) : Norm (lm n) := ⟨lim_lm n, lm_last n⟩
theorem Norm.lm {l : List Nat} (h : Norm l) : lm (val l) = l := lm_val h.1 h.2

theorem lm_inj {m n : Nat} (h : lm m = lm n) : m = n := by
  rw [← val_lm m, h, val_lm]

theorem lm_eq_nil {n : Nat} : lm n = [] ↔ n = 0 := by
  constructor
  · intro h; exact lm_inj (h.trans lm_zero.symm)
  · rintro rfl; rfl

theorem val_append (l m : List Nat) : val (l ++ m) = val l + 4294967296 ^ l.length * val m := by
  induction l with
  | nil => simp [val]
  | cons x l ih =>
    simp only [List.cons_append, val, ih, List.length_cons]
    grind

theorem val_lt {l : List Nat} (h : Lim l) : val l < 4294967296 ^ l.length := by
  induction l with
  | nil => simp [val]
  | cons x l ih =>
    have h1 := ih h.tail
    have h2 := h.head
    simp only [val, List.length_cons, Nat.pow_succ]
    omega

theorem val_replicate_zero (n : Nat) : val (List.replicate n 0) = 0 := by
  induction n with
  | zero => rfl
  | succ n ih => rw [List.replicate_succ, val, ih]

theorem getD_eq (l : List Nat) (i : Nat) (h : i < l.length) : l.getD i 0 = l[i] := by
  rw [List.getD_eq_getElem?_getD, List.getElem?_eq_getElem h]; rfl

theorem take_succ_getD (l : List Nat) (i : Nat) (h : i < l.length) : l.take (i + 1) = l.take i ++ [l.getD i 0] := by
  rw [List.take_succ_eq_append_getElem h, getD_eq l i h]

theorem val_take_succ (l : List Nat) (i : Nat) (h : i < l.length) : val (l.take (i + 1)) = val (l.take i) + l.getD i 0 * 4294967296 ^ i := by
  rw [take_succ_getD l i h, val_append]
  simp only [val, List.length_take]
  rw [Nat.min_eq_left (by omega), Nat.mul_comm]
  simp

theorem val_take_all (l : List Nat) (i : Nat) (h : l.length ≤ i) : val (l.take i) = val l := by rw [List.take_of_length_le h]

theorem getD_ge (l : List Nat) (i : Nat) (h : l.length ≤ i) : l.getD i 0 = 0 := by
  rw [List.getD_eq_getElem?_getD, List.getElem?_eq_none h]; rfl

/-- also past the end -/
theorem val_take_succ' (l : List Nat) (i : Nat) : val (l.take (i + 1)) = val (l.take i) + l.getD i 0 * 4294967296 ^ i := by
  by_cases h : i < l.length
  · exact val_take_succ l i h
  · rw [getD_ge l i (by omega), val_take_all l _ (by omega), val_take_all l _ (by omega)]; omega

theorem val_drop (l : List Nat) (i : Nat) (h : i ≤ l.length) : val l = val (l.take i) + 4294967296 ^ i * val (l.drop i) := by
  have := val_append (l.take i) (l.drop i)
  rwa [List.take_append_drop, List.length_take, Nat.min_eq_left h] at this

theorem drop_getD (l : List Nat) (i : Nat) (h : i < l.length) : l.drop i = l.getD i 0 :: l.drop (i + 1) := by
  rw [getD_eq l i h]; exact (List.drop_eq_getElem_cons h)

theorem val_drop_succ (l : List Nat) (i : Nat) (h : i < l.length) : val (l.drop i) = l.getD i 0 + 4294967296 * val (l.drop (i + 1)) := by
  rw [drop_getD l i h, val]

theorem length_lm_le {n k : Nat} (h : n < 4294967296 ^ k) : (lm n).length ≤ k := by
  induction k generalizing n with
  | zero => have : n = 0 := by simpa using h
            subst this; simp [lm_zero]
  | succ k ih =>
    by_cases hn : n = 0
    · subst hn; simp [lm_zero]
    · rw [lm_pos hn, List.length_cons]
      have := ih (n := n / 4294967296) (by rw [Nat.div_lt_iff_lt_mul (by decide), ← Nat.pow_succ]; exact h)
      omega

theorem lt_pow_length (n : Nat) : n < 4294967296 ^ (lm n).length := by
  have := val_lt (lim_lm n)
  rwa [val_lm] at this

theorem pow_le_lm {n k : Nat} (h : k < (lm n).length) : 4294967296 ^ k ≤ n := by
  rcases Nat.lt_or_ge n (4294967296 ^ k) with h1 | h1
  · have := length_lm_le h1; omega
  · exact h1

/-- the length without noughts at the end -/
def tlen (l : List Nat) : Nat → Nat
  | 0 => 0
  | n + 1 => if l.getD n 0 = 0 then tlen l n else n + 1

theorem tlen_le (l : List Nat) (n : Nat) : tlen l n ≤ n := by
  induction n with
  | zero => simp [tlen]
  | succ n ih => simp only [tlen]; split <;> omega

theorem tlen_zero {l : List Nat} {n : Nat} (h : l.getD n 0 = 0) : tlen l (n + 1) = tlen l n := by rw [tlen, if_pos h]
theorem tlen_stop {l : List Nat} {n : Nat} (h : l.getD n 0 ≠ 0) : tlen l (n + 1) = n + 1 := by rw [tlen, if_neg h]

theorem getD_take (l : List Nat) (n i : Nat) (h : i < n) : (l.take n).getD i 0 = l.getD i 0 := by
  simp [List.getD_eq_getElem?_getD, h]

theorem take_tlen {l : List Nat} (h : Lim l) (n : Nat) (hn : n ≤ l.length) : l.take (tlen l n) = lm (val (l.take n)) := by
  induction n with
  | zero => simp [tlen, val, lm_zero]
  | succ n ih =>
    by_cases hz : l.getD n 0 = 0
    · rw [tlen_zero hz, ih (by omega), val_take_succ l n (by omega), hz]; simp
    · rw [tlen_stop hz]
      refine (lm_val (h.take _) fun _ => ?_).symm
      rw [take_succ_getD l n (by omega)]
      simpa using hz

theorem take_tlen_all {l : List Nat} (h : Lim l) : l.take (tlen l l.length) = lm (val l) := by
  rw [take_tlen h _ (Nat.le_refl _), List.take_length]

theorem tlen_eq {l : List Nat} (h : Lim l) : tlen l l.length = (lm (val l)).length := by
  rw [← take_tlen_all h, List.length_take, Nat.min_eq_left (tlen_le l _)]

theorem length_lm_val {l : List Nat} (h : Lim l) : (lm (val l)).length ≤ l.length := by
  rw [← tlen_eq h]; exact tlen_le l _

theorem lm_pref {l : List Nat} (h : Lim l) (i : Nat) (hi : i < (lm (val l)).length) : (lm (val l)).getD i 0 = l.getD i 0 := by
  rw [← take_tlen_all h, getD_take]
  rw [tlen_eq h]; exact hi

theorem lm_last' {n : Nat} (h : n ≠ 0) : (lm n).getD ((lm n).length - 1) 0 ≠ 0 := by
  have h1 : lm n ≠ [] := fun e => h (lm_eq_nil.1 e)
  have h2 := lm_last n h1
  have : 0 < (lm n).length := List.length_pos_iff.2 h1
  rw [getD_eq _ _ (by omega)]
  rw [List.getLastD_eq_getLast?, List.getLast?_eq_getElem?, List.getElem?_eq_getElem (by omega)] at h2
  exact h2

theorem set_take_succ (l : List Nat) (i x : Nat) (h : i < l.length) : (l.set i x).take (i + 1) = l.take i ++ [x] := by
  rw [List.take_succ_eq_append_getElem (by simpa using h), List.take_set, List.set_eq_of_length_le (by simp; omega)]
  simp

theorem val_set_take (l : List Nat) (i x : Nat) (h : i < l.length) : val ((l.set i x).take (i + 1)) = val (l.take i) + x * 4294967296 ^ i := by
  rw [set_take_succ l i x h, val_append]
  simp only [val, List.length_take]
  rw [Nat.min_eq_left (by omega), Nat.mul_comm]
  simp

theorem getD_set_ne (l : List Nat) (i j x : Nat) (h : i ≠ j) : (l.set i x).getD j 0 = l.getD j 0 := by
  simp [List.getD_eq_getElem?_getD, List.getElem?_set_ne h]

theorem getD_set_eq (l : List Nat) (i x : Nat) (h : i < l.length) : (l.set i x).getD i 0 = x := by
  simp [List.getD_eq_getElem?_getD, List.getElem?_set_self h]

theorem val_set (l : List Nat) (i x : Nat) (h : i < l.length) : val (l.set i x) + l.getD i 0 * 4294967296 ^ i = val l + x * 4294967296 ^ i := by
  induction l generalizing i with
  | nil => simp at h
  | cons y l ih =>
    cases i with
    | zero => simp [val]; omega
    | succ i =>
      have := ih i (by simpa using h)
      simp only [List.set_cons_succ, val, List.getD_cons_succ]
      grind

end Go.NatP
/- PLAIN ARITHMETIC, 2: bits, limbs by division, comparison limb by limb. No program in sight. -/
namespace Go.NatP

/-- how many bits -/
def nb (n : Nat) : Nat := if n = 0 then 0 else n.log2 + 1

theorem nb_zero : nb 0 = 0 := rfl
theorem nb_le {n k : Nat} : nb n ≤ k ↔ n < 2 ^ k := by
  unfold nb
  split
  · rename_i h; subst h; simp; exact Nat.two_pow_pos k
  · rename_i h
    rw [← Nat.log2_lt h]; omega
theorem nb_gt {n k : Nat} : k < nb n ↔ 2 ^ k ≤ n := by
  rw [← Nat.not_le, nb_le, Nat.not_lt]
theorem lt_two_nb (n : Nat) : n < 2 ^ nb n := nb_le.1 (Nat.le_refl _)
theorem nb_pos {n : Nat} (h : n ≠ 0) : 0 < nb n := nb_gt.2 (by simp; omega)
theorem two_nb_le {n : Nat} (h : n ≠ 0) : 2 ^ (nb n - 1) ≤ n := nb_gt.1 (by have := nb_pos h; omega)
theorem nb_eq {n k : Nat} (h1 : 2 ^ k ≤ n) (h2 : n < 2 ^ (k + 1)) : nb n = k + 1 := by
  have := nb_le.2 h2
  have := nb_gt.2 h1
  omega
theorem nb_mono {m n : Nat} (h : m ≤ n) : nb m ≤ nb n := nb_le.2 (Nat.lt_of_le_of_lt h (lt_two_nb n))
theorem nb_half {n : Nat} (h : n ≠ 0) : nb n = nb (n / 2) + 1 := by
  have h1 := lt_two_nb (n / 2)
  have h3 := nb_pos h
  have h4 : nb n ≤ nb (n / 2) + 1 := nb_le.2 (by rw [Nat.pow_succ]; omega)
  have h5 : nb (n / 2) ≤ nb n - 1 := nb_le.2 (by
    have := lt_two_nb n
    rw [show nb n = (nb n - 1) + 1 by omega, Nat.pow_succ] at this
    omega)
  omega
theorem nb_shift {n j : Nat} (h : 2 ^ j ≤ n) : nb n = j + nb (n / 2 ^ j) := by
  induction j generalizing n with
  | zero => simp
  | succ j ih =>
    have hn : n ≠ 0 := by have := Nat.two_pow_pos (j + 1); omega
    rw [Nat.pow_succ] at h
    rw [nb_half hn, ih (n := n / 2) (by omega), Nat.div_div_eq_div_mul, Nat.pow_succ, Nat.mul_comm 2]
    omega
theorem nb_mul_two_pow {n : Nat} (h : n ≠ 0) (k : Nat) : nb (n * 2 ^ k) = nb n + k := by
  have hp := Nat.two_pow_pos k
  have : 2 ^ k ≤ n * 2 ^ k := Nat.le_mul_of_pos_left _ (by omega)
  rw [nb_shift this, Nat.mul_div_cancel _ hp]; omega

theorem pow_32 (k : Nat) : 4294967296 ^ k = 2 ^ (32 * k) := by rw [Nat.pow_mul]

theorem getD_val {l : List Nat} (h : Lim l) (i : Nat) : l.getD i 0 = val l / 4294967296 ^ i % 4294967296 := by
  induction l generalizing i with
  | nil => simp [val]
  | cons x l ih =>
    have hx := h.head
    cases i with
    | zero => simp [val]; omega
    | succ i =>
      rw [List.getD_cons_succ, ih h.tail, val, Nat.pow_succ, Nat.mul_comm _ 4294967296, ← Nat.div_div_eq_div_mul]
      congr 2
      omega

theorem val_drop_div {l : List Nat} (h : Lim l) (i : Nat) : val (l.drop i) = val l / 4294967296 ^ i := by
  induction l generalizing i with
  | nil => simp [val]
  | cons x l ih =>
    have hx := h.head
    cases i with
    | zero => simp [val]
    | succ i =>
      rw [List.drop_succ_cons, ih h.tail, val, Nat.pow_succ, Nat.mul_comm _ 4294967296, ← Nat.div_div_eq_div_mul]
      congr 1
      omega

theorem val_take_mod {l : List Nat} (h : Lim l) (i : Nat) : val (l.take i) = val l % 4294967296 ^ i := by
  by_cases hi : i ≤ l.length
  · have h1 := val_drop l i hi
    have h2 := val_lt (h.take i)
    rw [List.length_take, Nat.min_eq_left hi] at h2
    rw [h1, Nat.add_mul_mod_self_left, Nat.mod_eq_of_lt h2]
  · rw [List.take_of_length_le (by omega), Nat.mod_eq_of_lt]
    exact Nat.lt_of_lt_of_le (val_lt h) (Nat.pow_le_pow_right (by decide) (by omega))

/-- the highest limb and the bits -/
theorem top_lm {n : Nat} (h : n ≠ 0) : (lm n).getD ((lm n).length - 1) 0 = n / 4294967296 ^ ((lm n).length - 1) := by
  have hl : 0 < (lm n).length := List.length_pos_iff.2 fun e => h (lm_eq_nil.1 e)
  have h1 := getD_val (lim_lm n) ((lm n).length - 1)
  rw [val_lm] at h1
  rw [h1, Nat.mod_eq_of_lt]
  rw [Nat.div_lt_iff_lt_mul (Nat.pow_pos (by decide)), Nat.mul_comm, ← Nat.pow_succ, Nat.succ_eq_add_one, show (lm n).length - 1 + 1 = (lm n).length by omega]
  exact lt_pow_length n

theorem nb_top {n : Nat} (h : n ≠ 0) : nb n = 32 * ((lm n).length - 1) + nb ((lm n).getD ((lm n).length - 1) 0) := by
  have hl : 0 < (lm n).length := List.length_pos_iff.2 fun e => h (lm_eq_nil.1 e)
  rw [top_lm h, pow_32]
  exact nb_shift (by rw [← pow_32]; exact pow_le_lm (by omega))

/-- the order as Go tells it -/
def cmpI (a b : Nat) : Int := if a < b then -1 else if b < a then 1 else 0

theorem lt_of_limb {la lb : List Nat} (ha : Lim la) (hb : Lim lb) {j : Nat} (hd : val la / 4294967296 ^ (j + 1) = val lb / 4294967296 ^ (j + 1)) (h : la.getD j 0 < lb.getD j 0) : val la < val lb := by
  rw [getD_val ha, getD_val hb] at h
  have e : ∀ n : Nat, n / 4294967296 ^ (j + 1) = n / 4294967296 ^ j / 4294967296 := fun n => by rw [Nat.pow_succ, Nat.div_div_eq_div_mul]
  rw [e, e] at hd
  have h2 : val la / 4294967296 ^ j < val lb / 4294967296 ^ j := by omega
  exact Nat.lt_of_not_le fun h3 => by
    have := Nat.div_le_div_right (c := 4294967296 ^ j) h3
    omega

theorem div_of_limb {la lb : List Nat} (ha : Lim la) (hb : Lim lb) {j : Nat} (hd : val la / 4294967296 ^ (j + 1) = val lb / 4294967296 ^ (j + 1)) (h : la.getD j 0 = lb.getD j 0) : val la / 4294967296 ^ j = val lb / 4294967296 ^ j := by
  rw [getD_val ha, getD_val hb] at h
  have e : ∀ n : Nat, n / 4294967296 ^ (j + 1) = n / 4294967296 ^ j / 4294967296 := fun n => by rw [Nat.pow_succ, Nat.div_div_eq_div_mul]
  rw [e, e] at hd
  omega

theorem div_pow_ge {l : List Nat} (h : Lim l) {j : Nat} (hj : l.length ≤ j) : val l / 4294967296 ^ j = 0 :=
  Nat.div_eq_of_lt (Nat.lt_of_lt_of_le (val_lt h) (Nat.pow_le_pow_right (by decide) hj))

theorem cmpI_lt {a b : Nat} (h : a < b) : cmpI a b = -1 := by rw [cmpI, if_pos h]
theorem cmpI_gt {a b : Nat} (h : b < a) : cmpI a b = 1 := by rw [cmpI, if_neg (by omega), if_pos h]
theorem cmpI_eq {a b : Nat} (h : a = b) : cmpI a b = 0 := by rw [cmpI, if_neg (by omega), if_neg (by omega)]
theorem cmpI_neg {a b : Nat} : cmpI a b < 0 ↔ a < b := by
  unfold cmpI; split
  · omega
  · split <;> omega
theorem cmpI_pos {a b : Nat} : 0 < cmpI a b ↔ b < a := by
  unfold cmpI; split
  · omega
  · split <;> omega
theorem cmpI_range (a b : Nat) : -1 ≤ cmpI a b ∧ cmpI a b ≤ 1 := by
  unfold cmpI; split
  · omega
  · split <;> omega

theorem lt_of_length {m n : Nat} (h : (lm m).length < (lm n).length) : m < n :=
  Nat.lt_of_lt_of_le (lt_pow_length m) (pow_le_lm h)

/-- the bit of value 2^i -/
theorem bit_of {l : List Nat} (h : Lim l) (i : Nat) : l.getD (i / 32) 0 / 2 ^ (i % 32) % 2 = val l / 2 ^ i % 2 := by
  rw [getD_val h]
  have e : 2 ^ i = 4294967296 ^ (i / 32) * 2 ^ (i % 32) := by
    rw [pow_32, ← Nat.pow_add]; congr 1; omega
  rw [e, ← Nat.div_div_eq_div_mul]
  generalize val l / 4294967296 ^ (i / 32) = x
  have hk : i % 32 < 32 := Nat.mod_lt _ (by decide)
  generalize i % 32 = k at *
  have e2 : x % 4294967296 = x % (2 ^ k * 2 ^ (32 - k)) := by
    rw [← Nat.pow_add, show k + (32 - k) = 32 by omega]
  rw [e2, Nat.mod_mul_right_div_self]
  have e3 : 2 ^ (32 - k) = 2 * 2 ^ (31 - k) := by
    rw [show 32 - k = (31 - k) + 1 by omega, Nat.pow_succ, Nat.mul_comm]
  rw [e3, Nat.mod_mul_right_mod]

/-- a number of at most so many limbs -/
def Sz (n k : Nat) : Prop := n < 4294967296 ^ k
theorem Sz.len {n k : Nat} (h : Sz n k) : (lm n).length ≤ k := length_lm_le h
theorem Lim.sz {l : List Nat} {k : Nat} (h : Lim l) (hk : l.length ≤ k) : Sz (val l) k := Nat.lt_of_lt_of_le (val_lt h) (Nat.pow_le_pow_right (by decide) hk)
theorem Sz.mono {n m k j : Nat} (h : Sz n k) (hm : m ≤ n) (hk : k ≤ j) : Sz m j := Nat.lt_of_le_of_lt hm (Nat.lt_of_lt_of_le h (Nat.pow_le_pow_right (by decide) hk))
theorem Sz.add {m n k : Nat} (h : Sz m k) (h' : Sz n k) : Sz (m + n) (k + 1) := by
  unfold Sz at *; rw [Nat.pow_succ]; omega
theorem Sz.mul {m n k j : Nat} (h : Sz m k) (h' : Sz n j) : Sz (m * n) (k + j) := by
  unfold Sz at *; rw [Nat.pow_add]
  exact Nat.mul_lt_mul'' h h'

end Go.NatP
/- PLAIN ARITHMETIC, 3: one round of a sum, a difference, a product, a division, limb by limb. No program in sight. -/
namespace Go.NatP

theorem add_step {s c x y P va vb : Nat} (h : s + c * P = va + vb) :
    s + (c + x + y) % 4294967296 * P + (c + x + y) / 4294967296 * (P * 4294967296) = va + x * P + (vb + y * P) := by
  have := Nat.div_add_mod (c + x + y) 4294967296
  generalize (c + x + y) / 4294967296 = q at *
  generalize (c + x + y) % 4294967296 = r at *
  grind

/-- the whole sum -/
theorem add_done {S la lb : List Nat} {N c : Nat} (hS : S.length = N + 1) (ha : la.length ≤ N) (hb : lb.length ≤ N)
    (h : val (S.take N) + c * 4294967296 ^ N = val (la.take N) + val (lb.take N)) : val (S.set N c) = val la + val lb := by
  rw [val_take_all la _ ha, val_take_all lb _ hb] at h
  rw [← h, ← val_set_take S N c (by omega), List.take_of_length_le (by simp; omega)]

theorem sub_step {s c x y P va vb t b : Nat} (h : s + vb = va + c * P) (ht : x + b * 4294967296 = y + c + t) :
    s + t * P + (vb + y * P) = va + x * P + b * (P * 4294967296) := by
  grind

theorem mul_step {s q x y z P c t : Nat} (ht : q + t * 4294967296 = c + x * y + z) : s + q * P + t * (P * 4294967296) = s + c * P + x * (y * P) + z * P := by
  grind

/-- one limb shifted up by n bits, c being what came over -/
def ShlIn (l S : List Nat) (n i : Nat) : Prop :=
  val (S.take (i + 1)) = val (l.take i) * 2 ^ n ∧ S.getD i 0 < 2 ^ n ∧ ∀ t, i < t → S.getD t 0 = 0

theorem shl_low {n x c : Nat} (hn : n < 32) (hx : x < 4294967296) (hc : c < 2 ^ n) :
    c + x * 2 ^ n % 4294967296 < 4294967296 ∧ c ||| (x * 2 ^ n % 4294967296) = c + x * 2 ^ n % 4294967296 ∧ x * 2 ^ n / 4294967296 < 2 ^ n := by
  have e : (4294967296 : Nat) = 2 ^ n * 2 ^ (32 - n) := by rw [← Nat.pow_add, show n + (32 - n) = 32 by omega]
  have hp := Nat.two_pow_pos n
  have e2 : x * 2 ^ n % 4294967296 = 2 ^ n * (x % 2 ^ (32 - n)) := by rw [e, Nat.mul_comm x, Nat.mul_mod_mul_left]
  have hr : x % 2 ^ (32 - n) < 2 ^ (32 - n) := Nat.mod_lt _ (Nat.two_pow_pos _)
  refine ⟨?_, ?_, ?_⟩
  · rw [e2]
    have : 2 ^ n * (x % 2 ^ (32 - n) + 1) ≤ 2 ^ n * 2 ^ (32 - n) := Nat.mul_le_mul_left _ hr
    rw [← e, Nat.mul_add] at this
    omega
  · rw [e2, Nat.or_comm, ← Nat.two_pow_add_eq_or_of_lt hc]; omega
  · rw [Nat.div_lt_iff_lt_mul (by decide), Nat.mul_comm]
    exact (Nat.mul_lt_mul_left hp).2 hx

theorem shlIn_step {l S : List Nat} {n i : Nat} (hn : n < 32) (hl : Lim l) (h : ShlIn l S n i) (hS : i + 1 < S.length) :
    ShlIn l ((S.set i (S.getD i 0 + l.getD i 0 * 2 ^ n % 4294967296)).set (i + 1) (l.getD i 0 * 2 ^ n / 4294967296)) n (i + 1) := by
  have hx := hl.getD i
  obtain ⟨h1, h2, h3⟩ := shl_low hn hx h.2.1
  refine ⟨?_, ?_, fun t ht => ?_⟩
  · rw [val_set_take _ _ _ (by simpa using hS), val_set_take _ _ _ (by omega), val_take_succ']
    have h4 := h.1
    rw [val_take_succ'] at h4
    generalize l.getD i 0 = x at *
    generalize S.getD i 0 = c at *
    have := Nat.div_add_mod (x * 2 ^ n) 4294967296
    generalize x * 2 ^ n / 4294967296 = q at *
    generalize x * 2 ^ n % 4294967296 = r at *
    rw [Nat.pow_succ]
    grind
  · rw [getD_set_eq _ _ _ (by simpa using hS)]; exact h3
  · rw [getD_set_ne _ _ _ _ (by omega), getD_set_ne _ _ _ _ (by omega)]; exact h.2.2 t (by omega)

theorem shlIn_start (l : List Nat) (k n : Nat) : ShlIn l (List.replicate k 0) n 0 := by
  refine ⟨?_, ?_, fun t ht => ?_⟩
  · rw [List.take_replicate, val_replicate_zero]; simp [val]
  · have := Nat.two_pow_pos n
    by_cases h : 0 < k
    · simp [List.getD_eq_getElem?_getD, h]; exact this
    · simp [List.getD_eq_getElem?_getD, h]; exact this
  · by_cases h : t < k
    · simp [List.getD_eq_getElem?_getD, h]
    · simp [List.getD_eq_getElem?_getD, h]

end Go.NatP
/- PLAIN ARITHMETIC, 4: shifts. No program in sight. -/
namespace Go.NatP

/-- a number times a power of two, rounded down -/
def shv (v : Nat) (n : Int) : Nat := if 0 ≤ n then v * 2 ^ n.toNat else v / 2 ^ (-n).toNat
/-- the shift, where there is one -/
def shN (v : Nat) (n : Int) : Nat := if -262144 ≤ n ∧ n ≤ 262144 then shv v n else 0
def shE (n : Int) : Int := if -262144 ≤ n ∧ n ≤ 262144 then 0 else 3

theorem val_of_limbs {S : List Nat} {V m : Nat} (hS : S.length = m) (hV : V < 4294967296 ^ m) (h : ∀ i, i < m → S.getD i 0 = V / 4294967296 ^ i % 4294967296) : val S = V := by
  have key : ∀ i, i ≤ m → val (S.take i) = V % 4294967296 ^ i := by
    intro i
    induction i with
    | zero => intro _; simp [val, Nat.mod_one]
    | succ i ih =>
      intro hi
      rw [val_take_succ', ih (by omega), h i (by omega), Nat.pow_succ, Nat.mod_mul, Nat.mul_comm (V / _ % _)]
  have := key m (Nat.le_refl _)
  rwa [val_take_all S _ (by omega), Nat.mod_eq_of_lt hV] at this

/-- two limbs shifted down by r bits: the low one -/
theorem shr_limb (V i r : Nat) (hr : r < 32) :
    ((V / 4294967296 ^ (i + 1) % 4294967296) * 4294967296 + V / 4294967296 ^ i % 4294967296) / 2 ^ r % 4294967296 = V / 2 ^ r / 4294967296 ^ i % 4294967296 := by
  rw [Nat.div_div_eq_div_mul V, Nat.mul_comm (2 ^ r), ← Nat.div_div_eq_div_mul, Nat.pow_succ, ← Nat.div_div_eq_div_mul]
  generalize V / 4294967296 ^ i = x
  have e1 : x / 4294967296 % 4294967296 * 4294967296 + x % 4294967296 = x % (4294967296 * 4294967296) := by
    rw [Nat.mod_mul]; omega
  rw [e1]
  have e2 : (4294967296 * 4294967296 : Nat) = 2 ^ r * (4294967296 * 2 ^ (32 - r)) := by
    rw [Nat.mul_left_comm, ← Nat.pow_add, show r + (32 - r) = 32 by omega]
  rw [e2, Nat.mod_mul_right_div_self, Nat.mod_mul_right_mod]

theorem div_small_zero {l : List Nat} (h : Lim l) {q r : Nat} (hq : l.length ≤ q) : val l / 2 ^ (32 * q + r) = 0 := by
  rw [Nat.pow_add, ← pow_32, ← Nat.div_div_eq_div_mul, div_pow_ge h hq]; simp

/-- one bit more -/
theorem mod_two_pow_succ (W i : Nat) : W % 2 ^ (i + 1) = W % 2 ^ i + (W / 2 ^ i % 2) * 2 ^ i := by
  rw [Nat.pow_succ, Nat.mod_mul, Nat.mul_comm (W / _ % _)]

theorem bit_shv_up {v i : Nat} {n : Int} (h0 : 0 ≤ n) (hi : n ≤ i) : shv v n / 2 ^ i % 2 = v / 2 ^ ((i : Int) - n).toNat % 2 := by
  rw [shv, if_pos h0]
  obtain ⟨n, rfl⟩ := Int.eq_ofNat_of_zero_le h0
  rw [Int.toNat_natCast]
  have e : i = n + ((i : Int) - (n : Int)).toNat := by omega
  generalize ((i : Int) - (n : Int)).toNat = k at *
  subst e
  rw [Nat.pow_add, ← Nat.div_div_eq_div_mul, Nat.mul_div_cancel _ (Nat.two_pow_pos n)]
theorem bit_shv_low {v i : Nat} {n : Int} (hi : (i : Int) < n) : shv v n / 2 ^ i % 2 = 0 := by
  rw [shv, if_pos (by omega)]
  obtain ⟨n, rfl⟩ := Int.eq_ofNat_of_zero_le (show 0 ≤ n by omega)
  rw [Int.toNat_natCast]
  obtain ⟨k, rfl⟩ : ∃ k, n = i + (k + 1) := ⟨n - i - 1, by omega⟩
  rw [Nat.pow_add, Nat.mul_comm (2 ^ i), ← Nat.mul_assoc, Nat.mul_div_cancel _ (Nat.two_pow_pos i), Nat.pow_succ, ← Nat.mul_assoc]
  exact Nat.mul_mod_left _ _
theorem bit_shv_down {v i : Nat} {n : Int} (h0 : n < 0) : shv v n / 2 ^ i % 2 = v / 2 ^ ((i : Int) - n).toNat % 2 := by
  rw [shv, if_neg (by omega), Nat.div_div_eq_div_mul, ← Nat.pow_add]
  congr 3
  omega
theorem bit_shv {v i : Nat} {n : Int} (hi : n ≤ i) : shv v n / 2 ^ i % 2 = v / 2 ^ ((i : Int) - n).toNat % 2 := by
  by_cases h : 0 ≤ n
  · exact bit_shv_up h hi
  · exact bit_shv_down (by omega)

theorem shv_lt {v : Nat} {n : Int} {s : Nat} (h : (nb v : Int) + n = s) : shv v n < 2 ^ s := by
  unfold shv
  have hv := lt_two_nb v
  split
  · rename_i h0
    obtain ⟨n, rfl⟩ := Int.eq_ofNat_of_zero_le h0
    rw [Int.toNat_natCast]
    obtain rfl : s = nb v + n := by omega
    rw [Nat.pow_add]
    exact Nat.mul_lt_mul_of_pos_right hv (Nat.two_pow_pos n)
  · rename_i h0
    obtain ⟨m, rfl⟩ : ∃ m : Nat, n = -(m : Int) := ⟨(-n).toNat, by omega⟩
    rw [show (-(-(m : Int))).toNat = m by omega, Nat.div_lt_iff_lt_mul (Nat.two_pow_pos m), ← Nat.pow_add]
    rwa [show s + m = nb v by omega]
theorem shv_zero {v : Nat} {n : Int} (h : (nb v : Int) + n ≤ 0) : shv v n = 0 := by
  unfold shv
  have hv := lt_two_nb v
  split
  · rename_i h0
    have : nb v = 0 := by omega
    have : v = 0 := by
      rcases Nat.eq_zero_or_pos v with h | h
      · exact h
      · have := nb_pos (n := v) (by omega); omega
    subst this; simp
  · rename_i h0
    exact Nat.div_eq_of_lt (Nat.lt_of_lt_of_le hv (Nat.pow_le_pow_right (by decide) (by omega)))

/-- the list that holds W up to bit i -/
def BitsIn (W : Nat) (S : List Nat) (i : Nat) : Prop := val S = W % 2 ^ i
theorem bitsIn_lt {W i : Nat} {S : List Nat} (hL : Lim S) (h : BitsIn W S i) : S.getD (i / 32) 0 < 2 ^ (i % 32) := by
  rw [getD_val hL, h]
  have hlt : W % 2 ^ i < 2 ^ i := Nat.mod_lt _ (Nat.two_pow_pos i)
  refine Nat.lt_of_le_of_lt (Nat.mod_le _ _) ?_
  rw [Nat.div_lt_iff_lt_mul (Nat.pow_pos (by decide)), pow_32, ← Nat.pow_add, show i % 32 + 32 * (i / 32) = i by omega]
  exact hlt
theorem bitsIn_step {W i b : Nat} {S : List Nat} (h : BitsIn W S i) (hl : i / 32 < S.length) (hb : W / 2 ^ i % 2 = b) :
    BitsIn W (S.set (i / 32) (S.getD (i / 32) 0 + b * 2 ^ (i % 32))) (i + 1) := by
  have h1 := val_set S (i / 32) (S.getD (i / 32) 0 + b * 2 ^ (i % 32)) hl
  unfold BitsIn at *
  rw [mod_two_pow_succ, hb, ← h]
  have e : 2 ^ i = 2 ^ (i % 32) * 4294967296 ^ (i / 32) := by
    rw [pow_32, ← Nat.pow_add]; congr 1; omega
  rw [e]
  rw [Nat.add_mul, Nat.mul_assoc] at h1
  omega
theorem bitsIn_skip {W i : Nat} {S : List Nat} (h : BitsIn W S i) (hb : W / 2 ^ i % 2 = 0) : BitsIn W S (i + 1) := by
  unfold BitsIn at *
  rw [mod_two_pow_succ, hb, ← h]; omega

theorem shN_szK {v k K : Nat} {n : Int} (h : Sz v k) (hK : 262144 ≤ 32 * K) : Sz (shN v n) (k + K) := by
  unfold shN
  split
  · rename_i hn
    unfold shv
    split
    · have h2 : 2 ^ n.toNat ≤ 4294967296 ^ K := by
        rw [pow_32]; exact Nat.pow_le_pow_right (by decide) (by omega)
      unfold Sz at *
      rw [Nat.pow_add]
      exact Nat.lt_of_lt_of_le (Nat.mul_lt_mul_of_pos_right h (Nat.two_pow_pos _)) (Nat.mul_le_mul_left _ h2)
    · exact h.mono (Nat.div_le_self _ _) (by omega)
  · exact Nat.pow_pos (by decide)
theorem shN_sz {v k : Nat} {n : Int} (h : Sz v k) : Sz (shN v n) (k + 8192) := shN_szK h (by decide)

end Go.NatP
/- PLAIN ARITHMETIC, 5: decimal digits. No program in sight. -/
namespace Go.NatP
set_option linter.unusedVariables false

def dlF : Nat → Nat → List Nat
  | 0, _ => []
  | f + 1, n => if n = 0 then [] else n % 10 :: dlF f (n / 10)
/-- the digits of a number, the lowest first -/
def dl (n : Nat) : List Nat := dlF n n
theorem dlF_eq (f : Nat) : ∀ g n, n ≤ f → n ≤ g → dlF f n = dlF g n := by
  induction f with
  | zero =>
    intro g n hf _
    have : n = 0 := by omega
    subst this
    cases g <;> simp [dlF]
  | succ f ih =>
    intro g n hf hg
    cases g with
    | zero =>
      have : n = 0 := by omega
      subst this
      simp [dlF]
    | succ g =>
      simp only [dlF]
      split
      · rfl
      · rw [ih g (n / 10) (by omega) (by omega)]
theorem dl_zero : dl 0 = [] := rfl
theorem dl_pos {n : Nat} (h : n ≠ 0) : dl n = n % 10 :: dl (n / 10) := by
  unfold dl
  cases n with
  | zero => omega
  | succ n => rw [dlF, if_neg h, dlF_eq n ((n + 1) / 10) _ (by omega) (by omega)]
theorem dl_lt (n : Nat) : ∀ d ∈ dl n, d < 10 := by
  induction n using Nat.strongRecOn with
  | _ n ih =>
    by_cases h : n = 0
    · subst h; intro d hd; cases hd
    · rw [dl_pos h]
      intro d hd
      rcases List.mem_cons.1 hd with rfl | hd
      · exact Nat.mod_lt _ (by decide)
      · exact ih _ (by omega) d hd
theorem length_dl_le {n k : Nat} (h : n < 10 ^ k) : (dl n).length ≤ k := by
  induction k generalizing n with
  | zero => have : n = 0 := by simpa using h
            subst this; simp [dl_zero]
  | succ k ih =>
    by_cases hn : n = 0
    · subst hn; simp [dl_zero]
    · rw [dl_pos hn, List.length_cons]
      have := ih (n := n / 10) (by rw [Nat.div_lt_iff_lt_mul (by decide), ← Nat.pow_succ]; exact h)
      omega
/-- the text of a number, byte by byte -/
def tx (n : Nat) : List Nat := if n = 0 then [48] else (dl n).reverse.map (· + 48)

/-- the digits of one part of at most k more: p below, R above -/
theorem dl_part {R p k : Nat} (hp : p < 10 ^ (k + 1)) (h : 0 < R ∨ 0 < p) : dl (R * 10 ^ (k + 1) + p) = p % 10 :: dl (R * 10 ^ k + p / 10) := by
  have h10 := Nat.pow_pos (n := k) (show 0 < 10 by decide)
  have hne : R * 10 ^ (k + 1) + p ≠ 0 := by
    rcases h with h | h
    · have : 0 < R * 10 ^ (k + 1) := Nat.mul_pos h (Nat.pow_pos (by decide)); omega
    · omega
  rw [dl_pos hne]
  have e : R * 10 ^ (k + 1) = 10 * (R * 10 ^ k) := by rw [Nat.pow_succ]; grind
  rw [e]
  congr 1
  · omega
  · congr 1; omega

/-- digits read: bytes as numbers -/
def okD (l : List Nat) : Bool := l.all fun c => decide (48 ≤ c) && decide (c ≤ 57)
def numD (l : List Nat) : Nat := l.foldl (fun v c => 10 * v + (c - 48)) 0
def paN (l : List Nat) : Nat := if l ≠ [] ∧ okD l = true then numD l else 0
def paE (l : List Nat) : Int := if l ≠ [] ∧ okD l = true then 0 else 10
theorem numD_snoc (l : List Nat) (c : Nat) : numD (l ++ [c]) = 10 * numD l + (c - 48) := by simp [numD]
theorem okD_snoc (l : List Nat) (c : Nat) : okD (l ++ [c]) = (okD l && (decide (48 ≤ c) && decide (c ≤ 57))) := by simp [okD]
theorem okD_bad {l : List Nat} {i : Nat} (hi : i < l.length) (h : ¬ (48 ≤ l.getD i 0 ∧ l.getD i 0 ≤ 57)) : okD l = false := by
  rw [okD, List.all_eq_false]
  refine ⟨l.getD i 0, ?_, ?_⟩
  · rw [getD_eq _ _ hi]; exact List.getElem_mem hi
  · simpa using h

/-- ten times a number, and a digit: limb by limb -/
def TenIn (l S : List Nat) (k cy d : Nat) : Prop :=
  val (S.take k) + cy * 4294967296 ^ k = 10 * val (l.take k) + d
theorem tenIn_start (l S : List Nat) (d : Nat) : TenIn l S 0 d d := by simp [TenIn, val]
theorem ten_step {s c d x P vl : Nat} (h : s + c * P = 10 * vl + d) :
    s + (c + 10 * x) % 4294967296 * P + (c + 10 * x) / 4294967296 * (P * 4294967296) = 10 * (vl + x * P) + d := by
  have := Nat.div_add_mod (c + 10 * x) 4294967296
  generalize (c + 10 * x) / 4294967296 = q at *
  generalize (c + 10 * x) % 4294967296 = r at *
  grind
theorem tenIn_set {l S : List Nat} {k cy d : Nat} (h : TenIn l S k cy d) (hl : k < S.length) :
    TenIn l (S.set k ((cy + 10 * l.getD k 0) % 4294967296)) (k + 1) ((cy + 10 * l.getD k 0) / 4294967296) d := by
  unfold TenIn at *
  rw [val_set_take S k _ hl, val_take_succ', Nat.pow_succ]
  exact ten_step h
theorem tenIn_snoc {l S : List Nat} {k cy d : Nat} (h : TenIn l S k cy d) (hl : S.length = k) :
    TenIn l (S ++ [(cy + 10 * l.getD k 0) % 4294967296]) (k + 1) ((cy + 10 * l.getD k 0) / 4294967296) d := by
  unfold TenIn at *
  rw [List.take_of_length_le (by simp; omega), val_append, val_take_succ', Nat.pow_succ]
  rw [List.take_of_length_le (by omega)] at h
  simp only [val, Nat.mul_zero, Nat.add_zero]
  rw [hl, Nat.mul_comm (4294967296 ^ k)]
  exact ten_step h

theorem numD_lt (l : List Nat) (h : ∀ c ∈ l, c ≤ 57) : numD l < 4294967296 ^ l.length := by
  have key : ∀ (l : List Nat) (v : Nat), (∀ c ∈ l, c ≤ 57) → l.foldl (fun v c => 10 * v + (c - 48)) v < (v + 1) * 10 ^ l.length := by
    intro l
    induction l with
    | nil => intro v _; simp
    | cons c l ih =>
      intro v h
      have h1 := ih (10 * v + (c - 48)) fun c hc => h c (by simp [hc])
      have h2 := h c (by simp)
      rw [List.foldl_cons, List.length_cons, Nat.pow_succ]
      refine Nat.lt_of_lt_of_le h1 ?_
      rw [Nat.mul_comm (10 ^ l.length), ← Nat.mul_assoc]
      exact Nat.mul_le_mul_right _ (by omega)
  have := key l 0 h
  rw [Nat.zero_add, Nat.one_mul] at this
  exact Nat.lt_of_lt_of_le this (Nat.pow_le_pow_left (by decide) _)

end Go.NatP
/- PLAIN ARITHMETIC, 6: powers. No program in sight. -/
namespace Go.NatP
set_option linter.unusedVariables false

def pwOk (v : Nat) (n : Int) : Prop := 0 ≤ n ∧ n ≤ 1024
/-- the power, where there is one -/
def pwN (v : Nat) (n : Int) : Nat := if 0 ≤ n ∧ n ≤ 1024 ∧ nb (v ^ n.toNat) ≤ 262144 then v ^ n.toNat else 0
def pwE (v : Nat) (n : Int) : Int := if 0 ≤ n ∧ n ≤ 1024 then (if nb (v ^ n.toNat) ≤ 262144 then 0 else 12) else 3

theorem nb_mul_le (a b : Nat) : nb (a * b) ≤ nb a + nb b := by
  rw [nb_le, Nat.pow_add]
  rcases Nat.eq_zero_or_pos a with rfl | ha
  · rw [Nat.zero_mul]; exact Nat.mul_pos (Nat.two_pow_pos _) (Nat.two_pow_pos _)
  · exact Nat.mul_lt_mul'' (lt_two_nb a) (lt_two_nb b)
theorem nb_mul_ge {a b : Nat} (ha : a ≠ 0) (hb : b ≠ 0) : nb a + nb b ≤ nb (a * b) + 1 := by
  have h1 := two_nb_le ha
  have h2 := two_nb_le hb
  have h3 := nb_pos ha
  have h4 := nb_pos hb
  have h5 : 2 ^ (nb a - 1 + (nb b - 1)) ≤ a * b := by rw [Nat.pow_add]; exact Nat.mul_le_mul h1 h2
  have := nb_gt.2 h5
  omega
theorem nb_one : nb 1 = 1 := nb_eq (k := 0) (by decide) (by decide)
theorem pow_le_two {v k : Nat} (e : Nat) (h : nb v ≤ k) : v ^ e ≤ 2 ^ (k * e) := by
  rw [Nat.pow_mul]; exact Nat.pow_le_pow_left (Nat.le_of_lt (nb_le.1 h)) _
theorem two_le_pow {v : Nat} (e : Nat) (h : v ≠ 0) : 2 ^ ((nb v - 1) * e) ≤ v ^ e := by
  rw [Nat.pow_mul]; exact Nat.pow_le_pow_left (two_nb_le h) _

theorem pow_bigK {v n K : Nat} (h1 : 1 < nb v) (h2 : K ≤ (nb v - 1) * n) : K < nb (v ^ n) := by
  have hv : v ≠ 0 := by rintro rfl; simp [nb_zero] at h1
  exact nb_gt.2 (Nat.le_trans (Nat.pow_le_pow_right (by decide) h2) (two_le_pow n hv))
theorem pow_big {v n : Nat} (h1 : 1 < nb v) (h2 : 262144 ≤ (nb v - 1) * n) : 262144 < nb (v ^ n) := pow_bigK h1 h2

theorem pow_szK {v n e K B : Nat} (h : nb v ≤ 1 ∨ (nb v - 1) * n < B) (hn : n ≤ 1024) (he : e ≤ n) (hK : B + 1024 ≤ 32 * K) : Sz (v ^ e) K := by
  have key : v ^ e < 2 ^ (32 * K) := by
    rcases Nat.eq_zero_or_pos v with rfl | hv
    · refine Nat.lt_of_le_of_lt (pow_le_two (k := 0) e (by simp [nb_zero])) ?_
      exact Nat.pow_lt_pow_right (by decide) (by omega)
    have hp := nb_pos (n := v) (by omega)
    rcases h with h | h
    · have : v = 1 := by
        have h1 := lt_two_nb v
        rw [show nb v = 1 by omega] at h1; omega
      subst this
      rw [Nat.one_pow]; exact Nat.one_lt_two_pow (by omega)
    · refine Nat.lt_of_le_of_lt (pow_le_two e (Nat.le_refl _)) (Nat.pow_lt_pow_right (by decide) ?_)
      have h1 : nb v * e ≤ nb v * n := Nat.mul_le_mul_left _ he
      have h2 : nb v * n = (nb v - 1) * n + n := by
        rw [← Nat.succ_mul, Nat.succ_eq_add_one, show nb v - 1 + 1 = nb v by omega]
      omega
  unfold Sz
  rw [pow_32]
  exact key
theorem pow_sz {v n e : Nat} (h : nb v ≤ 1 ∨ (nb v - 1) * n < 262144) (hn : n ≤ 1024) (he : e ≤ n) : Sz (v ^ e) 8224 := pow_szK h hn he (by decide)

theorem pow_half_big {v h : Nat} (hv : 2 ≤ v) (hb : 131073 < nb (v ^ h)) {n : Nat} (hn : h + h ≤ n) : 262144 < nb (v ^ n) := by
  have h0 : v ^ h ≠ 0 := Nat.ne_of_gt (Nat.pow_pos (by omega))
  have h1 := nb_mul_ge h0 h0
  rw [← Nat.pow_add] at h1
  have h2 : nb (v ^ (h + h)) ≤ nb (v ^ n) := nb_mono (Nat.pow_le_pow_right (by omega) hn)
  omega

theorem sz_nb {x k : Nat} (h : nb x ≤ 32 * k) : Sz x k := by
  unfold Sz
  rw [pow_32, ← nb_le]; exact h
theorem pwN_sz (v : Nat) (n : Int) : Sz (pwN v n) 8192 := by
  unfold pwN
  split
  · rename_i h; exact sz_nb h.2.2
  · exact sz_nb (by rw [nb_zero]; omega)

end Go.NatP
/- PLAIN ARITHMETIC, 7: division bit by bit. No program in sight. -/
namespace Go.NatP
set_option linter.unusedVariables false

/-- v divided by y, down to bit j: T holds the quotient, r is left -/
def DvIn (v y j r : Nat) (T : List Nat) : Prop := val T = v / 2 ^ j / y * 2 ^ j ∧ r = v / 2 ^ j % y

theorem dvIn_start {v y n : Nat} (hv : v < 2 ^ n) (k : Nat) : DvIn v y n 0 (List.replicate k 0) := by
  unfold DvIn
  rw [Nat.div_eq_of_lt hv, val_replicate_zero]
  simp

theorem div_next (v j : Nat) : v / 2 ^ j = 2 * (v / 2 ^ (j + 1)) + v / 2 ^ j % 2 := by
  have h1 : v / 2 ^ (j + 1) = v / 2 ^ j / 2 := by rw [Nat.pow_succ, Nat.div_div_eq_div_mul]
  rw [h1]; omega

theorem dv_step {u y r b : Nat} (hy : 0 < y) (hr : r = u % y) (hb : b < 2) :
    (2 * r + b < y → (2 * u + b) / y = 2 * (u / y) ∧ (2 * u + b) % y = 2 * r + b) ∧ (y ≤ 2 * r + b → (2 * u + b) / y = 2 * (u / y) + 1 ∧ (2 * u + b) % y = 2 * r + b - y) := by
  have h1 := Nat.div_add_mod u y
  rw [← hr] at h1
  have hry : r < y := by rw [hr]; exact Nat.mod_lt _ hy
  have e : 2 * u + b = y * (2 * (u / y)) + (2 * r + b) := by
    generalize u / y = q at *
    rw [← h1]; grind
  constructor
  · intro h
    rw [e, Nat.mul_add_div hy, Nat.mul_add_mod, Nat.div_eq_of_lt h, Nat.mod_eq_of_lt h]
    exact ⟨rfl, rfl⟩
  · intro h
    have h3 : 2 * r + b - y < y := by omega
    obtain ⟨z, hz⟩ : ∃ z, z = 2 * r + b - y := ⟨_, rfl⟩
    rw [← hz] at h3 ⊢
    have e2 : 2 * u + b = y * (2 * (u / y) + 1) + z := by rw [e, Nat.mul_add, Nat.mul_one]; omega
    rw [e2, Nat.mul_add_div hy, Nat.mul_add_mod, Nat.div_eq_of_lt h3, Nat.mod_eq_of_lt h3]
    exact ⟨rfl, rfl⟩

theorem dvIn_lo {v y j r : Nat} {T : List Nat} (hy : 0 < y) (h : DvIn v y (j + 1) r T) (hlt : 2 * r + v / 2 ^ j % 2 < y) : DvIn v y j (2 * r + v / 2 ^ j % 2) T := by
  have h1 := (dv_step (b := v / 2 ^ j % 2) hy h.2 (Nat.mod_lt _ (by decide))).1 hlt
  rw [← div_next] at h1
  refine ⟨?_, h1.2.symm⟩
  rw [h1.1, h.1, Nat.pow_succ]
  grind

theorem dvIn_hi {v y j r : Nat} {T : List Nat} (hL : Lim T) (hy : 0 < y) (h : DvIn v y (j + 1) r T) (hle : y ≤ 2 * r + v / 2 ^ j % 2) (hl : j / 32 < T.length) :
    T.getD (j / 32) 0 + 2 ^ (j % 32) < 4294967296 ∧ DvIn v y j (2 * r + v / 2 ^ j % 2 - y) (T.set (j / 32) (T.getD (j / 32) 0 + 2 ^ (j % 32))) := by
  have h1 := (dv_step (b := v / 2 ^ j % 2) hy h.2 (Nat.mod_lt _ (by decide))).2 hle
  rw [← div_next] at h1
  have hj : j % 32 < 32 := Nat.mod_lt _ (by decide)
  have e : 2 ^ j = 2 ^ (j % 32) * 4294967296 ^ (j / 32) := by
    rw [pow_32, ← Nat.pow_add]; congr 1; omega
  refine ⟨?_, ?_, h1.2.symm⟩
  · have hc := getD_val hL (j / 32)
    rw [h.1, Nat.pow_succ, e] at hc
    have e3 : ∀ q : Nat, q * (2 ^ (j % 32) * 4294967296 ^ (j / 32) * 2) / 4294967296 ^ (j / 32) = q * (2 ^ (j % 32) * 2) := fun q => by
      rw [show q * (2 ^ (j % 32) * 4294967296 ^ (j / 32) * 2) = q * (2 ^ (j % 32) * 2) * 4294967296 ^ (j / 32) by grind, Nat.mul_div_cancel _ (Nat.pow_pos (by decide))]
    rw [e3] at hc
    generalize v / 2 ^ (j + 1) / y = q at *
    generalize v / (2 ^ (j % 32) * 4294967296 ^ (j / 32) * 2) / y = q' at *
    have hd : 2 ^ (j % 32) * 2 ∣ T.getD (j / 32) 0 := by
      rw [hc]
      refine (Nat.dvd_mod_iff ?_).2 (Nat.dvd_mul_left _ _)
      rw [← Nat.pow_succ]
      exact Nat.pow_dvd_pow 2 (show j % 32 + 1 ≤ 32 by omega)
    have hlt := hL.getD (j / 32)
    obtain ⟨c, hc2⟩ := hd
    rw [hc2] at hlt ⊢
    have hp : 2 ^ (j % 32) * 2 ∣ 4294967296 := by
      rw [← Nat.pow_succ]
      exact Nat.pow_dvd_pow 2 (show j % 32 + 1 ≤ 32 by omega)
    obtain ⟨m, hm⟩ := hp
    rw [hm] at hlt ⊢
    have hpp := Nat.two_pow_pos (j % 32)
    have hcm : c < m := Nat.lt_of_mul_lt_mul_left hlt
    have := Nat.mul_le_mul_left (2 ^ (j % 32) * 2) (show c + 1 ≤ m by omega)
    rw [Nat.mul_add] at this
    omega
  · have h2 := val_set T (j / 32) (T.getD (j / 32) 0 + 2 ^ (j % 32)) hl
    have h3 := h.1
    rw [h1.1]
    rw [Nat.add_mul, ← e] at h2
    have e4 : v / 2 ^ (j + 1) / y * 2 ^ (j + 1) = 2 * (v / 2 ^ (j + 1) / y) * 2 ^ j := by
      generalize v / 2 ^ (j + 1) / y = q
      rw [Nat.pow_succ]; grind
    rw [h3, e4] at h2
    rw [Nat.add_mul, Nat.one_mul]
    omega

theorem dvIn_end {v y r : Nat} {T : List Nat} (h : DvIn v y 0 r T) : val T = v / y ∧ r = v % y := by
  unfold DvIn at h
  simpa using h

end Go.NatP
/- PLAIN ARITHMETIC, 8: greatest common divisors. No program in sight. -/
namespace Go.NatP
set_option linter.unusedVariables false

theorem gcd_half_left {x y : Nat} (hx : x % 2 = 0) (hy : y % 2 = 1) : Nat.gcd (x / 2) y = Nat.gcd x y := by
  have hc : Nat.Coprime 2 y := by show Nat.gcd 2 y = 1; rw [Nat.gcd_rec, hy]; rfl
  have e : x = 2 * (x / 2) := by omega
  have h := Nat.Coprime.gcd_mul_left_cancel (x / 2) hc
  rw [← e] at h
  exact h.symm
theorem gcd_half_right {x y : Nat} (hx : x % 2 = 1) (hy : y % 2 = 0) : Nat.gcd x (y / 2) = Nat.gcd x y := by
  rw [Nat.gcd_comm, Nat.gcd_comm x y]; exact gcd_half_left hy hx
theorem gcd_half_both {x y : Nat} (hx : x % 2 = 0) (hy : y % 2 = 0) : Nat.gcd x y = 2 * Nat.gcd (x / 2) (y / 2) := by
  have e : x = 2 * (x / 2) := by omega
  have e2 : y = 2 * (y / 2) := by omega
  have h := Nat.gcd_mul_left 2 (x / 2) (y / 2)
  rw [← e, ← e2] at h
  exact h

/-- t twos taken out: what is left has the rest of the divisor -/
def GcIn (G t x y : Nat) : Prop := 0 < x ∧ G = 2 ^ t * Nat.gcd x y
theorem gcIn_start {x y : Nat} (hx : 0 < x) : GcIn (Nat.gcd x y) 0 x y := ⟨hx, by simp⟩
theorem gcIn_both {G t x y : Nat} (h : GcIn G t x y) (hx : x % 2 = 0) (hy : y % 2 = 0) : GcIn G (t + 1) (x / 2) (y / 2) := by
  refine ⟨by have := h.1; omega, ?_⟩
  rw [h.2, gcd_half_both hx hy, Nat.pow_succ, Nat.mul_assoc]
theorem gcIn_left {G t x y : Nat} (h : GcIn G t x y) (hx : x % 2 = 0) (hy : y % 2 = 1) : GcIn G t (x / 2) y := by
  refine ⟨by have := h.1; omega, ?_⟩
  rw [h.2, gcd_half_left hx hy]
theorem gcIn_right {G t x y : Nat} (h : GcIn G t x y) (hx : x % 2 = 1) (hy : y % 2 = 0) : GcIn G t x (y / 2) := by
  refine ⟨h.1, ?_⟩
  rw [h.2, gcd_half_right hx hy]
theorem gcIn_sub {G t x y : Nat} (h : GcIn G t x y) (hxy : x ≤ y) : GcIn G t x (y - x) := by
  refine ⟨h.1, ?_⟩
  rw [h.2, Nat.gcd_sub_self_right hxy]
theorem gcIn_swap {G t x y : Nat} (h : GcIn G t x y) (hy : 0 < y) : GcIn G t y x := ⟨hy, by rw [h.2, Nat.gcd_comm]⟩
theorem gcIn_end {G t x : Nat} (h : GcIn G t x 0) : G = 2 ^ t * x := by rw [h.2, Nat.gcd_zero_right]
theorem gcIn_t {G t x y : Nat} (h : GcIn G t x y) : t < nb G := by
  rw [nb_gt, h.2]
  exact Nat.le_mul_of_pos_right _ (Nat.gcd_pos_of_pos_left _ h.1)

end Go.NatP
/- PLAIN ARITHMETIC, 9: one digit of a long division. No program in sight. -/
namespace Go.NatP
set_option linter.unusedVariables false

/-- U and V seen from above: V's two highest limbs vt v2, U's three highest ones top (two) u2; P the weight of what is below -/
structure KD (U V P vt v2 top u2 : Nat) : Prop where
  p : 0 < P
  v1 : (vt * 4294967296 + v2) * P ≤ V
  v2' : V < (vt * 4294967296 + v2 + 1) * P
  u1 : (top * 4294967296 + u2) * P ≤ U
  u2' : U < (top * 4294967296 + u2 + 1) * P
  hi : 2147483648 ≤ vt
  vt' : vt < 4294967296
  v2l : v2 < 4294967296
  u2l : u2 < 4294967296
  lt : U < V * 4294967296

section
variable {U V P vt v2 top u2 g r : Nat}
theorem KD.vpos (h : KD U V P vt v2 top u2) : 0 < V := by
  have h1 := h.v1
  have h2 := h.hi
  have h3 : 1 * P ≤ (vt * 4294967296 + v2) * P := Nat.mul_le_mul_right _ (by omega)
  have h4 := h.p
  omega
theorem KD.le_of (h : KD U V P vt v2 top u2) (hg : g ≤ U / V) : g * (vt * 4294967296 + v2) ≤ top * 4294967296 + u2 := by
  have h1 : g * V ≤ U := by
    have := (Nat.le_div_iff_mul_le h.vpos).1 hg
    exact this
  have h2 : g * ((vt * 4294967296 + v2) * P) ≤ g * V := Nat.mul_le_mul_left _ h.v1
  have h3 := h.u2'
  have h4 : g * (vt * 4294967296 + v2) * P < (top * 4294967296 + u2 + 1) * P := by rw [Nat.mul_assoc]; omega
  have := Nat.lt_of_mul_lt_mul_right h4
  omega
theorem KD.start (h : KD U V P vt v2 top u2) : U / V ≤ top / vt := by
  have h1 := h.le_of (Nat.le_refl _)
  have hv := h.hi
  rw [Nat.le_div_iff_mul_le (by omega)]
  have h2 := h.u2l
  generalize U / V = q at *
  have h3 : q * (vt * 4294967296 + v2) = q * vt * 4294967296 + q * v2 := by grind
  generalize q * v2 = x at *
  generalize q * vt = y at *
  omega
theorem KD.q_lt (h : KD U V P vt v2 top u2) : U / V < 4294967296 := by
  rw [Nat.div_lt_iff_lt_mul h.vpos, Nat.mul_comm]; exact h.lt
theorem KD.top_lt (h : KD U V P vt v2 top u2) : top < 4294967296 * (vt + 1) := by
  have h1 := h.u1
  have h2 := h.v2'
  have h3 := h.lt
  have h4 := h.v2l
  have h5 : (vt * 4294967296 + v2 + 1) * P ≤ ((vt + 1) * 4294967296) * P := Nat.mul_le_mul_right _ (by omega)
  have h6 : top * 4294967296 * P ≤ (top * 4294967296 + u2) * P := Nat.mul_le_mul_right _ (by omega)
  have h7 : top * 4294967296 * P < (4294967296 * (vt + 1)) * 4294967296 * P := by
    have e : (4294967296 * (vt + 1)) * 4294967296 * P = ((vt + 1) * 4294967296) * P * 4294967296 := by grind
    rw [e]
    refine Nat.lt_of_le_of_lt h6 (Nat.lt_of_le_of_lt h1 (Nat.lt_of_lt_of_le h3 ?_))
    exact Nat.mul_le_mul_right _ (Nat.le_of_lt (Nat.lt_of_lt_of_le h2 h5))
  have h8 : top * 4294967296 < (4294967296 * (vt + 1)) * 4294967296 := Nat.lt_of_mul_lt_mul_right h7
  clear h1 h2 h3 h4 h5 h6 h7
  omega
theorem KD.dec2 (h : KD U V P vt v2 top u2) (ht : g * vt + r = top) (hc : r * 4294967296 + u2 < g * v2) : U / V < g := by
  rcases Nat.lt_or_ge (U / V) g with h1 | h1
  · exact h1
  have h2 := h.le_of h1
  have h3 : g * (vt * 4294967296 + v2) = g * vt * 4294967296 + g * v2 := by grind
  generalize g * v2 = x at *
  generalize g * vt = y at *
  omega
theorem KD.below (h : KD U V P vt v2 top u2) (ht : g * vt + r = top) (hr : 4294967296 ≤ r) : g < 4294967296 := by
  have h1 := h.top_lt
  rcases Nat.lt_or_ge g 4294967296 with h2 | h2
  · exact h2
  have h3 : 4294967296 * vt ≤ g * vt := Nat.mul_le_mul_right _ h2
  rw [Nat.mul_add] at h1
  omega
theorem KD.endA (h : KD U V P vt v2 top u2) (ht : g * vt + r = top) (hr : 4294967296 ≤ r) : g * V < U + V := by
  have hg := h.below ht hr
  have h1 : g * V ≤ g * ((vt * 4294967296 + v2 + 1) * P) := Nat.mul_le_mul_left _ (Nat.le_of_lt h.v2')
  have h2 := h.v2l
  have h3 : (vt * 4294967296 + v2 + 1) * P ≤ ((vt + 1) * 4294967296) * P := Nat.mul_le_mul_right _ (by omega)
  have h4 : g * ((vt * 4294967296 + v2 + 1) * P) ≤ g * (((vt + 1) * 4294967296) * P) := Nat.mul_le_mul_left _ h3
  have h5 : g * (((vt + 1) * 4294967296) * P) ≤ top * 4294967296 * P := by
    have e : g * (((vt + 1) * 4294967296) * P) = (g * vt + g) * 4294967296 * P := by grind
    rw [e]
    exact Nat.mul_le_mul_right _ (Nat.mul_le_mul_right _ (by omega))
  have h6 : top * 4294967296 * P ≤ (top * 4294967296 + u2) * P := Nat.mul_le_mul_right _ (by omega)
  have h7 := h.u1
  have h8 := h.vpos
  omega
theorem KD.endB (h : KD U V P vt v2 top u2) (ht : g * vt + r = top) (hg : g < 4294967296) (hc : g * v2 ≤ r * 4294967296 + u2) : g * V < U + V := by
  have h3 : g * (vt * 4294967296 + v2) = g * vt * 4294967296 + g * v2 := by grind
  have h4 : g * (vt * 4294967296 + v2) ≤ top * 4294967296 + u2 := by
    rw [h3]
    generalize g * v2 = x at *
    generalize g * vt = y at *
    omega
  have h1 : g * V ≤ g * ((vt * 4294967296 + v2 + 1) * P) := Nat.mul_le_mul_left _ (Nat.le_of_lt h.v2')
  have e : g * ((vt * 4294967296 + v2 + 1) * P) = g * (vt * 4294967296 + v2) * P + g * P := by grind
  have h5 : g * (vt * 4294967296 + v2) * P ≤ (top * 4294967296 + u2) * P := Nat.mul_le_mul_right _ h4
  have h6 := h.u1
  have h7 : g * P < 4294967296 * P := Nat.mul_lt_mul_of_pos_right hg h.p
  have h8 : 4294967296 * P ≤ (vt * 4294967296 + v2) * P := Nat.mul_le_mul_right _ (by have := h.hi; omega)
  have h9 := h.v1
  omega
/-- a guess that is at most one too great -/
theorem guess_is (hV : 0 < V) (h1 : U / V ≤ g) (h2 : g * V < U + V) : g = U / V ∨ (g = U / V + 1 ∧ U < g * V) := by
  have h3 : g ≤ U / V + 1 := by
    rcases Nat.lt_or_ge (U / V + 1) g with h | h
    · have h4 : (U / V + 2) * V ≤ g * V := Nat.mul_le_mul_right _ h
      have h5 := Nat.lt_mul_div_succ U hV
      rw [Nat.add_mul] at h4
      rw [Nat.mul_add, Nat.mul_comm] at h5
      omega
    · exact h
  rcases Nat.lt_or_ge (U / V) g with h | h
  · refine .inr ⟨by omega, ?_⟩
    have := Nat.lt_mul_div_succ U hV
    rw [Nat.mul_comm] at this
    rw [show g = U / V + 1 by omega]; exact this
  · exact .inl (by omega)
end

/-- g times the first k limbs of lb taken off at place j: what is borrowed is c -/
def SubIn (S0 S lb : List Nat) (g j k c : Nat) : Prop :=
  val (S.take (j + k)) + g * val (lb.take k) * 4294967296 ^ j = val (S0.take (j + k)) + c * 4294967296 ^ (j + k) ∧ ∀ t, j + k ≤ t → S.getD t 0 = S0.getD t 0
theorem subIn_start (S0 lb : List Nat) (g j : Nat) : SubIn S0 S0 lb g j 0 0 := ⟨by simp [val], fun _ _ => rfl⟩
/-- one step: what is taken, what is left in place, what is borrowed on -/
theorem subIn_step {S0 S lb : List Nat} {g j k c q t : Nat} (h : SubIn S0 S lb g j k c) (hl : j + k < S.length)
    (ht : q + (c + g * lb.getD k 0) = S0.getD (j + k) 0 + t * 4294967296) : SubIn S0 (S.set (j + k) q) lb g j (k + 1) t := by
  refine ⟨?_, fun t' ht' => ?_⟩
  · have h1 := h.1
    rw [← Nat.add_assoc, val_set_take S (j + k) q hl, val_take_succ', val_take_succ', Nat.pow_succ]
    generalize lb.getD k 0 = y at *
    generalize S0.getD (j + k) 0 = z at *
    rw [Nat.pow_add] at h1 ⊢
    generalize val (lb.take k) = X at *
    generalize 4294967296 ^ j = PJ at *
    generalize 4294967296 ^ k = PK at *
    have h2 : (q + (c + g * y)) * (PJ * PK) = (z + t * 4294967296) * (PJ * PK) := by rw [ht]
    grind
  · rw [NatP.getD_set_ne _ _ _ _ (by omega)]; exact h.2 t' (by omega)

/-- the first k limbs of lb put back at place j -/
def AddIn (S0 S lb : List Nat) (j k c : Nat) : Prop :=
  val (S.take (j + k)) + c * 4294967296 ^ (j + k) = val (S0.take (j + k)) + val (lb.take k) * 4294967296 ^ j ∧ ∀ t, j + k ≤ t → S.getD t 0 = S0.getD t 0
theorem addIn_start (S0 lb : List Nat) (j : Nat) : AddIn S0 S0 lb j 0 0 := ⟨by simp [val], fun _ _ => rfl⟩
theorem addIn_step {S0 S lb : List Nat} {j k c q t : Nat} (h : AddIn S0 S lb j k c) (hl : j + k < S.length)
    (ht : q + t * 4294967296 = c + (S0.getD (j + k) 0 + lb.getD k 0)) : AddIn S0 (S.set (j + k) q) lb j (k + 1) t := by
  refine ⟨?_, fun t' ht' => ?_⟩
  · have h1 := h.1
    rw [← Nat.add_assoc, val_set_take S (j + k) q hl, val_take_succ', val_take_succ', Nat.pow_succ]
    generalize lb.getD k 0 = y at *
    generalize S0.getD (j + k) 0 = z at *
    rw [Nat.pow_add] at h1 ⊢
    generalize val (lb.take k) = X at *
    generalize 4294967296 ^ j = PJ at *
    generalize 4294967296 ^ k = PK at *
    have h2 : (q + t * 4294967296) * (PJ * PK) = (c + (z + y)) * (PJ * PK) := by rw [ht]
    grind
  · rw [NatP.getD_set_ne _ _ _ _ (by omega)]; exact h.2 t' (by omega)

end Go.NatP
/- PLAIN ARITHMETIC, 10: one digit of a long division, over the rows. No program in sight. -/
namespace Go.NatP
set_option linter.unusedVariables false

theorem zero_above {S : List Nat} (h : Lim S) {k t : Nat} (hk : val S < 4294967296 ^ k) (ht : k ≤ t) : S.getD t 0 = 0 := by
  rw [getD_val h, Nat.div_eq_of_lt (Nat.lt_of_lt_of_le hk (Nat.pow_le_pow_right (by decide) ht)), Nat.zero_mod]
theorem val_all_zero {l : List Nat} (h : ∀ t, l.getD t 0 = 0) : val l = 0 := by
  induction l with
  | nil => rfl
  | cons x l ih =>
    have h0 := h 0
    have h1 : val l = 0 := ih fun t => by simpa using h (t + 1)
    simp at h0
    simp [val, h0, h1]
theorem val_take_zero {S : List Nat} {k : Nat} (h : ∀ t, k ≤ t → S.getD t 0 = 0) : val (S.take k) = val S := by
  have h1 : val S = val (S.take k ++ S.drop k) := by rw [List.take_append_drop]
  have h2 : val (S.drop k) = 0 := val_all_zero fun t => by
    have h3 := h (k + t) (by omega)
    have e : (S.drop k).getD t 0 = S.getD (k + t) 0 := by simp [List.getD_eq_getElem?_getD, List.getElem?_drop]
    rw [e]; exact h3
  rw [h1, val_append, h2]; simp

theorem two_limbs {W : Nat} (h : W < 18446744073709551616) : W / 4294967296 % 4294967296 * 4294967296 + W % 4294967296 = W := by omega
theorem three_limbs {W : Nat} (h : W < 79228162514264337593543950336) : (W / 4294967296 / 4294967296 % 4294967296 * 4294967296 + W / 4294967296 % 4294967296) * 4294967296 + W % 4294967296 = W := by omega
theorem kd_of {S lb : List Nat} {j m : Nat} (hS : Lim S) (hb : Lim lb) (hm : lb.length = m + 2) (hi : 2147483648 ≤ lb.getD (m + 1) 0) (hlt : val S < val lb * 4294967296 ^ (j + 1)) :
    KD (val S / 4294967296 ^ j) (val lb) (4294967296 ^ m) (lb.getD (m + 1) 0) (lb.getD m 0) (S.getD (j + m + 2) 0 * 4294967296 + S.getD (j + m + 1) 0) (S.getD (j + m) 0) := by
  have hp : 0 < 4294967296 ^ m := Nat.pow_pos (by decide)
  have hpj : 0 < 4294967296 ^ j := Nat.pow_pos (by decide)
  have hV := val_lt hb
  rw [hm] at hV
  have hU : val S / 4294967296 ^ j < val lb * 4294967296 := by
    rw [Nat.div_lt_iff_lt_mul hpj, Nat.mul_assoc, Nat.mul_comm 4294967296, ← Nat.pow_succ]; exact hlt
  have e1 := getD_val hb m
  have e2 := getD_val hb (m + 1)
  have f0 := getD_val hS (j + m)
  have f1 := getD_val hS (j + m + 1)
  have f2 := getD_val hS (j + m + 2)
  rw [Nat.pow_succ, ← Nat.div_div_eq_div_mul] at e2
  rw [show j + m + 2 = j + m + 1 + 1 by rfl, Nat.pow_succ, ← Nat.div_div_eq_div_mul] at f2
  rw [Nat.pow_succ, ← Nat.div_div_eq_div_mul] at f1 f2
  rw [Nat.pow_add, ← Nat.div_div_eq_div_mul] at f0 f1 f2
  have hW : val lb / 4294967296 ^ m < 18446744073709551616 := by
    rw [Nat.div_lt_iff_lt_mul hp]
    rw [Nat.pow_add] at hV
    rw [Nat.mul_comm]
    exact hV
  have hX : val S / 4294967296 ^ j / 4294967296 ^ m < 79228162514264337593543950336 := by
    rw [Nat.div_lt_iff_lt_mul hp]
    refine Nat.lt_trans hU ?_
    rw [Nat.pow_add] at hV
    have : val lb * 4294967296 < 4294967296 ^ m * 4294967296 ^ 2 * 4294967296 := Nat.mul_lt_mul_of_pos_right hV (by decide)
    refine Nat.lt_of_lt_of_le this (Nat.le_of_eq ?_)
    generalize 4294967296 ^ m = P
    omega
  have a1 := Nat.div_mul_le_self (val lb) (4294967296 ^ m)
  have a2 := Nat.lt_mul_div_succ (val lb) hp
  have b1 := Nat.div_mul_le_self (val S / 4294967296 ^ j) (4294967296 ^ m)
  have b2 := Nat.lt_mul_div_succ (val S / 4294967296 ^ j) hp
  rw [Nat.mul_comm] at a2 b2
  have g1 : lb.getD (m + 1) 0 * 4294967296 + lb.getD m 0 = val lb / 4294967296 ^ m := by rw [e1, e2]; exact two_limbs hW
  have g2 : (S.getD (j + m + 2) 0 * 4294967296 + S.getD (j + m + 1) 0) * 4294967296 + S.getD (j + m) 0 = val S / 4294967296 ^ j / 4294967296 ^ m := by
    rw [f0, f1, f2]; exact three_limbs hX
  refine ⟨hp, by rw [g1]; exact a1, by rw [g1]; exact a2, by rw [g2]; exact b1, by rw [g2]; exact b2, hi, hb.getD _, hb.getD _, hS.getD _, hU⟩

section
variable {S0 S S2 lb : List Nat} {g j n c q : Nat}
/-- what was below a place and above it -/
theorem sub_last (hn : lb.length = n) (h : SubIn S0 S lb g j (n + 1) c) (hS0 : Lim S0) (h0 : val S0 < 4294967296 ^ (j + n + 1)) :
    val S + g * val lb * 4294967296 ^ j = val S0 + c * 4294967296 ^ (j + n + 1) := by
  have h1 := h.1
  rw [← Nat.add_assoc] at h1
  have hz : ∀ t, j + n + 1 ≤ t → S0.getD t 0 = 0 := fun t ht => zero_above hS0 h0 ht
  rw [val_take_zero hz, val_take_zero (fun t ht => by rw [h.2 t (by omega)]; exact hz t ht), val_take_all lb _ (by omega)] at h1
  exact h1
theorem low_all (hn : lb.length = n) (h : SubIn S0 S lb g j (n + 1) c) (hS0 : Lim S0) (h0 : val S0 < 4294967296 ^ (j + n + 1)) (hS : Lim S) : val S < 4294967296 ^ (j + n + 1) := by
  have hz : ∀ t, j + n + 1 ≤ t → S.getD t 0 = 0 := fun t ht => by rw [h.2 t (by omega)]; exact zero_above hS0 h0 ht
  rw [← val_take_zero hz]
  refine Nat.lt_of_lt_of_le (val_lt (hS.take _)) (Nat.pow_le_pow_right (by decide) ?_)
  rw [List.length_take]; omega

theorem sub_end0 (hV : 0 < val lb) (h1 : val S0 / 4294967296 ^ j / val lb ≤ g) (hn : lb.length = n) (h : SubIn S0 S lb g j (n + 1) 0) (hS0 : Lim S0) (h0 : val S0 < 4294967296 ^ (j + n + 1)) :
    g = val S0 / 4294967296 ^ j / val lb ∧ val S + g * val lb * 4294967296 ^ j = val S0 := by
  have h2 := sub_last hn h hS0 h0
  rw [Nat.zero_mul, Nat.add_zero] at h2
  refine ⟨?_, h2⟩
  have h3 : g ≤ val S0 / 4294967296 ^ j / val lb := by
    rw [Nat.le_div_iff_mul_le hV, Nat.le_div_iff_mul_le (Nat.pow_pos (by decide))]
    omega
  omega
theorem sub_end1 (hV : 0 < val lb) (h1 : val S0 / 4294967296 ^ j / val lb ≤ g) (h2 : g * val lb < val S0 / 4294967296 ^ j + val lb) (hn : lb.length = n) (h : SubIn S0 S lb g j (n + 1) 1) (hS0 : Lim S0)
    (h0 : val S0 < 4294967296 ^ (j + n + 1)) (hS : Lim S) : g = val S0 / 4294967296 ^ j / val lb + 1 := by
  have h3 := sub_last hn h hS0 h0
  have h4 := low_all hn h hS0 h0 hS
  rcases guess_is hV h1 h2 with e | e
  · exfalso
    have h5 := Nat.div_mul_le_self (val S0 / 4294967296 ^ j) (val lb)
    rw [← e] at h5
    have h6 := Nat.div_mul_le_self (val S0) (4294967296 ^ j)
    have h7 : g * val lb * 4294967296 ^ j ≤ val S0 / 4294967296 ^ j * 4294967296 ^ j := Nat.mul_le_mul_right _ h5
    omega
  · exact e.1
theorem add_end (hV : 0 < val lb) (hg : g = val S0 / 4294967296 ^ j / val lb + 1) (hn : lb.length = n) (h : SubIn S0 S lb g j (n + 1) 1) (hS0 : Lim S0)
    (h0 : val S0 < 4294967296 ^ (j + n + 1)) (hS : Lim S) (ha : AddIn S S2 lb j (n + 1) c) (hS2 : Lim S2) :
    val S2 + (g - 1) * val lb * 4294967296 ^ j = val S0 := by
  have h3 := sub_last hn h hS0 h0
  have h4 := low_all hn h hS0 h0 hS
  have hz : ∀ t, j + n + 1 ≤ t → S.getD t 0 = 0 := fun t ht => zero_above hS h4 ht
  have hz2 : ∀ t, j + n + 1 ≤ t → S2.getD t 0 = 0 := fun t ht => by rw [ha.2 t (by omega)]; exact hz t ht
  have h5 := ha.1
  rw [← Nat.add_assoc, val_take_zero hz2, val_take_zero hz, val_take_all lb _ (by omega)] at h5
  have h6 : val S2 < 4294967296 ^ (j + n + 1) := by
    rw [← val_take_zero hz2]
    refine Nat.lt_of_lt_of_le (val_lt (hS2.take _)) (Nat.pow_le_pow_right (by decide) ?_)
    rw [List.length_take]; omega
  have h7 := Nat.div_mul_le_self (val S0 / 4294967296 ^ j) (val lb)
  have h8 := Nat.div_mul_le_self (val S0) (4294967296 ^ j)
  have h9 : val S0 / 4294967296 ^ j / val lb * val lb * 4294967296 ^ j ≤ val S0 / 4294967296 ^ j * 4294967296 ^ j := Nat.mul_le_mul_right _ h7
  rw [hg] at h3 ⊢
  rw [Nat.add_sub_cancel]
  rw [Nat.add_mul, Nat.add_mul, Nat.one_mul, Nat.one_mul] at h3
  generalize val S0 / 4294967296 ^ j / val lb * val lb * 4294967296 ^ j = X at *
  generalize val lb * 4294967296 ^ j = Y at *
  generalize 4294967296 ^ (j + n + 1) = Z at *
  have hc : c = 0 ∨ c = 1 ∨ 2 ≤ c := by omega
  rcases hc with rfl | rfl | hc
  · omega
  · omega
  · have : 2 * Z ≤ c * Z := Nat.mul_le_mul_right _ hc
    omega
end

end Go.NatP
/- PLAIN ARITHMETIC, 11: long division. No program in sight. -/
namespace Go.NatP
set_option linter.unusedVariables false

/-- A divided by V, down to digit i: T holds the quotient's digits from i on, S what is left -/
def DmIn (A V i : Nat) (S T : List Nat) : Prop := val S < V * 4294967296 ^ i ∧ val S + val T * V = A ∧ ∀ t, t < i → T.getD t 0 = 0

theorem dmIn_start {A V i k : Nat} {S : List Nat} (hS : val S = A) (h : A < V * 4294967296 ^ i) : DmIn A V i S (List.replicate k 0) := by
  refine ⟨by rw [hS]; exact h, by rw [val_replicate_zero, hS]; simp, fun t _ => ?_⟩
  simp [List.getD_eq_getElem?_getD, List.getElem?_replicate]
  split <;> rfl

theorem dmIn_step {A V j Q : Nat} {S T S' : List Nat} (hV : 0 < V) (h : DmIn A V (j + 1) S T) (hT : j < T.length) (hQ : val S / 4294967296 ^ j / V = Q) (hS : val S' = val S - Q * V * 4294967296 ^ j) :
    DmIn A V j S' (T.set j Q) := by
  have hp : 0 < 4294967296 ^ j := Nat.pow_pos (by decide)
  have h1 := Nat.div_mul_le_self (val S / 4294967296 ^ j) V
  have h2 := Nat.lt_mul_div_succ (val S / 4294967296 ^ j) hV
  have h3 := Nat.div_mul_le_self (val S) (4294967296 ^ j)
  have h4 := Nat.lt_mul_div_succ (val S) hp
  rw [hQ] at h1 h2
  have h5 : Q * V * 4294967296 ^ j ≤ val S / 4294967296 ^ j * 4294967296 ^ j := Nat.mul_le_mul_right _ h1
  refine ⟨?_, ?_, fun t ht => ?_⟩
  · rw [hS]
    have h6 : 4294967296 ^ j * (val S / 4294967296 ^ j + 1) ≤ 4294967296 ^ j * (V * (Q + 1)) := Nat.mul_le_mul_left _ h2
    have e : 4294967296 ^ j * (V * (Q + 1)) = Q * V * 4294967296 ^ j + V * 4294967296 ^ j := by grind
    rw [e] at h6
    omega
  · have h7 := val_set T j Q hT
    rw [h.2.2 j (by omega), Nat.zero_mul, Nat.add_zero] at h7
    rw [hS, h7, Nat.add_mul, ← h.2.1]
    have e : Q * 4294967296 ^ j * V = Q * V * 4294967296 ^ j := by grind
    rw [e]
    omega
  · rw [NatP.getD_set_ne _ _ _ _ (by omega)]; exact h.2.2 t (by omega)

theorem dmIn_end {v y P : Nat} {S T : List Nat} (hP : 0 < P) (h : DmIn (v * P) (y * P) 0 S T) : val T = v / y ∧ val S = v % y * P := by
  have h1 := h.1
  rw [Nat.pow_zero, Nat.mul_one] at h1
  have h2 := h.2.1
  have hy : 0 < y * P := by omega
  have e1 : v * P / (y * P) = val T := by
    rw [← h2, Nat.add_mul_div_right _ _ hy, Nat.div_eq_of_lt h1, Nat.zero_add]
  have e2 : v * P % (y * P) = val S := by
    rw [← h2, Nat.add_mul_mod_self_right, Nat.mod_eq_of_lt h1]
  rw [Nat.mul_div_mul_right _ _ hP] at e1
  rw [Nat.mul_mod_mul_right] at e2
  exact ⟨e1.symm, e2.symm⟩

/-- the divisor with its highest bit set: as long as before -/
theorem norm_div {y M s : Nat} (hy : y ≠ 0) (hM : (lm y).length = M) (hs : s + nb ((lm y).getD (M - 1) 0) = 32) :
    y * 2 ^ s < 4294967296 ^ M ∧ 2 ^ 31 * 4294967296 ^ (M - 1) ≤ y * 2 ^ s ∧ (lm (y * 2 ^ s)).length = M ∧ 2147483648 ≤ (lm (y * 2 ^ s)).getD (M - 1) 0 := by
  have hM0 : 0 < M := by
    rw [← hM]; exact List.length_pos_iff.2 fun e => hy (lm_eq_nil.1 e)
  have h1 := nb_top hy
  rw [hM] at h1
  have h2 := nb_mul_two_pow hy s
  have h3 : nb (y * 2 ^ s) = 32 * M := by omega
  have h4 : y * 2 ^ s < 4294967296 ^ M := by rw [pow_32, ← nb_le, h3]; exact Nat.le_refl _
  have h5 : 2 ^ 31 * 4294967296 ^ (M - 1) ≤ y * 2 ^ s := by
    rw [pow_32, ← Nat.pow_add, ← nb_gt, h3]; omega
  have h6 : (lm (y * 2 ^ s)).length = M := by
    have h7 := length_lm_le h4
    have h8 := lt_pow_length (y * 2 ^ s)
    rcases Nat.lt_or_ge (lm (y * 2 ^ s)).length M with h | h
    · have h9 : 4294967296 ^ (lm (y * 2 ^ s)).length ≤ 4294967296 ^ (M - 1) := Nat.pow_le_pow_right (by decide) (by omega)
      have h10 : 1 * 4294967296 ^ (M - 1) ≤ 2 ^ 31 * 4294967296 ^ (M - 1) := Nat.mul_le_mul_right _ (by decide)
      omega
    · omega
  refine ⟨h4, h5, h6, ?_⟩
  rw [getD_val (lim_lm _), val_lm]
  have hp : 0 < 4294967296 ^ (M - 1) := Nat.pow_pos (by decide)
  have h7 : y * 2 ^ s / 4294967296 ^ (M - 1) < 4294967296 := by
    rw [Nat.div_lt_iff_lt_mul hp]
    have : 4294967296 ^ M = 4294967296 * 4294967296 ^ (M - 1) := by rw [Nat.mul_comm, ← Nat.pow_succ]; congr 1; omega
    omega
  rw [Nat.mod_eq_of_lt h7, Nat.le_div_iff_mul_le hp]
  exact h5

theorem dm_first {v y N M s : Nat} (hv : v < 4294967296 ^ N) (hs : s ≤ 31) (hM : 0 < M) (hMN : M ≤ N) (hy : 2 ^ 31 * 4294967296 ^ (M - 1) ≤ y * 2 ^ s) : v * 2 ^ s < y * 2 ^ s * 4294967296 ^ (N - M + 1) := by
  have h1 : 2 ^ 31 * 4294967296 ^ (M - 1) * 4294967296 ^ (N - M + 1) ≤ y * 2 ^ s * 4294967296 ^ (N - M + 1) := Nat.mul_le_mul_right _ hy
  refine Nat.lt_of_lt_of_le ?_ h1
  rw [Nat.mul_assoc, ← Nat.pow_add, show M - 1 + (N - M + 1) = N by omega]
  have h2 : 2 ^ s ≤ 2 ^ 31 := Nat.pow_le_pow_right (by decide) hs
  have h3 : v * 2 ^ s ≤ v * 2 ^ 31 := Nat.mul_le_mul_left _ h2
  have h4 : v * 2 ^ 31 < 4294967296 ^ N * 2 ^ 31 := Nat.mul_lt_mul_of_pos_right hv (by decide)
  rw [Nat.mul_comm (2 ^ 31)]
  omega

theorem dm_q_lt {S : List Nat} {V j : Nat} (h : val S < V * 4294967296 ^ (j + 1)) (hV : 0 < V) : val S / 4294967296 ^ j / V < 4294967296 := by
  rw [Nat.div_lt_iff_lt_mul hV, Nat.div_lt_iff_lt_mul (Nat.pow_pos (by decide)), Nat.mul_assoc, Nat.mul_comm 4294967296, Nat.mul_assoc, ← Nat.pow_succ]
  exact h

/-- the rest, down by the shift, limb by limb -/
def DownIn (S : List Nat) (V P i : Nat) : Prop := (∀ t, t < i → S.getD t 0 = V / P / 4294967296 ^ t % 4294967296) ∧ ∀ t, i ≤ t → S.getD t 0 = V / 4294967296 ^ t % 4294967296

theorem downIn_start {S : List Nat} {V P : Nat} (hS : Lim S) (h : val S = V) : DownIn S V P 0 := ⟨fun t ht => absurd ht (by omega), fun t _ => by rw [← h]; exact getD_val hS t⟩
theorem downIn_step {S : List Nat} {V P i x : Nat} (h : DownIn S V P i) (hi : i < S.length) (hx : x = V / P / 4294967296 ^ i % 4294967296) : DownIn (S.set i x) V P (i + 1) := by
  refine ⟨fun t ht => ?_, fun t ht => ?_⟩
  · by_cases hti : t = i
    · subst hti; rw [getD_set_eq _ _ _ hi, hx]
    · rw [getD_set_ne _ _ _ _ (by omega)]; exact h.1 t (by omega)
  · rw [getD_set_ne _ _ _ _ (by omega)]; exact h.2 t (by omega)
theorem downIn_end {S : List Nat} {V P k : Nat} (h : DownIn S V P k) (hV : V < 4294967296 ^ k) (hk : k ≤ S.length) (hS : Lim S) : val (S.take k) = V / P := by
  refine val_of_limbs (m := k) (by simp; omega) (Nat.lt_of_le_of_lt (Nat.div_le_self _ _) hV) fun t ht => ?_
  rw [getD_take _ _ _ ht]; exact h.1 t ht

end Go.NatP
/- PLAIN ARITHMETIC, 15: whole numbers as a sign and a size. No program in sight. -/
namespace Go.NatP
set_option linter.unusedVariables false

/-- a sign and a size as a whole number -/
def zv (s : Bool) (v : Nat) : Int := if s then -(v : Int) else v
theorem zv_abs (s : Bool) (v : Nat) : (zv s v).natAbs = v := by unfold zv; split <;> omega
theorem zv_neg (s : Bool) (v : Nat) : decide (zv s v < 0) = (s && decide (0 < v)) := by
  unfold zv
  cases s
  · simp
  · simp
theorem zv_self (z : Int) : zv (decide (z < 0)) z.natAbs = z := by
  unfold zv
  by_cases h : z < 0
  · rw [decide_eq_true h, if_pos rfl]; omega
  · rw [decide_eq_false h]; simp; omega
theorem zv_zero (s : Bool) {v : Nat} (h : v = 0) : zv s v = 0 := by subst h; cases s <;> rfl
theorem lm_len_pos {v : Nat} : 0 < (lm v).length ↔ 0 < v := by
  constructor
  · intro h
    rcases Nat.eq_zero_or_pos v with h1 | h1
    · subst h1; simp [lm_zero] at h
    · exact h1
  · intro h
    exact List.length_pos_iff.2 fun e => by have := lm_eq_nil.1 e; omega
theorem zv_neg_len (s : Bool) (v : Nat) : (s && decide (0 < (lm v).length)) = decide (zv s v < 0) := by
  rw [zv_neg]
  congr 1
  rw [decide_eq_decide]
  exact lm_len_pos

theorem zv_add_same (s : Bool) (a b : Nat) : zv s (a + b) = zv s a + zv s b := by unfold zv; cases s <;> simp <;> omega
theorem zv_sub (s : Bool) {a b : Nat} (h : b ≤ a) : zv s (a - b) = zv s a + zv (!s) b := by unfold zv; cases s <;> simp <;> omega
theorem zv_not (s : Bool) (a : Nat) : zv (!s) a = -zv s a := by unfold zv; cases s <;> simp
theorem zv_mul (s t : Bool) (a b : Nat) : zv (!(s == t)) (a * b) = zv s a * zv t b := by
  unfold zv; cases s <;> cases t <;> simp [Int.mul_neg, Int.neg_mul]

def sgn (z : Int) : Int := if z < 0 then -1 else if z = 0 then 0 else 1
def cmpZ (a b : Int) : Int := if a < b then -1 else if b < a then 1 else 0
theorem sgn_zero {s : Bool} {v : Nat} (h : v = 0) : sgn (zv s v) = 0 := by rw [zv_zero s h]; rfl
theorem sgn_neg {v : Nat} (h : v ≠ 0) : sgn (zv true v) = -1 := by unfold sgn zv; simp; omega
theorem sgn_pos {v : Nat} (h : v ≠ 0) : sgn (zv false v) = 1 := by unfold sgn zv; simp [h]
theorem sgn_range (z : Int) : -1 ≤ sgn z ∧ sgn z ≤ 1 := by unfold sgn; split <;> (try split) <;> omega
theorem cmpZ_range (a b : Int) : -1 ≤ cmpZ a b ∧ cmpZ a b ≤ 1 := by unfold cmpZ; split <;> (try split) <;> omega
theorem sgn_cases (z : Int) : (z < 0 ∧ sgn z = -1) ∨ (z = 0 ∧ sgn z = 0) ∨ (0 < z ∧ sgn z = 1) := by
  unfold sgn; split
  · exact .inl ⟨by assumption, rfl⟩
  · split
    · exact .inr (.inl ⟨by assumption, rfl⟩)
    · exact .inr (.inr ⟨by omega, rfl⟩)
theorem cmpZ_cases (a b : Int) : (a < b ∧ cmpZ a b = -1) ∨ (a = b ∧ cmpZ a b = 0) ∨ (b < a ∧ cmpZ a b = 1) := by
  unfold cmpZ; split
  · exact .inl ⟨by assumption, rfl⟩
  · split
    · exact .inr (.inr ⟨by assumption, rfl⟩)
    · exact .inr (.inl ⟨by omega, rfl⟩)
theorem cmpI_cases (a b : Nat) : (a < b ∧ cmpI a b = -1) ∨ (a = b ∧ cmpI a b = 0) ∨ (b < a ∧ cmpI a b = 1) := by
  unfold cmpI; split
  · exact .inl ⟨by assumption, rfl⟩
  · split
    · exact .inr (.inr ⟨by assumption, rfl⟩)
    · exact .inr (.inl ⟨by omega, rfl⟩)
theorem cmpZ_lt {a b : Int} (h : sgn a < sgn b) : cmpZ a b = -1 := by
  have h1 := sgn_cases a; have h2 := sgn_cases b; have h3 := cmpZ_cases a b; omega
theorem cmpZ_gt {a b : Int} (h : sgn b < sgn a) : cmpZ a b = 1 := by
  have h1 := sgn_cases a; have h2 := sgn_cases b; have h3 := cmpZ_cases a b; omega
theorem cmpZ_eq {s t : Bool} {a b : Nat} (h1 : ¬ sgn (zv s a) < sgn (zv t b)) (h2 : ¬ sgn (zv t b) < sgn (zv s a)) : sgn (zv s a) * cmpI a b = cmpZ (zv s a) (zv t b) := by
  have ha := zv_abs s a
  have hb := zv_abs t b
  have h3 := sgn_cases (zv s a); have h4 := sgn_cases (zv t b); have h5 := cmpZ_cases (zv s a) (zv t b); have h6 := cmpI_cases a b
  generalize zv s a = x at *
  generalize zv t b = y at *
  generalize cmpI a b = z at *
  rcases h3 with ⟨h3, e⟩ | ⟨h3, e⟩ | ⟨h3, e⟩ <;> rw [e] <;> omega
theorem sgn_sub (a b : Int) : sgn (a - b) = cmpZ a b := by
  have h1 := sgn_cases (a - b); have h2 := cmpZ_cases a b; omega

end Go.NatP
/- PLAIN ARITHMETIC, 16: fractions as a sign and two sizes. No program in sight. -/
namespace Go.NatP
set_option linter.unusedVariables false

/-- a denominator; 0 counts as 1 -/
def und (d : Nat) : Nat := if d = 0 then 1 else d
theorem und_ne (d : Nat) : und d ≠ 0 := by unfold und; split <;> omega
theorem und_of {d : Nat} (h : d ≠ 0) : und d = d := by unfold und; rw [if_neg h]
/-- the fraction that three words say -/
def qv (s : Bool) (n d : Nat) : Rat := mkRat (zv s n) (und d)

theorem zv_div (s : Bool) {v g : Nat} (h : g ∣ v) : zv s (v / g) = zv s v / (g : Int) := by
  unfold zv
  cases s
  · simp
  · simp only [if_true]
    rw [Int.neg_ediv_of_dvd (Int.natCast_dvd_natCast.2 h)]; rfl

theorem num_low (s : Bool) (v : Nat) {d : Nat} (h : d ≠ 0) : (mkRat (zv s v) d).num = zv s (v / Nat.gcd v d) := by
  rw [Rat.num_mkRat, if_neg h, zv_abs, Nat.gcd_comm, zv_div s (Nat.gcd_dvd_left _ _)]
theorem den_low (s : Bool) (v : Nat) {d : Nat} (h : d ≠ 0) : (mkRat (zv s v) d).den = d / Nat.gcd v d := by
  rw [Rat.den_mkRat, if_neg h, zv_abs, Nat.gcd_comm]

theorem qv_self (q : Rat) : qv (decide (q.num < 0)) (val (lm q.num.natAbs)) (val (lm q.den)) = q := by
  unfold qv
  rw [val_lm, val_lm, zv_self, und_of q.den_nz, Rat.mkRat_self]
theorem qv_num (q : Rat) : zv (decide (q.num < 0)) (val (lm q.num.natAbs)) = q.num := by rw [val_lm, zv_self]

theorem qv_add (n1 n2 : Int) {d1 d2 : Nat} (h1 : d1 ≠ 0) (h2 : d2 ≠ 0) : mkRat (n1 * d2 + n2 * d1) (d1 * d2) = mkRat n1 d1 + mkRat n2 d2 :=
  (Rat.mkRat_add_mkRat n1 n2 h1 h2).symm
theorem qv_sub (n1 n2 : Int) {d1 d2 : Nat} (h1 : d1 ≠ 0) (h2 : d2 ≠ 0) : mkRat (n1 * d2 - n2 * d1) (d1 * d2) = mkRat n1 d1 - mkRat n2 d2 := by
  rw [Rat.sub_eq_add_neg, Rat.neg_mkRat, Rat.mkRat_add_mkRat n1 (-n2) h1 h2, Int.neg_mul, Int.sub_eq_add_neg]
theorem qv_mul (n1 n2 : Int) (d1 d2 : Nat) : mkRat (n1 * n2) (d1 * d2) = mkRat n1 d1 * mkRat n2 d2 :=
  (Rat.mkRat_mul_mkRat n1 n2 d1 d2).symm
theorem qv_neg (s : Bool) (v d : Nat) : mkRat (zv (!s) v) d = - mkRat (zv s v) d := by rw [zv_not, Rat.neg_mkRat]
/-- a quotient -/
theorem qv_div (s t : Bool) (u v : Nat) {d e : Nat} (hd : d ≠ 0) (he : e ≠ 0) (hv : v ≠ 0) :
    mkRat (zv (!(s == t)) (u * e)) (d * v) = mkRat (zv s u) d / mkRat (zv t v) e := by
  rw [Rat.div_def, ← Rat.divInt_ofNat, ← Rat.divInt_ofNat, ← Rat.divInt_ofNat, Rat.inv_divInt, Rat.divInt_mul_divInt]
  cases t
  · rw [show zv false v = (v : Int) by simp [zv], show (zv s u * (e : Int)) = zv (!(s == false)) (u * e) by cases s <;> simp [zv, Int.neg_mul]]
    simp
  · rw [show zv true v = -(v : Int) by simp [zv], Int.mul_neg, Rat.divInt_neg', show -(zv s u * (e : Int)) = zv (!(s == true)) (u * e) by cases s <;> simp [zv, Int.neg_mul]]
    simp

theorem divInt_zv (s t : Bool) (u : Nat) {v : Nat} (hv : v ≠ 0) : mkRat (zv (!(s == t)) u) v = Rat.divInt (zv s u) (zv t v) := by
  rw [← Rat.divInt_ofNat]
  cases t
  · rw [show zv false v = (v : Int) by simp [zv]]; simp
  · rw [show zv true v = -(v : Int) by simp [zv], Rat.divInt_neg', ← zv_not]; simp
/-- the error of a division by y -/
def zE (y : Int) : Int := if y = 0 then 11 else 0
theorem zE_zero {y : Int} (h : y = 0) : zE y = 11 := by unfold zE; rw [if_pos h]
theorem zE_pos {y : Int} (h : y ≠ 0) : zE y = 0 := by unfold zE; rw [if_neg h]
def qE (y : Rat) : Int := zE y.num
theorem qE_zero {y : Rat} (h : y = 0) : qE y = 11 := zE_zero (by rw [h]; rfl)
theorem qE_pos {y : Rat} (h : y ≠ 0) : qE y = 0 := zE_pos (fun e => h (Rat.num_eq_zero.1 e))
theorem zv_eq_zero {s : Bool} {v : Nat} : zv s v = 0 ↔ v = 0 := by unfold zv; cases s <;> simp

theorem mkRat_lt_iff {n1 n2 : Int} {d1 d2 : Nat} (h1 : d1 ≠ 0) (h2 : d2 ≠ 0) : mkRat n1 d1 < mkRat n2 d2 ↔ n1 * d2 < n2 * d1 := by
  have p1 : (0 : Rat) < (d1 : Rat) := Rat.natCast_pos.2 (by omega)
  have p2 : (0 : Rat) < (d2 : Rat) := Rat.natCast_pos.2 (by omega)
  rw [Rat.mkRat_eq_div, Rat.mkRat_eq_div, Rat.div_lt_iff p1, show ((n2 : Rat) / (d2 : Rat)) * (d1 : Rat) = ((n2 : Rat) * (d1 : Rat)) / (d2 : Rat) by rw [Rat.div_def, Rat.div_def, Rat.mul_assoc, Rat.mul_comm _ (d1 : Rat), ← Rat.mul_assoc],
    Rat.lt_div_iff p2, ← Rat.intCast_natCast d1, ← Rat.intCast_natCast d2, ← Rat.intCast_mul, ← Rat.intCast_mul, Rat.intCast_lt_intCast]

def cmpQ (a b : Rat) : Int := if a < b then -1 else if b < a then 1 else 0
theorem cmpQ_range (a b : Rat) : -1 ≤ cmpQ a b ∧ cmpQ a b ≤ 1 := by unfold cmpQ; split <;> (try split) <;> omega
theorem cmpQ_mk {n1 n2 : Int} {d1 d2 : Nat} (h1 : d1 ≠ 0) (h2 : d2 ≠ 0) : cmpZ (n1 * d2) (n2 * d1) = cmpQ (mkRat n1 d1) (mkRat n2 d2) := by
  unfold cmpZ cmpQ
  simp only [mkRat_lt_iff h1 h2, mkRat_lt_iff h2 h1]
theorem cmpQ_cases (a b : Rat) : (a < b ∧ cmpQ a b = -1) ∨ (a = b ∧ cmpQ a b = 0) ∨ (b < a ∧ cmpQ a b = 1) := by
  unfold cmpQ
  by_cases h1 : a < b
  · rw [if_pos h1]; exact .inl ⟨h1, rfl⟩
  · rw [if_neg h1]
    by_cases h2 : b < a
    · rw [if_pos h2]; exact .inr (.inr ⟨h2, rfl⟩)
    · rw [if_neg h2]; exact .inr (.inl ⟨Rat.le_antisymm (Rat.not_lt.1 h2) (Rat.not_lt.1 h1), rfl⟩)
theorem cmpQ_self (a : Rat) : cmpQ a a = 0 := by unfold cmpQ; rw [if_neg Rat.lt_irrefl, if_neg Rat.lt_irrefl]
theorem cmpQ_eq {a b : Rat} (h : a = b) : cmpQ a b = 0 := by rw [h]; exact cmpQ_self b
theorem cmpQ_lt {a b : Rat} (h : a < b) : cmpQ a b = -1 := by unfold cmpQ; rw [if_pos h]
theorem cmpQ_swap (a b : Rat) : cmpQ b a = - cmpQ a b := by
  rcases cmpQ_cases a b with ⟨h, e⟩ | ⟨h, e⟩ | ⟨h, e⟩
  · rw [e]
    rcases cmpQ_cases b a with ⟨h', e'⟩ | ⟨h', e'⟩ | ⟨h', e'⟩
    · exact absurd (Rat.le_of_lt h') (Rat.not_le.2 h)
    · rw [h'] at h; exact absurd h Rat.lt_irrefl
    · rw [e']; rfl
  · rw [e, h, cmpQ_self]; rfl
  · rw [e, cmpQ_lt h]

def sgnQ (q : Rat) : Int := sgn q.num
theorem sgnQ_mk (n : Int) {d : Nat} (h : d ≠ 0) : sgnQ (mkRat n d) = sgn n := by
  have hg : 0 < Nat.gcd n.natAbs d := Nat.gcd_pos_of_pos_right _ (by omega)
  have he : n = zv (decide (n < 0)) n.natAbs := (zv_self n).symm
  unfold sgnQ
  rw [he, num_low _ _ h]
  generalize decide (n < 0) = s
  generalize n.natAbs = v at *
  by_cases hv : v = 0
  · subst hv; simp [zv]
  · have h1 : v / Nat.gcd v d ≠ 0 := by
      have := Nat.div_pos (Nat.le_of_dvd (by omega) (Nat.gcd_dvd_left v d)) hg
      omega
    cases s
    · rw [sgn_pos hv, sgn_pos h1]
    · rw [sgn_neg hv, sgn_neg h1]
theorem sgnQ_cases (q : Rat) : (q < 0 ∧ sgnQ q = -1) ∨ (q = 0 ∧ sgnQ q = 0) ∨ (0 < q ∧ sgnQ q = 1) := by
  have h0 : q < 0 ↔ q.num < 0 := by rw [Rat.lt_iff]; simp
  have h1 : 0 < q ↔ 0 < q.num := by rw [Rat.lt_iff]; simp
  rcases sgn_cases q.num with ⟨h, e⟩ | ⟨h, e⟩ | ⟨h, e⟩
  · exact .inl ⟨h0.2 h, e⟩
  · exact .inr (.inl ⟨Rat.num_eq_zero.1 h, e⟩)
  · exact .inr (.inr ⟨h1.2 h, e⟩)
theorem sgnQ_range (q : Rat) : -1 ≤ sgnQ q ∧ sgnQ q ≤ 1 := sgn_range _
theorem sgnQ_cmp (q : Rat) : sgnQ q = cmpQ q 0 := by
  rcases sgnQ_cases q with ⟨h, e⟩ | ⟨h, e⟩ | ⟨h, e⟩
  · rw [e, cmpQ_lt h]
  · rw [e, h, cmpQ_self]
  · rw [e, cmpQ_swap, cmpQ_lt h]; rfl

theorem floor_mk (n : Int) {d : Nat} (h : d ≠ 0) : (mkRat n d).floor = n / (d : Int) := by
  obtain ⟨k, hk, e1, e2⟩ : ∃ k : Nat, k ≠ 0 ∧ n = (mkRat n d).num * k ∧ d = (mkRat n d).den * k := by
    rw [← Rat.normalize_eq_mkRat h]
    obtain ⟨k, hk, h1, h2⟩ := Rat.normalize_num_den' n d h
    exact ⟨k, hk, h1, h2⟩
  rw [Rat.floor_def]
  generalize mkRat n d = q at *
  rw [e1, e2, Int.natCast_mul, Int.mul_ediv_mul_of_pos_left _ _ (by omega)]

/-! ### sizes -/
/-- a fraction in at most so many limbs -/
def QS (q : Rat) (k : Nat) : Prop := Sz q.num.natAbs k ∧ Sz q.den k
theorem QS.mono {q : Rat} {k j : Nat} (h : QS q k) (hj : k ≤ j) : QS q j := ⟨h.1.mono (Nat.le_refl _) hj, h.2.mono (Nat.le_refl _) hj⟩
theorem QS.mk {n : Int} {d k : Nat} (h : d ≠ 0) (h1 : Sz n.natAbs k) (h2 : Sz d k) : QS (mkRat n d) k := by
  have he : n = zv (decide (n < 0)) n.natAbs := (zv_self n).symm
  unfold QS
  rw [he, num_low _ _ h, den_low _ _ h, zv_abs]
  exact ⟨h1.mono (Nat.div_le_self _ _) (Nat.le_refl _), h2.mono (Nat.div_le_self _ _) (Nat.le_refl _)⟩
theorem sz_one {k : Nat} (hk : 1 ≤ k) : Sz 1 k := (show Sz 1 1 by show 1 < 4294967296 ^ 1; decide).mono (Nat.le_refl _) hk
theorem sz_und {d k : Nat} (h : Sz d k) (hk : 1 ≤ k) : Sz (und d) k := by
  unfold und; split
  · exact sz_one hk
  · exact h
theorem QS.qv {s : Bool} {n d k : Nat} (hk : 1 ≤ k) (h1 : Sz n k) (h2 : Sz d k) : QS (qv s n d) k :=
  QS.mk (und_ne d) (by rw [zv_abs]; exact h1) (sz_und h2 hk)
theorem QS.add {p q : Rat} {j k : Nat} (h : QS p j) (h' : QS q k) : QS (p + q) (j + k + 1) := by
  rw [Rat.add_def']
  refine QS.mk (Nat.mul_ne_zero p.den_nz q.den_nz) ?_ ((h.2.mul h'.2).mono (Nat.le_refl _) (by omega))
  have h1 : Sz (p.num * q.den).natAbs (j + k) := by rw [Int.natAbs_mul]; exact h.1.mul h'.2
  have h2 : Sz (q.num * p.den).natAbs (j + k) := by rw [Int.natAbs_mul, Nat.add_comm]; exact h'.1.mul h.2
  exact (h1.add h2).mono (by omega) (Nat.le_refl _)
theorem QS.neg {p : Rat} {k : Nat} (h : QS p k) : QS (-p) k := ⟨by rw [Rat.neg_num, Int.natAbs_neg]; exact h.1, h.2⟩
theorem QS.sub {p q : Rat} {j k : Nat} (h : QS p j) (h' : QS q k) : QS (p - q) (j + k + 1) := by rw [Rat.sub_eq_add_neg]; exact h.add h'.neg
theorem QS.mul {p q : Rat} {j k : Nat} (h : QS p j) (h' : QS q k) : QS (p * q) (j + k) := by
  rw [Rat.mul_def']
  exact QS.mk (Nat.mul_ne_zero p.den_nz q.den_nz) (by rw [Int.natAbs_mul]; exact h.1.mul h'.1) (h.2.mul h'.2)
theorem QS.inv {q : Rat} {k : Nat} (h : QS q k) (hk : 1 ≤ k) : QS q⁻¹ k := by
  refine ⟨?_, ?_⟩
  · rw [Rat.num_inv, Int.natAbs_mul]
    refine h.2.mono ?_ (Nat.le_refl _)
    rw [Int.natAbs_natCast]
    have : q.num.sign.natAbs ≤ 1 := by rw [Int.natAbs_sign]; split <;> omega
    exact Nat.le_trans (Nat.mul_le_mul_right _ this) (by omega)
  · rw [Rat.den_inv]; split
    · exact sz_one hk
    · exact h.1
theorem QS.div {p q : Rat} {j k : Nat} (h : QS p j) (h' : QS q k) (hk : 1 ≤ k) : QS (p / q) (j + k) := by rw [Rat.div_def]; exact h.mul (h'.inv hk)
theorem QS.len1 {q : Rat} {k : Nat} (h : QS q k) : (lm q.num.natAbs).length ≤ k := h.1.len
theorem QS.len2 {q : Rat} {k : Nat} (h : QS q k) : (lm q.den).length ≤ k := h.2.len

end Go.NatP
