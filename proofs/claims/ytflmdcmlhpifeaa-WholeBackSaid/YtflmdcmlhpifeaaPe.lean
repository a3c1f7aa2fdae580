/- PLAIN ARITHMETIC, 5: decimal digits. No program in sight. -/
import Derived.Test.YtflmdcmlhpifeaaPd
namespace Go.NatP
set_option linter.unusedVariables false

def dlF : Nat → Nat → List Nat
  | 0, _ => []
  | f + 1, n => if n = 0 then [] else n % 10 :: dlF f (n / 10)
/-- the digits of a number, the lowest first -/
def dl (n : Nat) : List Nat := dlF n n
theorem dlF_eq (f : Nat) : ∀ g n, n ≤ f → n ≤ g → dlF f n = dlF g n := by
  induction f with
  | zero =>
    intro g n hf _
    have : n = 0 := by omega
    subst this
    cases g <;> simp [dlF]
  | succ f ih =>
    intro g n hf hg
    cases g with
    | zero =>
      have : n = 0 := by omega
      subst this
      simp [dlF]
    | succ g =>
      simp only [dlF]
      split
      · rfl
      · rw [ih g (n / 10) (by omega) (by omega)]
theorem dl_zero : dl 0 = [] := rfl
theorem dl_pos {n : Nat} (h : n ≠ 0) : dl n = n % 10 :: dl (n / 10) := by
  unfold dl
  cases n with
  | zero => omega
  | succ n => rw [dlF, if_neg h, dlF_eq n ((n + 1) / 10) _ (by omega) (by omega)]
theorem dl_lt (n : Nat) : ∀ d ∈ dl n, d < 10 := by
  induction n using Nat.strongRecOn with
  | _ n ih =>
    by_cases h : n = 0
    · subst h; intro d hd; cases hd
    · rw [dl_pos h]
      intro d hd
      rcases List.mem_cons.1 hd with rfl | hd
      · exact Nat.mod_lt _ (by decide)
      · exact ih _ (by omega) d hd
theorem length_dl_le {n k : Nat} (h : n < 10 ^ k) : (dl n).length ≤ k := by
  induction k generalizing n with
  | zero => have : n = 0 := by simpa using h
            subst this; simp [dl_zero]
  | succ k ih =>
    by_cases hn : n = 0
    · subst hn; simp [dl_zero]
    · rw [dl_pos hn, List.length_cons]
      have := ih (n := n / 10) (by rw [Nat.div_lt_iff_lt_mul (by decide), ← Nat.pow_succ]; exact h)
      omega
/-- the text of a number, byte by byte -/
def tx (n : Nat) : List Nat := if n = 0 then [48] else (dl n).reverse.map (· + 48)

/-- the digits of one part of at most k more: p below, R above -/
theorem dl_part {R p k : Nat} (hp : p < 10 ^ (k + 1)) (h : 0 < R ∨ 0 < p) : dl (R * 10 ^ (k + 1) + p) = p % 10 :: dl (R * 10 ^ k + p / 10) := by
  have h10 := Nat.pow_pos (n := k) (show 0 < 10 by decide)
  have hne : R * 10 ^ (k + 1) + p ≠ 0 := by
    rcases h with h | h
    · have : 0 < R * 10 ^ (k + 1) := Nat.mul_pos h (Nat.pow_pos (by decide)); omega
    · omega
  rw [dl_pos hne]
  have e : R * 10 ^ (k + 1) = 10 * (R * 10 ^ k) := by rw [Nat.pow_succ]; grind
  rw [e]
  congr 1
  · omega
  · congr 1; omega

/-- digits read: bytes as numbers -/
def okD (l : List Nat) : Bool := l.all fun c => decide (48 ≤ c) && decide (c ≤ 57)
def numD (l : List Nat) : Nat := l.foldl (fun v c => 10 * v + (c - 48)) 0
def paN (l : List Nat) : Nat := if l ≠ [] ∧ okD l = true then numD l else 0
def paE (l : List Nat) : Int := if l ≠ [] ∧ okD l = true then 0 else 10
theorem numD_snoc (l : List Nat) (c : Nat) : numD (l ++ [c]) = 10 * numD l + (c - 48) := by simp [numD]
theorem okD_snoc (l : List Nat) (c : Nat) : okD (l ++ [c]) = (okD l && (decide (48 ≤ c) && decide (c ≤ 57))) := by simp [okD]
theorem okD_bad {l : List Nat} {i : Nat} (hi : i < l.length) (h : ¬ (48 ≤ l.getD i 0 ∧ l.getD i 0 ≤ 57)) : okD l = false := by
  rw [okD, List.all_eq_false]
  refine ⟨l.getD i 0, ?_, ?_⟩
  · rw [getD_eq _ _ hi]; exact List.getElem_mem hi
  · simpa using h

/-- ten times a number, and a digit: limb by limb -/
def TenIn (l S : List Nat) (k cy d : Nat) : Prop :=
  val (S.take k) + cy * 4294967296 ^ k = 10 * val (l.take k) + d
theorem tenIn_start (l S : List Nat) (d : Nat) : TenIn l S 0 d d := by simp [TenIn, val]
theorem ten_step {s c d x P vl : Nat} (h : s + c * P = 10 * vl + d) :
    s + (c + 10 * x) % 4294967296 * P + (c + 10 * x) / 4294967296 * (P * 4294967296) = 10 * (vl + x * P) + d := by
  have := Nat.div_add_mod (c + 10 * x) 4294967296
  generalize (c + 10 * x) / 4294967296 = q at *
  generalize (c + 10 * x) % 4294967296 = r at *
  grind
theorem tenIn_set {l S : List Nat} {k cy d : Nat} (h : TenIn l S k cy d) (hl : k < S.length) :
    TenIn l (S.set k ((cy + 10 * l.getD k 0) % 4294967296)) (k + 1) ((cy + 10 * l.getD k 0) / 4294967296) d := by
  unfold TenIn at *
  rw [val_set_take S k _ hl, val_take_succ', Nat.pow_succ]
  exact ten_step h
theorem tenIn_snoc {l S : List Nat} {k cy d : Nat} (h : TenIn l S k cy d) (hl : S.length = k) :
    TenIn l (S ++ [(cy + 10 * l.getD k 0) % 4294967296]) (k + 1) ((cy + 10 * l.getD k 0) / 4294967296) d := by
  unfold TenIn at *
  rw [List.take_of_length_le (by simp; omega), val_append, val_take_succ', Nat.pow_succ]
  rw [List.take_of_length_le (by omega)] at h
  simp only [val, Nat.mul_zero, Nat.add_zero]
  rw [hl, Nat.mul_comm (4294967296 ^ k)]
  exact ten_step h

theorem numD_lt (l : List Nat) (h : ∀ c ∈ l, c ≤ 57) : numD l < 4294967296 ^ l.length := by
  have key : ∀ (l : List Nat) (v : Nat), (∀ c ∈ l, c ≤ 57) → l.foldl (fun v c => 10 * v + (c - 48)) v < (v + 1) * 10 ^ l.length := by
    intro l
    induction l with
    | nil => intro v _; simp
    | cons c l ih =>
      intro v h
      have h1 := ih (10 * v + (c - 48)) fun c hc => h c (by simp [hc])
      have h2 := h c (by simp)
      rw [List.foldl_cons, List.length_cons, Nat.pow_succ]
      refine Nat.lt_of_lt_of_le h1 ?_
      rw [Nat.mul_comm (10 ^ l.length), ← Nat.mul_assoc]
      exact Nat.mul_le_mul_right _ (by omega)
  have := key l 0 h
  rw [Nat.zero_add, Nat.one_mul] at this
  exact Nat.lt_of_lt_of_le this (Nat.pow_le_pow_left (by decide) _)

end Go.NatP
