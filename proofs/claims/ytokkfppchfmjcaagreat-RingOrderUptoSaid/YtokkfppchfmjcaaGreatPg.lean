/- PLAIN LAW: texts put together from the left, each in brackets with a sign between (for RingOrder). No program in sight. -/
import Derived.Test.YtokkfppchfmjcaaGreatPP
namespace Go.NatP
set_option linter.unusedVariables false

/-- one step -/
def wf (sg s x : ByteArray) : ByteArray := (⟨#[40]⟩ : ByteArray) ++ s ++ sg ++ x ++ ⟨#[41]⟩
/-- all of a list -/
def wds (sg s : ByteArray) (l : List ByteArray) : ByteArray := l.foldl (wf sg) s
theorem wf_size (sg s x : ByteArray) : (wf sg s x).size = s.size + sg.size + x.size + 2 := by
  unfold wf
  simp only [ByteArray.size_append]
  have h1 : (⟨#[40]⟩ : ByteArray).size = 1 := rfl
  have h2 : (⟨#[41]⟩ : ByteArray).size = 1 := rfl
  omega
theorem wds_nil (sg s : ByteArray) : wds sg s [] = s := rfl
theorem wds_snoc (sg s x : ByteArray) (l : List ByteArray) : wds sg s (l ++ [x]) = wf sg (wds sg s l) x := by
  unfold wds; rw [List.foldl_append]; rfl
theorem wds_take {sg s x : ByteArray} {l : List ByteArray} {k : Nat} (h : l[k]? = some x) : wds sg s (l.take (k + 1)) = wf sg (wds sg s (l.take k)) x := by
  rw [List.take_add_one, h]
  exact wds_snoc _ _ _ _
theorem wds_size {sg : ByteArray} (hs : sg.size = 1) {K : Nat} (l : List ByteArray) (hl : ∀ x ∈ l, x.size ≤ K) (s : ByteArray) : (wds sg s l).size ≤ s.size + l.length * (K + 3) := by
  induction l generalizing s with
  | nil => rw [wds_nil]; omega
  | cons x l ih =>
    have h1 := ih (fun y hy => hl y (List.mem_cons_of_mem _ hy)) (wf sg s x)
    have h2 := hl x (List.mem_cons_self ..)
    rw [wf_size, hs] at h1
    show (wds sg (wf sg s x) l).size ≤ _
    rw [List.length_cons, Nat.add_mul]
    omega
/-- a power: the same text n times -/
theorem wds_rep_succ (sg s x : ByteArray) (n : Nat) : wds sg s (List.replicate (n + 1) x) = wf sg (wds sg s (List.replicate n x)) x := by
  rw [List.replicate_succ', wds_snoc]
end Go.NatP
