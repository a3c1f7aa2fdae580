/- WALKS OF FRACTIONS, 19: the first of a list, each cut. -/
import Derived.Test.YtgddnmmllchndaaGreatQv
import Derived.Test.YtgddnmmllchndaaGreatQw
namespace Go.Proofs.YtgddnmmllchndaaGreat
set_option linter.unusedVariables false
set_option linter.unusedSimpArgs false
open Go.ChangeShapes Go.WideShapes Go.ChangeAt Go.RowKit Go.NatP

section
variable {w : World} {ops : Array Oper} {rest : List Oper} {o : Oper} {A : Act} {Q : Exit → Act → World → Prop}
theorem wpList_appQ {B : Nat} {sa : Option Addr} {n c : Nat} {xs : List Value} {u v x : Value} (hgd : o.guard = none) (s y : Operand)
    (ho : o.op = .call { callee := .builtin .append, args := #[s, y], argTypes := #[32, 32] })
    (hs : A.eval s = .slice sa n c) (hO : w.ownsRow B 38 3 (.slice sa n c) n xs) (g d : Nat) (hx : A.eval y = .slice (some ⟨g, 0, none⟩) 1 d)
    (hu : u.oneCell' = true) (hv : v.oneCell' = true) (hxc : x.oneCell' = true) (hn3 : Blk w g #[u, v, x]) (hB : B ≤ w.heap.size) (hn : n + 1 ≤ 1073741824)
    (h : ∀ a' c' w', w'.ownsRow B 38 3 (.slice a' (n + 1) c') (n + 1) (xs ++ [u, v, x]) → Kp (fun k => sa = some ⟨k, 0, none⟩) w w' → (a' = sa ∨ ∀ g, a' = some ⟨g, 0, none⟩ → w.heap.size ≤ g) → wpList Tryz.prog ops Q rest (A.put o.dst (.slice a' (n + 1) c')) w') :
    wpList Tryz.prog ops Q (o :: rest) A w :=
  wpList_plain hgd fun K hK => wp_appQ s y ho hs hO g d hx hu hv hxc hn3 hB hn fun a' c' w' h1 h2 h3 => hK _ _ (h a' c' w' h1 h2 h3)
end
theorem ownsRow_cases3 {w : World} {B : Nat} {E : TypeId} {sz : Nat} {sa : Option Addr} {n c : Nat} {xs : List Value} (h : w.ownsRow B E sz (.slice sa n c) n xs) (hs : 0 < sz) :
    (sa = none ∧ n = 0 ∧ c = 0 ∧ xs = []) ∨ ∃ g, sa = some ⟨g, 0, none⟩ ∧ B ≤ g ∧ g < w.heap.size ∧ n ≤ c ∧ c ≤ maxLen := by
  have h0 := h.1
  rcases h.2 with ⟨h1, h2⟩ | ⟨g, cap, cur, h1, h2, h3, h4, h5, _⟩
  · simp only [Value.slice.injEq] at h1
    obtain ⟨e1, e2, e3⟩ := h1
    rw [e2] at h0
    exact .inl ⟨e1, e2, e3, List.length_eq_zero_iff.1 (by omega)⟩
  · simp only [Value.slice.injEq, true_and] at h1
    obtain ⟨e1, e2⟩ := h1
    subst e2
    exact .inr ⟨g, e1, h2, (Array.getElem?_eq_some_iff.1 h3).1, h4, h5⟩
theorem ownsRow_block3 {w w' : World} {B : Nat} {E : TypeId} {sz : Nat} {sa : Option Addr} {n c : Nat} {xs : List Value} (h : w.ownsRow B E sz (.slice sa n c) n xs) (hk : ∀ g, sa = some ⟨g, 0, none⟩ → w'.heap[g]? = w.heap[g]?) : w'.ownsRow B E sz (.slice sa n c) n xs := by
  refine ⟨h.1, ?_⟩
  rcases h.2 with h1 | ⟨g, cap, cur, h1, h2, h3, h4⟩
  · exact .inl h1
  · refine .inr ⟨g, cap, cur, h1, h2, ?_, h4⟩
    simp only [Value.slice.injEq] at h1
    rw [hk g h1.1]; exact h3
/-- a fraction that was cut: its lists lay in the old world, longer, and can be read -/
def CutOK (w W : World) (y : QA) : Prop :=
  (∃ n l, y.n ≤ n ∧ Rd w y.a n y.c l) ∧ (∃ m k, y.m ≤ m ∧ Rd w y.b m y.d k) ∧ Rd W y.a y.n y.c y.l ∧ Rd W y.b y.m y.d y.k ∧ y.n ≤ 40 ∧ y.m ≤ 40
theorem CutOK.kp {w W W' : World} {y : QA} {p : Nat → Prop} (h : CutOK w W y) (hk : Kp p W W') (hp : ∀ b, b < w.heap.size → ¬ p b) : CutOK w W' y := by
  obtain ⟨⟨n, l, h1, h2⟩, ⟨m, k, h3, h4⟩, h5, h6, h7⟩ := h
  exact ⟨⟨n, l, h1, h2⟩, ⟨m, k, h3, h4⟩, h2.kp_old h1 h5 hk hp, h4.kp_old h3 h6 hk hp, h7⟩
theorem CutOK.below {w W W' : World} {y : QA} (h : CutOK w W y) (hB : Below W.heap.size W W') : CutOK w W' y := by
  obtain ⟨h1, h2, h3, h4, h5⟩ := h
  exact ⟨h1, h2, h3.below hB, h4.below hB, h5⟩
def RetCutAll (w : World) (m : Nat) (e : Ending) (w' : World) : Prop :=
  ∃ (a : Option Addr) (c : Nat) (ys : List QA), e = .returned (.slice a m c) ∧ ys.length = m ∧ w'.ownsRow w.heap.size 38 3 (.slice a m c) m (ys.flatMap QA.cs) ∧ (∀ y ∈ ys, CutOK w w' y) ∧ Below w.heap.size w w'

end Go.Proofs.YtgddnmmllchndaaGreat
