/- WALKS OF FRACTIONS, 18: rows of fractions that were answered: SameList; what was told, by pairs. -/
import Derived.Test.YtennilapmcgnbaaQm
namespace Go.Proofs.Ytennilapmcgnbaa
set_option linter.unusedVariables false
set_option linter.unusedSimpArgs false
open Go.ChangeShapes Go.WideShapes Go.ChangeAt Go.RowKit Go.NatP

/-- a fraction that was answered: its sign, its two lists and what they hold -/
structure QA where
  s : Bool
  a : Option Addr
  n : Nat
  c : Nat
  l : List Nat
  b : Option Addr
  m : Nat
  d : Nat
  k : List Nat
def QA.o : QA := ⟨false, none, 0, 0, [], none, 0, 0, []⟩
def QA.cs (x : QA) : List Value := [.bool x.s, .slice x.a x.n x.c, .slice x.b x.m x.d]
/-- N of them in a row, that can be read -/
def QRow (W : World) (sa : Option Addr) (N : Nat) (xs : List QA) : Prop :=
  ∀ i, i < N → Rd W (xs.getD i QA.o).a (xs.getD i QA.o).n (xs.getD i QA.o).c (xs.getD i QA.o).l ∧ Rd W (xs.getD i QA.o).b (xs.getD i QA.o).m (xs.getD i QA.o).d (xs.getD i QA.o).k ∧
    ∃ g o, sa = some ⟨g, o, none⟩ ∧ W.cell? ⟨g, o + i * 3, none⟩ = some (.bool (xs.getD i QA.o).s) ∧ W.cell? ⟨g, o + i * 3 + 1, none⟩ = some (.slice (xs.getD i QA.o).a (xs.getD i QA.o).n (xs.getD i QA.o).c) ∧ W.cell? ⟨g, o + i * 3 + 2, none⟩ = some (.slice (xs.getD i QA.o).b (xs.getD i QA.o).m (xs.getD i QA.o).d)
theorem QRow.below {W W' : World} {sa : Option Addr} {N : Nat} {xs : List QA} (h : QRow W sa N xs) (hB : Below W.heap.size W W') : QRow W' sa N xs := fun i hi => by
  obtain ⟨h4, h5, g, o, e, c1, c2, c3⟩ := h i hi
  have hl := World.block_lt_of_cell? _ _ c1
  exact ⟨h4.below hB, h5.below hB, g, o, e, by rw [hB.cell (p := ⟨g, o + i * 3, none⟩) hl]; exact c1, by rw [hB.cell (p := ⟨g, o + i * 3 + 1, none⟩) hl]; exact c2, by rw [hB.cell (p := ⟨g, o + i * 3 + 2, none⟩) hl]; exact c3⟩
theorem flat_get (xs : List QA) : ∀ i, i < xs.length → (xs.flatMap QA.cs)[i * 3]? = some (.bool (xs.getD i QA.o).s) ∧ (xs.flatMap QA.cs)[i * 3 + 1]? = some (.slice (xs.getD i QA.o).a (xs.getD i QA.o).n (xs.getD i QA.o).c) ∧ (xs.flatMap QA.cs)[i * 3 + 2]? = some (.slice (xs.getD i QA.o).b (xs.getD i QA.o).m (xs.getD i QA.o).d) := by
  induction xs with
  | nil => intro i h; exact absurd h (Nat.not_lt_zero _)
  | cons x xs ih =>
    intro i h
    rcases i with _ | i
    · exact ⟨rfl, rfl, rfl⟩
    · have := ih i (by simpa using h)
      rw [show (i + 1) * 3 = i * 3 + 1 + 1 + 1 by omega, List.flatMap_cons]
      exact this
theorem qrow_of {W : World} {g : Nat} {cs : Array Value} {xs : List QA} {N : Nat} (hc : Blk W g cs) (hcs : cs = (xs.flatMap QA.cs).toArray) (hN : xs.length = N) (hr : ∀ x ∈ xs, Rd W x.a x.n x.c x.l ∧ Rd W x.b x.m x.d x.k) : QRow W (some ⟨g, 0, none⟩) N xs := fun i hi => by
  subst hN
  have hm : xs.getD i QA.o ∈ xs := by
    rw [List.getD_eq_getElem?_getD, List.getElem?_eq_getElem hi]; exact List.getElem_mem hi
  obtain ⟨e0, e1, e2⟩ := flat_get xs i hi
  refine ⟨(hr _ hm).1, (hr _ hm).2, g, 0, rfl, ?_, ?_, ?_⟩
  · rw [Nat.zero_add, hc.cell (i * 3), hcs, List.getElem?_toArray, e0]
  · rw [Nat.zero_add, hc.cell (i * 3 + 1), hcs, List.getElem?_toArray, e1]
  · rw [Nat.zero_add, hc.cell (i * 3 + 2), hcs, List.getElem?_toArray, e2]
/-- two rows hold the same -/
def QSame (N : Nat) (xs ys : List QA) : Prop := ∀ i, i < N → (xs.getD i QA.o).s = (ys.getD i QA.o).s ∧ (xs.getD i QA.o).l = (ys.getD i QA.o).l ∧ (xs.getD i QA.o).k = (ys.getD i QA.o).k
/-- two lists are told, the one's memory is not the other's -/
theorem Told.cons2 {B : Nat} {w w' : World} {xs : List It} {a b : Option Addr} {n c m d : Nat} {l k : List Nat} (h : Told B w xs) (hs : B ≤ w.heap.size) (hO : Own w.heap.size w' a n c l) (hO' : Own w.heap.size w' b m d k) (hD : Diff a b) (hB : Below w.heap.size w w') :
    Told B w' (⟨b, m, d, k⟩ :: ⟨a, n, c, l⟩ :: xs) := by
  have h1 := h.cons hs hO hB
  refine ⟨fun x hx => ?_, List.pairwise_cons.2 ⟨fun y hy g e e2 => ?_, h1.2⟩⟩
  · rcases List.mem_cons.1 hx with rfl | hx
    · exact hO'.mono hs
    · exact h1.1 x hx
  · rcases List.mem_cons.1 hy with rfl | hy
    · simp only at e e2
      exact hD g e2 e
    · have h2 := h.1 y hy
      rw [e2] at h2
      have := h2.lt
      simp only at e
      rw [e] at hO'
      have := hO'.lt
      omega
theorem got_told {B : Nat} {w : World} {xs : List It} (s : List Nat) {gb K : Nat} (hK : s.length = K) (h : Told B w xs) (hs : s.Nodup) (hlt : ∀ i ∈ s, i < xs.length) {W : World} (hB : Below w.heap.size w W)
    (hc : ∀ i, i < K → W.cell? ⟨gb, i, none⟩ = some (.slice (xs.getD (s.getD i 0) It.d).a (xs.getD (s.getD i 0) It.d).n (xs.getD (s.getD i 0) It.d).c)) (hgb : w.heap.size ≤ gb) :
    Got W gb K (fun i => (xs.getD (s.getD i 0) It.d).a) (fun i => (xs.getD (s.getD i 0) It.d).n) (fun i => (xs.getD (s.getD i 0) It.d).c) (fun i => (xs.getD (s.getD i 0) It.d).l) := by
  subst hK
  have hm : ∀ i, i < s.length → s.getD i 0 < xs.length := fun i hi => hlt _ (by rw [getD_eq _ _ hi]; exact List.getElem_mem hi)
  refine ⟨hc, fun i hi => ?_, fun i j hi hj hij g e => ?_, fun i hi e => ?_⟩
  · exact ((h.1 _ (getD_mem (hm i hi))).mono (Nat.zero_le _)).below hB
  · have hne : s.getD i 0 ≠ s.getD j 0 := by
      rw [getD_eq _ _ hi, getD_eq _ _ hj]
      rcases Nat.lt_or_gt_of_ne hij with h1 | h1
      · exact (List.pairwise_iff_getElem.1 hs) i j hi hj h1
      · exact ((List.pairwise_iff_getElem.1 hs) j i hj hi h1).symm
    have hi' := hm i hi
    have hj' := hm j hj
    generalize s.getD i 0 = i' at *
    generalize s.getD j 0 = j' at *
    have e1 : xs.getD i' It.d = xs[i'] := by rw [List.getD_eq_getElem?_getD, List.getElem?_eq_getElem hi']; rfl
    have e2 : xs.getD j' It.d = xs[j'] := by rw [List.getD_eq_getElem?_getD, List.getElem?_eq_getElem hj']; rfl
    rw [e1] at e
    rw [e2]
    rcases Nat.lt_or_gt_of_ne hne with h1 | h1
    · exact (List.pairwise_iff_getElem.1 h.2) i' j' hi' hj' h1 g e
    · intro e3
      exact (List.pairwise_iff_getElem.1 h.2) j' i' hj' hi' h1 g e3 e
  · have := (h.lt (getD_mem (hm i hi)) e).2
    omega

end Go.Proofs.Ytennilapmcgnbaa
