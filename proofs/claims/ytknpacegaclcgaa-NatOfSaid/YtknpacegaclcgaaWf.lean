/- WALKS, 6: what was told, laid in rows for apart. -/
import Derived.Test.YtknpacegaclcgaaWd
import Derived.Test.YtknpacegaclcgaaWe
namespace Go.Proofs.Ytknpacegaclcgaa
set_option linter.unusedVariables false
open Go.ChangeShapes Go.WideShapes Go.ChangeAt Go.RowKit Go.NatP

/-- an answer: the slice and what it holds -/
structure It where
  a : Option Addr
  n : Nat
  c : Nat
  l : List Nat
def It.v (x : It) : Value := .slice x.a x.n x.c
def It.d : It := ⟨none, 0, 0, []⟩

/-- answers, each its holder's own, newest first -/
def Told (B : Nat) (w : World) (xs : List It) : Prop :=
  (∀ x ∈ xs, Own B w x.a x.n x.c x.l) ∧ xs.Pairwise fun x y => ∀ g, x.a = some ⟨g, 0, none⟩ → y.a ≠ some ⟨g, 0, none⟩

theorem told_nil (B : Nat) (w : World) : Told B w [] := ⟨(fun x h => by cases h), List.Pairwise.nil⟩
theorem Told.below {B : Nat} {w w' : World} {xs : List It} (h : Told B w xs) (hB : Below w.heap.size w w') : Told B w' xs :=
  ⟨fun x hx => (h.1 x hx).below hB, h.2⟩
theorem Told.cons {B : Nat} {w w' : World} {xs : List It} {a : Option Addr} {n c : Nat} {l : List Nat} (h : Told B w xs) (hs : B ≤ w.heap.size) (hO : Own w.heap.size w' a n c l) (hB : Below w.heap.size w w') :
    Told B w' (⟨a, n, c, l⟩ :: xs) := by
  refine ⟨fun x hx => ?_, List.pairwise_cons.2 ⟨fun y hy g e e2 => ?_, h.2⟩⟩
  · rcases List.mem_cons.1 hx with rfl | hx
    · exact hO.mono hs
    · exact (h.1 x hx).below hB
  · have h1 := h.1 y hy
    rw [e2] at h1
    have := h1.lt
    simp only at e
    rw [e] at hO
    have := hO.lt
    omega

theorem Told.lt {B : Nat} {w : World} {xs : List It} (h : Told B w xs) {x : It} (hx : x ∈ xs) {g : Nat} (e : x.a = some ⟨g, 0, none⟩) : B ≤ g ∧ g < w.heap.size := by
  have := h.1 x hx
  rw [e] at this
  exact this.lt

theorem getD_mem {xs : List It} {i : Nat} (h : i < xs.length) : xs.getD i It.d ∈ xs := by
  rw [List.getD_eq_getElem?_getD, List.getElem?_eq_getElem h]
  exact List.getElem_mem h

theorem row_cell {w : World} {g : Nat} {vs : List Value} {t : TypeId} (hc : w.heap[g]? = some (.cells vs.toArray t (0, 0))) (i : Nat) : w.cell? ⟨g, i, none⟩ = vs[i]? := by
  rw [cell_of_row w g i _ t (0, 0) hc]; simp

/-- The answers in the order s, as a row at block gb. -/
theorem got_of {B : Nat} {w : World} {xs : List It} (s : List Nat) {gb K : Nat} (hK : s.length = K) (h : Told B w xs) (hs : s.Nodup) (hlt : ∀ i ∈ s, i < xs.length)
    (hc : w.heap[gb]? = some (.cells (s.map fun i => (xs.getD i It.d).v).toArray 24 (0, 0))) (hgb : ∀ x ∈ xs, x.a ≠ some ⟨gb, 0, none⟩) :
    Got w gb K (fun i => (xs.getD (s.getD i 0) It.d).a) (fun i => (xs.getD (s.getD i 0) It.d).n) (fun i => (xs.getD (s.getD i 0) It.d).c) (fun i => (xs.getD (s.getD i 0) It.d).l) := by
  subst hK
  have hm : ∀ i, i < s.length → s.getD i 0 < xs.length := fun i hi => hlt _ (by rw [getD_eq _ _ hi]; exact List.getElem_mem hi)
  refine ⟨fun i hi => ?_, fun i hi => ?_, fun i j hi hj hij g e => ?_, fun i hi => ?_⟩
  · rw [row_cell hc, List.getElem?_map, List.getElem?_eq_getElem hi]
    simp [It.v, List.getElem?_eq_getElem hi]
  · exact (h.1 _ (getD_mem (hm i hi))).mono (Nat.zero_le _)
  · have hne : s.getD i 0 ≠ s.getD j 0 := by
      rw [getD_eq _ _ hi, getD_eq _ _ hj]
      rcases Nat.lt_or_gt_of_ne hij with h1 | h1
      · exact (List.pairwise_iff_getElem.1 hs) i j hi hj h1
      · exact ((List.pairwise_iff_getElem.1 hs) j i hj hi h1).symm
    have hi' := hm i hi
    have hj' := hm j hj
    generalize s.getD i 0 = i' at *
    generalize s.getD j 0 = j' at *
    have e1 : xs.getD i' It.d = xs[i'] := by rw [List.getD_eq_getElem?_getD, List.getElem?_eq_getElem hi']; rfl
    have e2 : xs.getD j' It.d = xs[j'] := by rw [List.getD_eq_getElem?_getD, List.getElem?_eq_getElem hj']; rfl
    rw [e1] at e
    rw [e2]
    rcases Nat.lt_or_gt_of_ne hne with h1 | h1
    · exact (List.pairwise_iff_getElem.1 h.2) i' j' hi' hj' h1 g e
    · intro e3
      exact (List.pairwise_iff_getElem.1 h.2) j' i' hj' hi' h1 g e3 e
  · exact hgb _ (getD_mem (hm i hi))

/-- What must be, as a row at block wb. -/
theorem want_of {w : World} (ys : List It) {wb K : Nat} {L : Nat → List Nat} (hK : ys.length = K) (hc : w.heap[wb]? = some (.cells (ys.map It.v).toArray 24 (0, 0)))
    (hr : ∀ y ∈ ys, Rd w y.a y.n y.c y.l) (hL : ∀ i, i < K → (ys.getD i It.d).l = L i) : Want w wb K L := by
  subst hK
  intro i hi
  refine ⟨ys[i].a, ys[i].n, ys[i].c, ?_, ?_⟩
  · rw [row_cell hc, List.getElem?_map, List.getElem?_eq_getElem hi]; rfl
  · rw [← hL i hi, List.getD_eq_getElem?_getD, List.getElem?_eq_getElem hi]
    exact hr _ (List.getElem_mem hi)

theorem RetApart.below {w : World} {K : Nat} {A : Nat → Option Addr} {e : Ending} {w' : World} (h : RetApart w K A e w') {w0 : World} (hB : Below w0.heap.size w0 w) (hA : ∀ i, i < K → ∀ g, A i = some ⟨g, 0, none⟩ → w0.heap.size ≤ g) :
    e = .returned (.bool true) ∧ Below w0.heap.size w0 w' :=
  ⟨h.1, hB.kp h.2 hB.size fun k hk ⟨i, hi, e⟩ => by have := hA i hi k e; omega⟩

/-- apart, over what was told. -/
theorem apart_told {B : Nat} {w : World} {xs : List It} (s : List Nat) (ys : List It) {gb wb K : Nat} (hK : s.length = K) (hK2 : ys.length = K) (hK3 : K ≤ 1000) (h : Told B w xs) (hs : s.Nodup) (hlt : ∀ i ∈ s, i < xs.length)
    (hB : B ≤ w.heap.size) (hn : ∀ x ∈ xs, x.n ≤ 268435456)
    (hc : w.heap[gb]? = some (.cells (s.map fun i => (xs.getD i It.d).v).toArray 24 (0, 0))) (hgb : ∀ x ∈ xs, x.a ≠ some ⟨gb, 0, none⟩)
    (hc2 : w.heap[wb]? = some (.cells (ys.map It.v).toArray 24 (0, 0))) (hr : ∀ y ∈ ys, Rd w y.a y.n y.c y.l) (hL : ∀ i, i < K → (ys.getD i It.d).l = (xs.getD (s.getD i 0) It.d).l) :
    Calls Try.prog 20 #[.slice (some ⟨gb, 0, none⟩) K K, .slice (some ⟨wb, 0, none⟩) K K] w fun e w' => e = .returned (.bool true) ∧ Kp (fun b => ∃ x ∈ xs, x.a = some ⟨b, 0, none⟩) w w' := by
  have hm : ∀ i, i < K → s.getD i 0 < xs.length := fun i hi => hlt _ (by rw [getD_eq _ _ (by omega)]; exact List.getElem_mem (by omega))
  refine (apart_any hK3 (got_of s hK h hs hlt hc hgb) (want_of ys hK2 hc2 hr hL) fun i hi => ?_).mono fun e w' ⟨h1, h2⟩ => ⟨h1, h2.mono fun k _ ⟨i, hi, e⟩ => ⟨_, getD_mem (hm i hi), e⟩⟩
  exact hn _ (getD_mem (hm i hi))

theorem _root_.Go.RowKit.Below.next {w0 w w' : World} (h : Below w0.heap.size w0 w) (k : Below w.heap.size w w') : Below w0.heap.size w0 w' := h.then k h.size
theorem two_new1 (w : World) (o1 o2 : Obj) : ((w.alloc o1).alloc o2).heap[w.heap.size]? = some o1 := by
  rw [Below.heap_alloc _ _ _ (by simp)]; exact heap_alloc_new w o1
theorem two_new2 (w : World) (o1 o2 : Obj) : ((w.alloc o1).alloc o2).heap[w.heap.size + 1]? = some o2 := by
  have := heap_alloc_new (w.alloc o1) o2
  simpa using this
theorem below_two (w : World) (o1 o2 : Obj) : Below w.heap.size w ((w.alloc o1).alloc o2) := ((Below.refl _ w).alloc (Nat.le_refl _) o1).alloc (by simp) o2

/-- apart, at two rows that have just been laid. -/
theorem apart_two {w0 w : World} {xs : List It} (s : List Nat) (ys : List It) {K : Nat} {vs us : Array Value} (hK : s.length = K) (hK2 : ys.length = K) (hK3 : K ≤ 1000) (h : Told w0.heap.size w xs) (hs : s.Nodup) (hlt : ∀ i ∈ s, i < xs.length)
    (hB : Below w0.heap.size w0 w) (hn : ∀ x ∈ xs, x.n ≤ 268435456) (hvs : vs = (s.map fun i => (xs.getD i It.d).v).toArray) (hus : us = (ys.map It.v).toArray)
    (hr : ∀ y ∈ ys, Rd w y.a y.n y.c y.l) (hL : ∀ i, i < K → (ys.getD i It.d).l = (xs.getD (s.getD i 0) It.d).l) :
    Calls Try.prog 20 #[.slice (some ⟨w.heap.size, 0, none⟩) K K, .slice (some ⟨w.heap.size + 1, 0, none⟩) K K]
      ((w.alloc (.cells vs 24)).alloc (.cells us 24)) fun e w' => e = .returned (.bool true) ∧ Below w0.heap.size w0 w' ∧ Kp (fun b => ∃ x ∈ xs, x.a = some ⟨b, 0, none⟩) w w' := by
  subst hvs hus
  have h2 := below_two w (.cells (s.map fun i => (xs.getD i It.d).v).toArray 24) (.cells (ys.map It.v).toArray 24)
  refine (apart_told s ys hK hK2 hK3 (h.below h2) hs hlt (by have := hB.size; simp; omega) hn (two_new1 _ _ _) (fun x hx e => by have := (h.lt hx e).2; omega) (two_new2 _ _ _)
    (fun y hy => (hr y hy).below h2) hL).mono fun e w' ⟨h3, h4⟩ => ⟨h3, ?_, ?_⟩
  · exact (hB.next h2).kp h4 (by have := hB.size; simp; omega) fun k hk ⟨x, hx, e⟩ => by have := (h.lt hx e).1; omega
  · exact (kp_of_below h2).kp h4 fun k _ e => .inl e

end Go.Proofs.Ytknpacegaclcgaa
