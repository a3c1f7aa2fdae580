/- WALKS OF RINGS, 6: rows of many answers. -/
import Derived.Test.YtbfhnlbdpbfalaaGreatQv
import Derived.Test.YtbfhnlbdpbfalaaGreatQn
namespace Go.Proofs.YtbfhnlbdpbfalaaGreat
set_option linter.unusedVariables false
set_option linter.unusedSimpArgs false
open Go.ChangeShapes Go.WideShapes Go.ChangeAt Go.RowKit Go.NatP

/-- told, and not long -/
def Told2 (B : Nat) (w : World) (xs : List It) : Prop := Told B w xs ∧ ∀ x ∈ xs, x.n ≤ 268435456
theorem told2_nil (B : Nat) (w : World) : Told2 B w [] := ⟨told_nil B w, fun x h => by cases h⟩
theorem Told2.below {B : Nat} {w w' : World} {xs : List It} (h : Told2 B w xs) (hB : Below w.heap.size w w') : Told2 B w' xs := ⟨h.1.below hB, h.2⟩
theorem Told2.cons1 {B : Nat} {w w' : World} {xs : List It} {a : Option Addr} {n c : Nat} {l : List Nat} (h : Told2 B w xs) (hs : B ≤ w.heap.size) (hO : Own w.heap.size w' a n c l) (hB : Below w.heap.size w w') (h1 : l.length ≤ 1000) :
    Told2 B w' (⟨a, n, c, l⟩ :: xs) :=
  ⟨h.1.cons hs hO hB, fun x hx => by
    rcases List.mem_cons.1 hx with rfl | hx
    · have := hO.len; show n ≤ _; omega
    · exact h.2 x hx⟩
theorem Told2.cons2 {B : Nat} {w w' : World} {xs : List It} {a b : Option Addr} {n c m d : Nat} {l k : List Nat} (h : Told2 B w xs) (hs : B ≤ w.heap.size) (hO : Own w.heap.size w' a n c l) (hO' : Own w.heap.size w' b m d k) (hD : Diff a b) (hB : Below w.heap.size w w') (h1 : l.length ≤ 1000) (h2 : k.length ≤ 1000) :
    Told2 B w' (⟨b, m, d, k⟩ :: ⟨a, n, c, l⟩ :: xs) :=
  ⟨h.1.cons2 hs hO hO' hD hB, fun x hx => by
    rcases List.mem_cons.1 hx with rfl | hx
    · have := hO'.len; show m ≤ _; omega
    · rcases List.mem_cons.1 hx with rfl | hx
      · have := hO.len; show n ≤ _; omega
      · exact h.2 x hx⟩
theorem rgot_told {B : Nat} {w : World} {xs : List It} (h : Told B w xs) (s : List Nat) {K g : Nat} {cs : Array Value} (hK : s.length = 2 * K) (hs : s.Nodup) (hlt : ∀ i ∈ s, i < xs.length) {W : World} (hB : Below w.heap.size w W) (hc : Blk W g cs)
    (hcs : ∀ i, i < K → cs[i * 3 + 1]? = some (.slice (xs.getD (s.getD (2 * i) 0) It.d).a (xs.getD (s.getD (2 * i) 0) It.d).n (xs.getD (s.getD (2 * i) 0) It.d).c) ∧ cs[i * 3 + 2]? = some (.slice (xs.getD (s.getD (2 * i + 1) 0) It.d).a (xs.getD (s.getD (2 * i + 1) 0) It.d).n (xs.getD (s.getD (2 * i + 1) 0) It.d).c)) :
    RGot W (some ⟨g, 0, none⟩) K (fun i => (xs.getD (s.getD i 0) It.d).a) (fun i => (xs.getD (s.getD i 0) It.d).n) (fun i => (xs.getD (s.getD i 0) It.d).c) (fun i => (xs.getD (s.getD i 0) It.d).l) := by
  have hm : ∀ i, i < 2 * K → s.getD i 0 < xs.length := fun i hi => hlt _ (by rw [getD_eq _ _ (by omega)]; exact List.getElem_mem (by omega))
  refine ⟨fun i hi => ⟨g, 0, rfl, ?_, ?_⟩, fun i hi => ?_, fun i j hi hj hij g e => ?_⟩
  · rw [Nat.zero_add]; exact (hc.cell _).trans (hcs i hi).1
  · rw [Nat.zero_add]; exact (hc.cell _).trans (hcs i hi).2
  · exact ((h.1 _ (getD_mem (hm i hi))).mono (Nat.zero_le _)).below hB
  · have hne : s.getD i 0 ≠ s.getD j 0 := by
      rw [getD_eq _ _ (by omega), getD_eq _ _ (by omega)]
      rcases Nat.lt_or_gt_of_ne hij with h1 | h1
      · exact (List.pairwise_iff_getElem.1 hs) i j (by omega) (by omega) h1
      · exact ((List.pairwise_iff_getElem.1 hs) j i (by omega) (by omega) h1).symm
    have hi' := hm i hi
    have hj' := hm j hj
    generalize s.getD i 0 = i' at *
    generalize s.getD j 0 = j' at *
    have e1 : xs.getD i' It.d = xs[i'] := by rw [List.getD_eq_getElem?_getD, List.getElem?_eq_getElem hi']; rfl
    have e2 : xs.getD j' It.d = xs[j'] := by rw [List.getD_eq_getElem?_getD, List.getElem?_eq_getElem hj']; rfl
    rw [e1] at e
    rw [e2]
    rcases Nat.lt_or_gt_of_ne hne with h1 | h1
    · exact (List.pairwise_iff_getElem.1 h.2) i' j' hi' hj' h1 g e
    · intro e3
      exact (List.pairwise_iff_getElem.1 h.2) j' i' hj' hi' h1 g e3 e
theorem told_n {B : Nat} {w : World} {xs : List It} (h : Told2 B w xs) (s : List Nat) {K : Nat} (hK : s.length = 2 * K) (hlt : ∀ i ∈ s, i < xs.length) : ∀ i, i < 2 * K → (xs.getD (s.getD i 0) It.d).n ≤ 268435456 :=
  fun i hi => h.2 _ (getD_mem (hlt _ (by rw [getD_eq _ _ (by omega)]; exact List.getElem_mem (by omega))))
theorem below_told {V w w' : World} {xs : List It} (hBM : Below V.heap.size V w) (h : Told V.heap.size w xs) (s : List Nat) {K : Nat} (hK : s.length = 2 * K) (hlt : ∀ i ∈ s, i < xs.length)
    (hk : Kp (fun b => ∃ i, i < 2 * K ∧ (xs.getD (s.getD i 0) It.d).a = some ⟨b, 0, none⟩) w w') : Below V.heap.size V w' :=
  hBM.kp hk hBM.size fun j hj ⟨i, hi, e⟩ => by
    have := (h.lt (getD_mem (hlt _ (by rw [getD_eq _ _ (by omega)]; exact List.getElem_mem (by omega)))) e).1
    omega

theorem beside {p q : Prop} (_ : p) (h : q) : q := h
/-- an empty block of the type Most -/
def Emp (W : World) (g : Nat) : Prop := W.heap[g]? = some (.cells #[] 49 (0, 0))
theorem emp_new (W : World) : Emp (W.alloc (.cells #[] 49)) W.heap.size := heap_alloc_new _ _
theorem Emp.lt {W : World} {g : Nat} (h : Emp W g) : g < W.heap.size := (Array.getElem?_eq_some_iff.1 h).1
theorem Emp.below {W W' : World} {g : Nat} (h : Emp W g) (hB : Below W.heap.size W W') : Emp W' g := (hB.block g h.lt).trans h
theorem Emp.drew {W : World} {g : Nat} (h : Emp W g) : Emp W.drew g := h
theorem Emp.alloc {W : World} {g : Nat} (h : Emp W g) (o : Obj) : Emp (W.alloc o) g := h.below ((Below.refl _ _).alloc (Nat.le_refl _) o)
theorem cells_most : Tryz.prog.cellsOf 49 = 0 := by kernel_rfl
/-- the part of it that is embedded lies where it lies -/
theorem Emp.pt0 {W : World} {g : Nat} (h : Emp W g) : (Go.partAt ⟨g, 0, none⟩ 0 0).run Tryz.prog W = .ok ⟨g, 0, none⟩ W := by
  have hs : W.shape? g = some (49, 0) := by unfold Emp at h; simp [World.shape?, h]
  have hv : (Go.viewAt g).run Tryz.prog W = .ok none W := by simp [Go.viewAt, go_sem, hs]
  have hn : (Go.noView ⟨g, 0, none⟩).run Tryz.prog W = .ok () W := by simp [Go.noView, go_sem, hv]
  simp [Go.partAt, Go.byteOf, go_sem, hs, hn, cells_most]

end Go.Proofs.YtbfhnlbdpbfalaaGreat
