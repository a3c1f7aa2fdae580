/- WALKS, 6: what was told, laid in rows for apart. -/
import Derived.Test.YtflmdcmlhpifeaaWd
import Derived.Test.YtflmdcmlhpifeaaWe
namespace Go.Proofs.Ytflmdcmlhpifeaa
set_option linter.unusedVariables false
open Go.ChangeShapes Go.WideShapes Go.ChangeAt Go.RowKit Go.NatP

/-- an answer: the slice and what it holds -/
structure It where
  a : Option Addr
  n : Nat
  c : Nat
  l : List Nat
def It.v (x : It) : Value := .slice x.a x.n x.c
def It.d : It := ⟨none, 0, 0, []⟩

/-- answers, each its holder's own, newest first -/
def Told (B : Nat) (w : World) (xs : List It) : Prop :=
  (∀ x ∈ xs, Own B w x.a x.n x.c x.l) ∧ xs.Pairwise fun x y => ∀ g, x.a = some ⟨g, 0, none⟩ → y.a ≠ some ⟨g, 0, none⟩

theorem told_nil (B : Nat) (w : World) : Told B w [] := ⟨(fun x h => by cases h), List.Pairwise.nil⟩
theorem Told.below {B : Nat} {w w' : World} {xs : List It} (h : Told B w xs) (hB : Below w.heap.size w w') : Told B w' xs :=
  ⟨fun x hx => (h.1 x hx).below hB, h.2⟩
theorem Told.cons {B : Nat} {w w' : World} {xs : List It} {a : Option Addr} {n c : Nat} {l : List Nat} (h : Told B w xs) (hs : B ≤ w.heap.size) (hO : Own w.heap.size w' a n c l) (hB : Below w.heap.size w w') :
    Told B w' (⟨a, n, c, l⟩ :: xs) := by
  refine ⟨fun x hx => ?_, List.pairwise_cons.2 ⟨fun y hy g e e2 => ?_, h.2⟩⟩
  · rcases List.mem_cons.1 hx with rfl | hx
    · exact hO.mono hs
    · exact (h.1 x hx).below hB
  · have h1 := h.1 y hy
    rw [e2] at h1
    have := h1.lt
    simp only at e
    rw [e] at hO
    have := hO.lt
    omega

theorem Told.lt {B : Nat} {w : World} {xs : List It} (h : Told B w xs) {x : It} (hx : x ∈ xs) {g : Nat} (e : x.a = some ⟨g, 0, none⟩) : B ≤ g ∧ g < w.heap.size := by
  have := h.1 x hx
  rw [e] at this
  exact this.lt

theorem getD_mem {xs : List It} {i : Nat} (h : i < xs.length) : xs.getD i It.d ∈ xs := by
  rw [List.getD_eq_getElem?_getD, List.getElem?_eq_getElem h]
  exact List.getElem_mem h

theorem row_cell {w : World} {g : Nat} {vs : List Value} {t : TypeId} (hc : w.heap[g]? = some (.cells vs.toArray t (0, 0))) (i : Nat) : w.cell? ⟨g, i, none⟩ = vs[i]? := by
  rw [cell_of_row w g i _ t (0, 0) hc]; simp

/-- The answers in the order s, as a row at block gb. -/
theorem got_of {B : Nat} {w : World} {xs : List It} (s : List Nat) {gb K : Nat} (hK : s.length = K) (h : Told B w xs) (hs : s.Nodup) (hlt : ∀ i ∈ s, i < xs.length)
    (hc : w.heap[gb]? = some (.cells (s.map fun i => (xs.getD i It.d).v).toArray 23 (0, 0))) (hgb : ∀ x ∈ xs, x.a ≠ some ⟨gb, 0, none⟩) :
    Got w gb K (fun i => (xs.getD (s.getD i 0) It.d).a) (fun i => (xs.getD (s.getD i 0) It.d).n) (fun i => (xs.getD (s.getD i 0) It.d).c) (fun i => (xs.getD (s.getD i 0) It.d).l) := by
  subst hK
  have hm : ∀ i, i < s.length → s.getD i 0 < xs.length := fun i hi => hlt _ (by rw [getD_eq _ _ hi]; exact List.getElem_mem hi)
  refine ⟨fun i hi => ?_, fun i hi => ?_, fun i j hi hj hij g e => ?_, fun i hi => ?_⟩
  · rw [row_cell hc, List.getElem?_map, List.getElem?_eq_getElem hi]
    simp [It.v, List.getElem?_eq_getElem hi]
  · exact (h.1 _ (getD_mem (hm i hi))).mono (Nat.zero_le _)
  · have hne : s.getD i 0 ≠ s.getD j 0 := by
      rw [getD_eq _ _ hi, getD_eq _ _ hj]
      rcases Nat.lt_or_gt_of_ne hij with h1 | h1
      · exact (List.pairwise_iff_getElem.1 hs) i j hi hj h1
      · exact ((List.pairwise_iff_getElem.1 hs) j i hj hi h1).symm
    have hi' := hm i hi
    have hj' := hm j hj
    generalize s.getD i 0 = i' at *
    generalize s.getD j 0 = j' at *
    have e1 : xs.getD i' It.d = xs[i'] := by rw [List.getD_eq_getElem?_getD, List.getElem?_eq_getElem hi']; rfl
    have e2 : xs.getD j' It.d = xs[j'] := by rw [List.getD_eq_getElem?_getD, List.getElem?_eq_getElem hj']; rfl
    rw [e1] at e
    rw [e2]
    rcases Nat.lt_or_gt_of_ne hne with h1 | h1
    · exact (List.pairwise_iff_getElem.1 h.2) i' j' hi' hj' h1 g e
    · intro e3
      exact (List.pairwise_iff_getElem.1 h.2) j' i' hj' hi' h1 g e3 e
  · exact hgb _ (getD_mem (hm i hi))

/-- What must be, as a row at block wb. -/
theorem want_of {w : World} (ys : List It) {wb K : Nat} {L : Nat → List Nat} (hK : ys.length = K) (hc : w.heap[wb]? = some (.cells (ys.map It.v).toArray 23 (0, 0)))
    (hr : ∀ y ∈ ys, Rd w y.a y.n y.c y.l) (hL : ∀ i, i < K → (ys.getD i It.d).l = L i) : Want w wb K L := by
  subst hK
  intro i hi
  refine ⟨ys[i].a, ys[i].n, ys[i].c, ?_, ?_⟩
  · rw [row_cell hc, List.getElem?_map, List.getElem?_eq_getElem hi]; rfl
  · rw [← hL i hi, List.getD_eq_getElem?_getD, List.getElem?_eq_getElem hi]
    exact hr _ (List.getElem_mem hi)

theorem RetApart.below {w : World} {K : Nat} {A : Nat → Option Addr} {e : Ending} {w' : World} (h : RetApart w K A e w') {w0 : World} (hB : Below w0.heap.size w0 w) (hA : ∀ i, i < K → ∀ g, A i = some ⟨g, 0, none⟩ → w0.heap.size ≤ g) :
    e = .returned (.bool true) ∧ Below w0.heap.size w0 w' :=
  ⟨h.1, hB.kp h.2 hB.size fun k hk ⟨i, hi, e⟩ => by have := hA i hi k e; omega⟩

theorem two_new1 (w : World) (o1 o2 : Obj) : ((w.alloc o1).alloc o2).heap[w.heap.size]? = some o1 := by
  rw [Below.heap_alloc _ _ _ (by simp)]; exact heap_alloc_new w o1
theorem two_new2 (w : World) (o1 o2 : Obj) : ((w.alloc o1).alloc o2).heap[w.heap.size + 1]? = some o2 := by
  have := heap_alloc_new (w.alloc o1) o2
  simpa using this
theorem below_two (w : World) (o1 o2 : Obj) : Below w.heap.size w ((w.alloc o1).alloc o2) := ((Below.refl _ w).alloc (Nat.le_refl _) o1).alloc (by simp) o2

/-- WHERE A STATEMENT STANDS: what it may still read (rs), what it was told (xs); what was there before is as it was. -/
structure Ev (w0 w : World) (rs xs : List It) : Prop where
  rd : ∀ r ∈ rs, Rd w r.a r.n r.c r.l
  told : Told w0.heap.size w xs
  bel : Below w0.heap.size w0 w
  sep : ∀ r ∈ rs, 0 < r.n → ∀ x ∈ xs, ∀ g, x.a = some ⟨g, 0, none⟩ → ∀ o, r.a ≠ some ⟨g, o, none⟩
  sm : ∀ x ∈ xs, x.n ≤ 268435456

section ev
variable {w0 w w' : World} {rs xs : List It} {a : Option Addr} {n c : Nat} {l : List Nat}

theorem ev_start (w : World) : Ev w w [] [] := ⟨(fun r h => by cases h), told_nil _ _, Below.refl _ _, (fun r h => by cases h), (fun r h => by cases h)⟩
theorem Ev.old (h : Ev w w rs []) (hR : Rd w a n c l) : Ev w w (⟨a, n, c, l⟩ :: rs) [] :=
  ⟨fun r hr => by
    rcases List.mem_cons.1 hr with rfl | hr
    · exact hR
    · exact h.rd r hr, h.told, h.bel, (fun r hr h0 x hx => by cases hx), h.sm⟩
theorem Ev.step (h : Ev w0 w rs xs) (hB : Below w.heap.size w w') : Ev w0 w' rs xs :=
  ⟨fun r hr => (h.rd r hr).below hB, h.told.below hB, h.bel.next hB, h.sep, h.sm⟩
theorem Rd.blk_lt (h : Rd w a n c l) (hn : 0 < n) {g o : Nat} (e : a = some ⟨g, o, none⟩) : g < w.heap.size := by
  obtain ⟨b', o', e2, hc⟩ := h.get hn
  rw [e] at e2
  cases e2
  exact World.block_lt_of_cell? _ _ hc
theorem Ev.tell (h : Ev w0 w rs xs) (hO : Own w.heap.size w' a n c l) (hB : Below w.heap.size w w') (hn : n ≤ 268435456) : Ev w0 w' rs (⟨a, n, c, l⟩ :: xs) :=
  ⟨fun r hr => (h.rd r hr).below hB, h.told.cons h.bel.size hO hB, h.bel.next hB, fun r hr h0 x hx g e o e2 => by
    rcases List.mem_cons.1 hx with rfl | hx
    · simp only at e
      rw [e] at hO
      have := hO.lt
      have := (h.rd r hr).blk_lt h0 e2
      omega
    · exact h.sep r hr h0 x hx g e o e2, fun x hx => by
    rcases List.mem_cons.1 hx with rfl | hx
    · exact hn
    · exact h.sm x hx⟩
theorem Ev.note (h : Ev w0 w rs xs) (hO : Own w.heap.size w' a n c l) (hB : Below w.heap.size w w') : Ev w0 w' (⟨a, n, c, l⟩ :: rs) xs :=
  ⟨fun r hr => by
    rcases List.mem_cons.1 hr with rfl | hr
    · exact hO.rd
    · exact (h.rd r hr).below hB, h.told.below hB, h.bel.next hB, fun r hr h0 x hx g e o e2 => by
    rcases List.mem_cons.1 hr with rfl | hr
    · simp only at e2
      rcases hO.cases with ⟨h1, _⟩ | ⟨g', h1, h2, _⟩
      · rw [h1] at e2; cases e2
      · rw [h1] at e2; cases e2
        have := (h.told.lt hx e).2
        omega
    · exact h.sep r hr h0 x hx g e o e2, h.sm⟩
/-- a piece from the front of what may be read -/
theorem Ev.pre (h : Ev w0 w rs xs) (hm : (⟨a, n, c, l⟩ : It) ∈ rs) {k : Nat} {l' : List Nat} (hk : k ≤ n) (hl : l.take k = l') : Ev w0 w (⟨a, k, c, l'⟩ :: rs) xs := by
  have hR := (h.rd _ hm).pre hk
  subst hl
  exact ⟨fun r hr => by
    rcases List.mem_cons.1 hr with rfl | hr
    · exact hR
    · exact h.rd r hr, h.told, h.bel, fun r hr h0 => by
    rcases List.mem_cons.1 hr with rfl | hr
    · exact h.sep ⟨a, n, c, l⟩ hm (by simp only at h0 ⊢; omega)
    · exact h.sep r hr h0, h.sm⟩
/-- behind apart -/
theorem Ev.apart (h : Ev w0 w rs xs) (hB : Below w0.heap.size w0 w') (hK : Kp (fun b => ∃ x ∈ xs, x.a = some ⟨b, 0, none⟩) w w') : Ev w0 w' rs [] := by
  refine ⟨fun r hr => ?_, told_nil _ _, hB, (fun r hr h0 x hx => by cases hx), (fun x hx => by cases hx)⟩
  have hR := h.rd r hr
  rcases Nat.eq_zero_or_pos r.n with h0 | h0
  · exact ⟨hR.1, hR.2.1, hR.2.2.1, hR.2.2.2.1, fun i hi => by omega⟩
  · exact hR.kp hK fun b o e ⟨x, hx, e2⟩ => h.sep r hr h0 x hx b e2 o e

/-- a step to new memory that nobody needs -/
theorem Ev.alloc (h : Ev w0 w rs xs) (o : Obj) : Ev w0 (w.alloc o) rs xs := h.step ((Below.refl _ _).alloc (Nat.le_refl _) o)
theorem Ev.dr (h : Ev w0 w rs xs) (hD : Dr w w') : Ev w0 w' rs xs := h.step (hD.below _)
end ev

theorem rd_one {w : World} {x : Nat} {X : Int} {e : TypeId} (hX : X = (x : Int)) (hx : x < 4294967296) :
    Rd (w.alloc (.cells #[.int .u32 X] e)) (some ⟨w.heap.size, 0, none⟩) 1 1 [x] := by
  subst hX
  refine ⟨rfl, lim_cons hx lim_nil, by omega, by simp [maxLen], fun i hi => ⟨w.heap.size, 0, rfl, ?_⟩⟩
  obtain rfl : i = 0 := by omega
  have := cell_one_new w (.int .u32 (x : Int)) e 0 _ rfl
  rwa [Addr.add_lit] at this

end Go.Proofs.Ytflmdcmlhpifeaa
