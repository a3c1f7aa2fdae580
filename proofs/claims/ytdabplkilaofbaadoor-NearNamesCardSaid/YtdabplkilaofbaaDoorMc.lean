/- MEMORY, 2: slices of bytes of the call's own; texts. -/
import Derived.Test.YtdabplkilaofbaaDoorW1
import Derived.Test.YtdabplkilaofbaaDoorPP
import Derived.Laws.BytesArg
import Derived.RegionTactic
import Derived.BigRegion
namespace Go.Proofs.YtdabplkilaofbaaDoor
set_option linter.unusedVariables false
open Go.ChangeShapes Go.WideShapes Go.ChangeAt Go.RowKit Go.NatP

def encB (l : List Nat) : List Value := l.map fun n : Nat => Value.int .u8 (n : Int)
theorem encB_length (l : List Nat) : (encB l).length = l.length := by simp [encB]
theorem encB_get {l : List Nat} {i : Nat} (h : i < l.length) : (encB l)[i]? = some (Value.int .u8 (l.getD i 0 : Nat)) := by
  simp [encB, List.getD_eq_getElem?_getD, List.getElem?_eq_getElem h]
theorem encB_set (l : List Nat) (i x : Nat) : (encB l).set i (Value.int .u8 (x : Int)) = encB (l.set i x) := by
  simp [encB, List.map_set]

/-- A SLICE OF BYTES OF THE CALL'S OWN. -/
def OwnB (B : Nat) (w : World) (a : Option Addr) (n c : Nat) (l : List Nat) : Prop :=
  l.length = n ∧ (∀ x ∈ l, x < 256) ∧ w.ownsRow B 5 1 (.slice a n c) n (encB l)
/-- a text of such bytes -/
def txt (l : List Nat) : ByteArray := strOfNums (l.map fun n : Nat => (n : Int))

section
variable {B : Nat} {w w' : World} {a : Option Addr} {n c : Nat} {l : List Nat}
theorem OwnB.len (h : OwnB B w a n c l) : l.length = n := h.1
theorem OwnB.bnd (h : OwnB B w a n c l) : n ≤ c ∧ c ≤ 9223372036854775807 := ⟨(ownsRow_bnd h.2.2).1, by have := (ownsRow_bnd h.2.2).2.1; unfold maxLen at this; omega⟩
theorem OwnB.byte (h : OwnB B w a n c l) (i : Nat) : l.getD i 0 < 256 := by
  rw [List.getD_eq_getElem?_getD]
  rcases hn : l[i]? with _ | x
  · simp
  · exact h.2.1 x (List.mem_of_getElem? hn)
theorem OwnB.cases (h : OwnB B w a n c l) : (a = none ∧ n = 0 ∧ c = 0 ∧ l = []) ∨ ∃ g, a = some ⟨g, 0, none⟩ ∧ B ≤ g ∧ g < w.heap.size := by
  rcases ownsRow_cases h.2.2 with ⟨h1, h2, h3, h4⟩ | h1
  · exact .inl ⟨h1, h2, h3, by simpa [encB] using h4⟩
  · exact .inr h1
theorem OwnB.lt {g : Nat} (h : OwnB B w (some ⟨g, 0, none⟩) n c l) : B ≤ g ∧ g < w.heap.size := by
  rcases h.cases with ⟨h1, _⟩ | ⟨g', h1, h2⟩
  · cases h1
  · cases h1; exact h2
theorem OwnB.cell {g : Nat} (h : OwnB B w (some ⟨g, 0, none⟩) n c l) {i : Nat} (hi : i < n) : w.cell? ⟨g, i, none⟩ = some (.int .u8 (l.getD i 0 : Nat)) := by
  rw [h.2.2.cellAt i (by omega)]
  exact encB_get (by rw [h.1]; exact hi)
theorem OwnB.free {g : Nat} (h : OwnB B w (some ⟨g, 0, none⟩) n c l) (i : Nat) : w.frozen? ⟨g, i, none⟩ = false := h.2.2.frozenAt i
theorem OwnB.set {g : Nat} (h : OwnB B w (some ⟨g, 0, none⟩) n c l) (i x : Nat) (hx : x < 256) :
    OwnB B (w.setCell ⟨g, i, none⟩ (.int .u8 (x : Int))) (some ⟨g, 0, none⟩) n c (l.set i x) :=
  ⟨by simpa using h.1, fun y hy => by
    rcases List.mem_or_eq_of_mem_set hy with hy | rfl
    · exact h.2.1 y hy
    · exact hx, by rw [← encB_set]; exact (h.2.2.stored i _).1⟩
theorem OwnB.below (h : OwnB B w a n c l) (hb : Below w.heap.size w w') : OwnB B w' a n c l :=
  ⟨h.1, h.2.1, ownsRow_block h.2.2 fun g e => by subst e; exact hb.block g h.lt.2⟩
theorem OwnB.kp {p : Nat → Prop} (h : OwnB B w a n c l) (hk : Kp p w w') (hp : ∀ g, a = some ⟨g, 0, none⟩ → ¬ p g) : OwnB B w' a n c l :=
  ⟨h.1, h.2.1, ownsRow_block h.2.2 fun g e => by subst e; exact hk.block g h.lt.2 (hp g rfl)⟩
theorem OwnB.alloc (h : OwnB B w a n c l) (o : Obj) : OwnB B (w.alloc o) a n c l := h.below ((Below.refl _ _).alloc (Nat.le_refl _) o)
theorem OwnB.drewN (h : OwnB B w a n c l) (k : Nat) : OwnB B (w.drewN k) a n c l := h
theorem OwnB.drew (h : OwnB B w a n c l) : OwnB B w.drew a n c l := h
theorem ownB_nil (B : Nat) (w : World) : OwnB B w none 0 0 [] := ⟨rfl, (fun _ h => by cases h), World.ownsRow_nil w B _ 1⟩
theorem ownB_lt (hO : OwnB B w a n c l) : ∀ k, k < B → ¬ (a = some ⟨k, 0, none⟩) := by
  intro j hj e
  subst e
  have := hO.lt
  omega
end

theorem infoU8 : (Tryd.prog.info? 5).map (fun i => (i.zero, i.size, i.bytes)) = some (some (.int .u8 0), 1, 1) := by kernel_rfl

/-- reversed in place -/
def RetRev (B : Nat) (w : World) (a : Option Addr) (n c : Nat) (l : List Nat) (e : Ending) (w' : World) : Prop :=
  e = .returned (.tuple #[]) ∧ OwnB B w' a n c l.reverse ∧ Kp (fun b => a = some ⟨b, 0, none⟩) w w'

/-- the outer k of each side exchanged -/
def RevTo (l S : List Nat) (k : Nat) : Prop := S.length = l.length ∧ ∀ t, t < l.length → S.getD t 0 = if t < k ∨ l.length - k ≤ t then l.getD (l.length - 1 - t) 0 else l.getD t 0

theorem revTo_step {l S : List Nat} {k : Nat} (h : RevTo l S k) (hk : k + k + 1 < l.length) :
    RevTo l ((S.set k (l.getD (l.length - 1 - k) 0)).set (l.length - 1 - k) (l.getD k 0)) (k + 1) := by
  refine ⟨by simp [h.1], fun t ht => ?_⟩
  by_cases h1 : t = l.length - 1 - k
  · subst h1
    rw [NatP.getD_set_eq _ _ _ (by simp [h.1]; omega), if_pos (by omega)]
    congr 1; omega
  · rw [NatP.getD_set_ne _ _ _ _ (by omega)]
    by_cases h2 : t = k
    · subst h2
      rw [NatP.getD_set_eq _ _ _ (by rw [h.1]; omega), if_pos (by omega)]
    · rw [NatP.getD_set_ne _ _ _ _ (by omega), h.2 t ht]
      by_cases h3 : t < k ∨ l.length - k ≤ t
      · rw [if_pos h3, if_pos (by omega)]
      · rw [if_neg h3, if_neg (by omega)]

theorem revTo_done {l S : List Nat} {k : Nat} (h : RevTo l S k) (hk : l.length ≤ k + k + 1) : S = l.reverse := by
  refine list_eq_of_getD (by rw [h.1]; simp) fun t ht => ?_
  rw [h.1] at ht
  rw [h.2 t ht]
  have e : l.reverse.getD t 0 = l.getD (l.length - 1 - t) 0 := by
    simp [List.getD_eq_getElem?_getD, List.getElem?_reverse ht]
  rw [e]
  split
  · rfl
  · congr 1; omega

end Go.Proofs.YtdabplkilaofbaaDoor
