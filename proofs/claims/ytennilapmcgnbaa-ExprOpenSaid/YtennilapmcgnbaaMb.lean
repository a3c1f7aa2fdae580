/- MEMORY: what is kept, what can be read, what a call owns: words over worlds, for slices of limbs and of bytes and of slices. -/
import Derived.Test.YtennilapmcgnbaaRows
import Derived.Test.YtennilapmcgnbaaPP
import Derived.WalkKit
import Derived.ProofKit
import Derived.WalkLawsBesides
import Derived.WalkSpells
import Derived.Maps.AppendAt
import Derived.Deep.Draws
namespace Go.Proofs.Ytennilapmcgnbaa
set_option linter.unusedVariables false
open Go.ChangeShapes Go.WideShapes Go.ChangeAt Go.RowKit Go.NatP

theorem hid {p : Prop} (h : p) : Hid p := h

/-- Blocks that p does not name are as they were; none has gone; the streams are as they were. -/
structure Kp (p : Nat → Prop) (w w' : World) : Prop where
  os : w'.os = w.os
  tape : w'.tape = w.tape
  output : w'.output = w.output
  size : w.heap.size ≤ w'.heap.size
  block : ∀ k, k < w.heap.size → ¬ p k → w'.heap[k]? = w.heap[k]?

theorem Kp.refl (p : Nat → Prop) (w : World) : Kp p w w := ⟨rfl, rfl, rfl, Nat.le_refl _, fun _ _ _ => rfl⟩
theorem Kp.trans {p : Nat → Prop} {a b c : World} (h : Kp p a b) (k : Kp p b c) : Kp p a c :=
  ⟨k.os.trans h.os, k.tape.trans h.tape, k.output.trans h.output, Nat.le_trans h.size k.size,
    fun i hi hp => (k.block i (Nat.lt_of_lt_of_le hi h.size) hp).trans (h.block i hi hp)⟩
theorem Kp.mono {p q : Nat → Prop} {w w' : World} (h : Kp p w w') (hpq : ∀ k, k < w.heap.size → p k → q k) : Kp q w w' :=
  ⟨h.os, h.tape, h.output, h.size, fun i hi hq => h.block i hi fun hp => hq (hpq i hi hp)⟩
theorem Kp.drewN {p : Nat → Prop} {a w : World} (h : Kp p a w) (n : Nat) : Kp p a (w.drewN n) := ⟨h.os, h.tape, h.output, h.size, h.block⟩
theorem Kp.drew {p : Nat → Prop} {a w : World} (h : Kp p a w) : Kp p a w.drew := ⟨h.os, h.tape, h.output, h.size, h.block⟩
theorem Kp.alloc {p : Nat → Prop} {a w : World} (h : Kp p a w) (o : Obj) : Kp p a (w.alloc o) :=
  ⟨h.os, h.tape, h.output, by have := h.size; simp; omega, fun i hi hp => by
    have := h.size
    rw [Below.heap_alloc w o i (by omega)]; exact h.block i hi hp⟩
theorem Kp.setCell {p : Nat → Prop} {a w : World} (h : Kp p a w) {ad : Addr} (hp : p ad.block) (v : Value) : Kp p a (w.setCell ad v) :=
  ⟨h.os, h.tape, h.output, by have := h.size; simp [World.setCell]; omega, fun i hi hq => by
    rw [heap_setCell_other w ad i v (by rintro rfl; exact hq hp)]; exact h.block i hi hq⟩
theorem Kp.setCell' {p : Nat → Prop} {a w : World} (h : Kp p a w) {ad : Addr} (hp : a.heap.size ≤ ad.block) (v : Value) : Kp p a (w.setCell ad v) :=
  ⟨h.os, h.tape, h.output, by have := h.size; simp [World.setCell]; omega, fun i hi hq => by
    rw [heap_setCell_other w ad i v (by omega)]; exact h.block i hi hq⟩
theorem Kp.grown {p : Nat → Prop} {a w w' : World} {row : Option Nat} (h : Kp p a w) (hg : w.grownBy w' row) (hr : ∀ k, row = some k → p k ∨ a.heap.size ≤ k) : Kp p a w' :=
  ⟨hg.os.trans h.os, hg.tape.trans h.tape, hg.output.trans h.output, Nat.le_trans h.size hg.size, fun i hi hq => by
    rw [hg.block i (Nat.lt_of_lt_of_le hi h.size) (fun e => by rcases hr i e.symm with h1 | h1; · exact hq h1
                                                               · omega)]
    exact h.block i hi hq⟩
theorem Kp.below {p : Nat → Prop} {a w w' : World} (h : Kp p a w) (hb : Below w.heap.size w w') : Kp p a w' :=
  ⟨hb.os.trans h.os, hb.tape.trans h.tape, hb.output.trans h.output, Nat.le_trans h.size hb.size, fun i hi hq => by
    rw [hb.block i (Nat.lt_of_lt_of_le hi h.size)]; exact h.block i hi hq⟩
theorem Kp.kp {p q : Nat → Prop} {a w w' : World} (h : Kp p a w) (hb : Kp q w w') (hq : ∀ k, k < w.heap.size → q k → p k ∨ a.heap.size ≤ k) : Kp p a w' :=
  ⟨hb.os.trans h.os, hb.tape.trans h.tape, hb.output.trans h.output, Nat.le_trans h.size hb.size, fun i hi hp => by
    have := h.size
    rw [hb.block i (by omega) (fun e => by rcases hq i (by omega) e with h1 | h1; · exact hp h1
                                           · omega)]; exact h.block i hi hp⟩
theorem Kp.toBelow {p : Nat → Prop} {w w' : World} (h : Kp p w w') (hp : ∀ k, k < w.heap.size → ¬ p k) : Below w.heap.size w w' :=
  ⟨h.os, h.tape, h.output, h.size, fun k hk => h.block k hk (hp k hk)⟩
theorem Kp.toBelowB {p : Nat → Prop} {B : Nat} {w w' : World} (h : Kp p w w') (hB : B ≤ w.heap.size) (hp : ∀ k, k < B → ¬ p k) : Below B w w' :=
  ⟨h.os, h.tape, h.output, h.size, fun k hk => h.block k (Nat.lt_of_lt_of_le hk hB) (hp k hk)⟩
theorem kp_of_below {p : Nat → Prop} {w w' : World} (h : Below w.heap.size w w') : Kp p w w' :=
  ⟨h.os, h.tape, h.output, h.size, fun k hk _ => h.block k hk⟩
theorem _root_.Go.RowKit.Below.kp {B : Nat} {p : Nat → Prop} {a w w' : World} (h : Below B a w) (hk : Kp p w w') (hB : B ≤ w.heap.size) (hp : ∀ k, k < B → ¬ p k) : Below B a w' :=
  h.trans ⟨hk.os, hk.tape, hk.output, hk.size, fun k hk' => hk.block k (by omega) (hp k hk')⟩
theorem _root_.Go.RowKit.Below.then {B : Nat} {a w w' : World} (h : Below B a w) (hk : Below w.heap.size w w') (hB : B ≤ w.heap.size) : Below B a w' :=
  h.trans (hk.mono hB)
theorem _root_.Go.RowKit.Below.next {w0 w w' : World} (h : Below w0.heap.size w0 w) (k : Below w.heap.size w w') : Below w0.heap.size w0 w' := h.then k h.size
theorem _root_.Go.RowKit.Below.drewN' {B : Nat} {a w : World} (h : Below B a w) (n : Nat) : Below B a (w.drewN n) := ⟨h.os, h.tape, h.output, h.size, h.block⟩

/-! ### rows of the call's own -/
section own
variable {e B : Nat} {w w' : World} {a : Option Addr} {n c : Nat} {xs : List Value}

theorem ownsRow_bnd (h : w.ownsRow B e 1 (.slice a n c) n xs) : n ≤ c ∧ c ≤ maxLen ∧ xs.length = n := by
  obtain ⟨h1, h2⟩ := h
  rcases h2 with ⟨h2, h3⟩ | ⟨g, cap, cur, hv, hb, hg, hnc, hcm, hcs, ht⟩
  · cases h2; simp at h1 ⊢; exact h1
  · cases hv; exact ⟨hnc, hcm, by omega⟩

theorem ownsRow_cases (h : w.ownsRow B e 1 (.slice a n c) n xs) :
    (a = none ∧ n = 0 ∧ c = 0 ∧ xs = []) ∨ ∃ g, a = some ⟨g, 0, none⟩ ∧ B ≤ g ∧ g < w.heap.size := by
  obtain ⟨h1, h2⟩ := h
  rcases h2 with ⟨h2, h3⟩ | ⟨g, cap, cur, hv, hb, hg, hnc, hcm, hcs, ht⟩
  · cases h2
    exact .inl ⟨rfl, rfl, rfl, List.eq_nil_of_length_eq_zero (by omega)⟩
  · cases hv
    exact .inr ⟨g, rfl, hb, (Array.getElem?_eq_some_iff.1 hg).1⟩

theorem ownsRow_block (h : w.ownsRow B e 1 (.slice a n c) n xs) (hb : ∀ g, a = some ⟨g, 0, none⟩ → w'.heap[g]? = w.heap[g]?) : w'.ownsRow B e 1 (.slice a n c) n xs := by
  refine ⟨h.1, ?_⟩
  rcases h.2 with h2 | ⟨g, cap, cur, hv, hB, hg, r⟩
  · exact .inl h2
  · cases hv; exact .inr ⟨g, _, cur, rfl, hB, by rw [hb g rfl]; exact hg, r⟩

theorem ownsRow_mono {B' : Nat} (h : w.ownsRow B e 1 (.slice a n c) n xs) (hB : B' ≤ B) : w.ownsRow B' e 1 (.slice a n c) n xs := by
  refine ⟨h.1, ?_⟩
  rcases h.2 with h2 | ⟨g, cap, cur, hv, hb, r⟩
  · exact .inl h2
  · exact .inr ⟨g, cap, cur, hv, by omega, r⟩

/-- shorter, from the front: s[:k] -/
theorem ownsRow_take {g k : Nat} (h : w.ownsRow B e 1 (.slice (some ⟨g, 0, none⟩) n c) n xs) (hk : k ≤ n) : w.ownsRow B e 1 (.slice (some ⟨g, 0, none⟩) k c) k (xs.take k) := by
  have hb := ownsRow_bnd h
  refine ⟨by simp; omega, ?_⟩
  rcases h.2 with ⟨h2, _⟩ | ⟨g', cap, cur, hv, hB, hg, hnc, hcm, hcs, ht⟩
  · cases h2
  · cases hv
    refine .inr ⟨g, c, cur, rfl, hB, hg, by omega, hcm, hcs, ?_⟩
    rw [← ht, List.take_take]
    congr 1
    omega
end own

/-- the limbs as values -/
def encL (l : List Nat) : List Value := l.map fun n : Nat => Value.int .u32 (n : Int)
theorem encL_length (l : List Nat) : (encL l).length = l.length := by simp [encL]
theorem encL_get {l : List Nat} {i : Nat} (h : i < l.length) : (encL l)[i]? = some (Value.int .u32 (l.getD i 0 : Nat)) := by
  simp [encL, List.getD_eq_getElem?_getD, List.getElem?_eq_getElem h]
theorem encL_set (l : List Nat) (i x : Nat) : (encL l).set i (Value.int .u32 (x : Int)) = encL (l.set i x) := by
  simp [encL, List.map_set]
theorem encL_append (l m : List Nat) : encL (l ++ m) = encL l ++ encL m := by simp [encL]
theorem encL_take (l : List Nat) (k : Nat) : (encL l).take k = encL (l.take k) := by simp [encL]
theorem encL_oneCell (l : List Nat) : ∀ u ∈ encL l, u.oneCell' = true := by
  intro u hu
  simp only [encL, List.mem_map] at hu
  obtain ⟨x, _, rfl⟩ := hu
  rfl

/-- A SLICE OF LIMBS THAT CAN BE READ: n limbs, the list l. -/
def Rd (w : World) (a : Option Addr) (n c : Nat) (l : List Nat) : Prop :=
  l.length = n ∧ Lim l ∧ n ≤ c ∧ c ≤ maxLen ∧
    ∀ i, i < n → ∃ b o, a = some ⟨b, o, none⟩ ∧ w.cell? ⟨b, o + i, none⟩ = some (.int .u32 (l.getD i 0 : Nat))

/-- A SLICE OF LIMBS OF THE CALL'S OWN, from block B on: nil, or the head of a row. -/
def Own (B : Nat) (w : World) (a : Option Addr) (n c : Nat) (l : List Nat) : Prop :=
  l.length = n ∧ Lim l ∧ w.ownsRow B 97 1 (.slice a n c) n (encL l)

section
variable {B : Nat} {w w' : World} {a : Option Addr} {n c : Nat} {l : List Nat}

theorem Rd.len (h : Rd w a n c l) : l.length = n := h.1
theorem Rd.lim (h : Rd w a n c l) : Lim l := h.2.1
theorem Rd.bnd (h : Rd w a n c l) : n ≤ c ∧ c ≤ 9223372036854775807 := ⟨h.2.2.1, by have := h.2.2.2.1; unfold maxLen at this; omega⟩
theorem Rd.get (h : Rd w a n c l) {i : Nat} (hi : i < n) : ∃ b o, a = some ⟨b, o, none⟩ ∧ w.cell? ⟨b, o + i, none⟩ = some (.int .u32 (l.getD i 0 : Nat)) := h.2.2.2.2 i hi
theorem Rd.cell {b o : Nat} (h : Rd w (some ⟨b, o, none⟩) n c l) {i : Nat} (hi : i < n) : w.cell? ⟨b, o + i, none⟩ = some (.int .u32 (l.getD i 0 : Nat)) := by
  obtain ⟨b', o', e, hc⟩ := h.get hi
  cases e; exact hc
theorem Rd.head (h : Rd w a n c l) (hn : 0 < n) : ∃ b o, a = some ⟨b, o, none⟩ := by
  obtain ⟨b, o, e, _⟩ := h.get hn; exact ⟨b, o, e⟩

theorem Rd.of_cells (h : Rd w a n c l) (hc : ∀ b o i, a = some ⟨b, o, none⟩ → b < w.heap.size → w'.cell? ⟨b, o + i, none⟩ = w.cell? ⟨b, o + i, none⟩) : Rd w' a n c l := by
  refine ⟨h.1, h.2.1, h.2.2.1, h.2.2.2.1, fun i hi => ?_⟩
  obtain ⟨b, o, e, hcell⟩ := h.get hi
  exact ⟨b, o, e, by rw [hc b o i e (World.block_lt_of_cell? w _ hcell)]; exact hcell⟩

theorem Rd.cap {c' : Nat} (h : Rd w a n c l) (h1 : n ≤ c') (h2 : c' ≤ maxLen) : Rd w a n c' l := ⟨h.1, h.2.1, h1, h2, h.2.2.2.2⟩
theorem Rd.below (h : Rd w a n c l) (hb : Below w.heap.size w w') : Rd w' a n c l :=
  h.of_cells fun b o i _ hlt => hb.cell (p := ⟨b, o + i, none⟩) hlt
theorem Rd.kp {p : Nat → Prop} (h : Rd w a n c l) (hk : Kp p w w') (hp : ∀ b o, a = some ⟨b, o, none⟩ → ¬ p b) : Rd w' a n c l :=
  h.of_cells fun b o _ e hlt => World.cell?_of_block (w := w) (hk.block b hlt (hp b o e))
theorem Rd.drewN (h : Rd w a n c l) (k : Nat) : Rd (w.drewN k) a n c l := h
theorem Rd.alloc (h : Rd w a n c l) (o : Obj) : Rd (w.alloc o) a n c l := h.below ((Below.refl _ _).alloc (Nat.le_refl _) o)

theorem Own.len (h : Own B w a n c l) : l.length = n := h.1
theorem Own.lim (h : Own B w a n c l) : Lim l := h.2.1
theorem Own.row (h : Own B w a n c l) : w.ownsRow B 97 1 (.slice a n c) n (encL l) := h.2.2
theorem Own.bnd (h : Own B w a n c l) : n ≤ c ∧ c ≤ 9223372036854775807 := ⟨(ownsRow_bnd h.2.2).1, by have := (ownsRow_bnd h.2.2).2.1; unfold maxLen at this; omega⟩
theorem Own.cases (h : Own B w a n c l) : (a = none ∧ n = 0 ∧ c = 0 ∧ l = []) ∨ ∃ g, a = some ⟨g, 0, none⟩ ∧ B ≤ g ∧ g < w.heap.size := by
  rcases ownsRow_cases h.2.2 with ⟨h1, h2, h3, h4⟩ | h1
  · exact .inl ⟨h1, h2, h3, by simpa [encL] using h4⟩
  · exact .inr h1
theorem Own.lt {g : Nat} (h : Own B w (some ⟨g, 0, none⟩) n c l) : B ≤ g ∧ g < w.heap.size := by
  rcases h.cases with ⟨h1, _⟩ | ⟨g', h1, h2⟩
  · cases h1
  · cases h1; exact h2
theorem Own.cell {g : Nat} (h : Own B w (some ⟨g, 0, none⟩) n c l) {i : Nat} (hi : i < n) : w.cell? ⟨g, i, none⟩ = some (.int .u32 (l.getD i 0 : Nat)) := by
  rw [h.2.2.cellAt i (by omega)]
  exact encL_get (by rw [h.1]; exact hi)
theorem Own.free {g : Nat} (h : Own B w (some ⟨g, 0, none⟩) n c l) (i : Nat) : w.frozen? ⟨g, i, none⟩ = false := h.2.2.frozenAt i
theorem Own.set {g : Nat} (h : Own B w (some ⟨g, 0, none⟩) n c l) (i x : Nat) (hx : x < 4294967296) :
    Own B (w.setCell ⟨g, i, none⟩ (.int .u32 (x : Int))) (some ⟨g, 0, none⟩) n c (l.set i x) :=
  ⟨by simpa using h.1, h.2.1.set i x hx, by rw [← encL_set]; exact (h.2.2.stored i _).1⟩
theorem Own.block (h : Own B w a n c l) (hb : ∀ g, a = some ⟨g, 0, none⟩ → w'.heap[g]? = w.heap[g]?) : Own B w' a n c l :=
  ⟨h.1, h.2.1, ownsRow_block h.2.2 hb⟩
theorem Own.kp {p : Nat → Prop} (h : Own B w a n c l) (hk : Kp p w w') (hp : ∀ g, a = some ⟨g, 0, none⟩ → ¬ p g) : Own B w' a n c l :=
  h.block fun g e => by subst e; exact hk.block g h.lt.2 (hp g rfl)
theorem Own.below (h : Own B w a n c l) (hb : Below w.heap.size w w') : Own B w' a n c l :=
  h.block fun g e => by subst e; exact hb.block g h.lt.2
theorem Own.alloc (h : Own B w a n c l) (o : Obj) : Own B (w.alloc o) a n c l := h.below ((Below.refl _ _).alloc (Nat.le_refl _) o)
theorem Own.drewN (h : Own B w a n c l) (k : Nat) : Own B (w.drewN k) a n c l := h
theorem Own.mono {B' : Nat} (h : Own B w a n c l) (hB : B' ≤ B) : Own B' w a n c l := ⟨h.1, h.2.1, ownsRow_mono h.2.2 hB⟩
theorem Own.set_other {g i : Nat} (h : Own B w a n c l) (v : Value) (hne : ∀ g', a = some ⟨g', 0, none⟩ → g' ≠ g) : Own B (w.setCell ⟨g, i, none⟩ v) a n c l :=
  h.block fun g' e => heap_setCell_other w _ g' v (hne g' e)
theorem Own.rd (h : Own B w a n c l) : Rd w a n c l := by
  refine ⟨h.1, h.2.1, h.bnd.1, (ownsRow_bnd h.2.2).2.1, fun i hi => ?_⟩
  rcases h.cases with ⟨_, h2, _⟩ | ⟨g, rfl, _⟩
  · omega
  · exact ⟨g, 0, rfl, by rw [Nat.zero_add]; exact h.cell hi⟩
theorem Own.take {k : Nat} (h : Own B w a n c l) (hk : k ≤ n) : Own B w a k c (l.take k) := by
  refine ⟨by rw [List.length_take, h.1]; omega, h.2.1.take k, ?_⟩
  rcases h.cases with ⟨h1, h2, h3, h4⟩ | ⟨g, rfl, _⟩
  · subst h1 h2 h3 h4
    obtain rfl : k = 0 := by omega
    exact h.2.2
  · rw [← encL_take]; exact ownsRow_take h.2.2 hk
theorem own_nil (B : Nat) (w : World) : Own B w none 0 0 [] := ⟨rfl, lim_nil, World.ownsRow_nil w B _ 1⟩
theorem rd_nil (w : World) (c : Nat) (a : Option Addr) (hc : c ≤ maxLen) : Rd w a 0 c [] := ⟨rfl, lim_nil, Nat.zero_le _, hc, fun i hi => by omega⟩
end

/-- The world w, some draws on. -/
def Dr (w w' : World) : Prop := ∃ q, w' = w.drewN q
theorem Dr.refl (w : World) : Dr w w := ⟨0, rfl⟩
theorem Dr.drewN {w w' : World} (h : Dr w w') (n : Nat) : Dr w (w'.drewN n) := by
  obtain ⟨q, rfl⟩ := h; exact ⟨q + n, World.drewN_drewN _ _ _⟩
theorem Dr.cell {w w' : World} (h : Dr w w') (p : Addr) : w'.cell? p = w.cell? p := by obtain ⟨q, rfl⟩ := h; rfl
theorem Dr.heap {w w' : World} (h : Dr w w') : w'.heap = w.heap := by obtain ⟨q, rfl⟩ := h; rfl
theorem Dr.rd {w w' : World} (h : Dr w w') {a : Option Addr} {n c : Nat} {l : List Nat} (hR : Rd w a n c l) : Rd w' a n c l := by obtain ⟨q, rfl⟩ := h; exact hR
theorem Dr.own {w w' : World} (h : Dr w w') {B : Nat} {a : Option Addr} {n c : Nat} {l : List Nat} (hO : Own B w a n c l) : Own B w' a n c l := by obtain ⟨q, rfl⟩ := h; exact hO
theorem Dr.kp {w w' : World} (h : Dr w w') (p : Nat → Prop) : Kp p w w' := by obtain ⟨q, rfl⟩ := h; exact ⟨rfl, rfl, rfl, Nat.le_refl _, fun _ _ _ => rfl⟩
theorem Dr.below {w w' : World} (h : Dr w w') (B : Nat) : Below B w w' := by obtain ⟨q, rfl⟩ := h; exact ⟨rfl, rfl, rfl, Nat.le_refl _, fun _ _ => rfl⟩
theorem Dr.trans {a b c : World} (h : Dr a b) (k : Dr b c) : Dr a c := by obtain ⟨q, rfl⟩ := k; exact h.drewN q

theorem wf_bounds_u64 {a : Int} (h : (Lit.int .u64 a).wf = true) : 0 ≤ a ∧ a ≤ 18446744073709551615 := by
  simp [Lit.wf] at h
  have h1 : IntKind.u64.min = 0 := by decide
  have h2 : IntKind.u64.max = 18446744073709551615 := by decide
  omega
theorem wf_bounds_i64 {a : Int} (h : (Lit.int .i64 a).wf = true) : -9223372036854775808 ≤ a ∧ a ≤ 9223372036854775807 := by
  simp [Lit.wf] at h
  have h1 : IntKind.i64.min = -9223372036854775808 := by decide
  have h2 : IntKind.i64.max = 9223372036854775807 := by decide
  omega
theorem wf_bounds_u32 {a : Int} (h : (Lit.int .u32 a).wf = true) : 0 ≤ a ∧ a ≤ 4294967295 := by
  simp [Lit.wf] at h
  have h1 : IntKind.u32.min = 0 := by decide
  have h2 : IntKind.u32.max = 4294967295 := by decide
  omega

theorem rd_of_ints {w : World} {x : Addr} {n c : Nat} {zs : List Int} (hl : n ≤ c) (hm : c ≤ maxLen) (hz : zs.length = c)
    (hcell : ∀ i, i < zs.length → w.cell? (x.add i) = some (.int .u32 (zs.getD i 0))) (hwz : ∀ z ∈ zs, (Lit.int .u32 z).wf = true) :
    Rd w (some x) n c ((zs.take n).map Int.toNat) := by
  refine ⟨by simp; omega, fun y hy => ?_, hl, hm, fun i hi => ?_⟩
  · obtain ⟨z, hz, rfl⟩ := List.mem_map.1 hy
    have := wf_bounds_u32 (hwz z (List.mem_of_mem_take hz))
    omega
  · have h1 := hcell i (by omega)
    obtain ⟨b, o, sp⟩ := x
    have hsp : sp = none := by
      have h0 := hcell 0 (by omega)
      simpa [Addr.add] using World.cell?_spot h0
    subst hsp
    rw [Addr.add_lit] at h1
    refine ⟨b, o, rfl, ?_⟩
    rw [h1]
    have hi' : i < zs.length := by omega
    have hw := wf_bounds_u32 (hwz zs[i] (List.getElem_mem hi'))
    congr 2
    simp [List.getD_eq_getElem?_getD, hi, List.getElem?_eq_getElem hi']
    omega

/-- ONE RESULT: a fresh slice that holds the list. -/
def Ret1 (w : World) (l : List Nat) (e : Ending) (w' : World) : Prop :=
  ∃ a n c, e = .returned (.slice a n c) ∧ Own w.heap.size w' a n c l ∧ Below w.heap.size w w'

theorem infoU32 : (Try.prog.info? 97).map (fun i => (i.zero, i.size, i.bytes)) = some (some (.int .u32 0), 1, 4) := by kernel_rfl

/-! ### the laws of append and make, in these words -/
section laws
variable {w : World} {ops : Array Oper} {rest : List Oper} {o : Oper} {A : Act} {Q : Exit → Act → World → Prop}

/-- append at a row of cells: what comes, that all else is kept, and where it lies: where it lay, or in a new block. -/
theorem row_append {E : TypeId} {z : Value} {by_ : Nat} (T ty : TypeId) (hT : Try.prog.underlying T = some (.slice E))
    (hinfo : (Try.prog.info? E).map (fun i => (i.zero, i.size, i.bytes)) = some (some z, 1, by_)) (hzs : z.cells.size = 1) (hby : by_ ≤ 24)
    {B : Nat} {sa : Option Addr} {n c : Nat} {xs news : List Value} (hO : w.ownsRow B E 1 (.slice sa n c) n xs) (ad : Addr) (k d : Nat) (hm : news.length = k)
    (hy : ∀ j u, news[j]? = some u → w.cell? (ad.add j) = some u) (h1 : ∀ u ∈ news, u.oneCell' = true) (hB : B ≤ w.heap.size) (hn : n + k ≤ 1073741824) :
    ∃ a' c' w', (Builtin.append_ #[T, T] ty #[.slice sa n c, .slice (some ad) k d]).run Try.prog w = .ok (.slice a' (n + k) c') w' ∧
      w'.ownsRow B E 1 (.slice a' (n + k) c') (n + k) (xs ++ news) ∧ Kp (fun k => sa = some ⟨k, 0, none⟩) w w' ∧ (a' = sa ∨ (∀ g, a' = some ⟨g, 0, none⟩ → w.heap.size ≤ g) ∧ Kp (fun _ => False) w w') := by
  obtain ⟨i0, hi, hz, hz1, hz2⟩ := info_parts hinfo
  have hbytes : (n + k) * by_ ≤ 140737488355328 := by
    have : (n + k) * by_ ≤ 1073741824 * 24 := Nat.mul_le_mul hn hby
    omega
  have slf : ∀ v' (w' : World), w'.ownsRow B E 1 v' (n + k) (xs ++ news) → ∃ a' c', v' = .slice a' (n + k) c' := by
    intro v' w' hown
    rcases hown.2 with ⟨h1, h2⟩ | ⟨g, cap, cur, h1, _⟩
    · exact ⟨none, 0, by rw [h1, h2]⟩
    · exact ⟨_, _, h1⟩
  cases sa with
  | none =>
    have hn0 : n = 0 ∧ c = 0 ∧ xs = [] := by
      rcases ownsRow_cases hO with ⟨_, h2, h3, h4⟩ | ⟨g, h, _⟩
      · exact ⟨h2, h3, h4⟩
      · cases h
    obtain ⟨rfl, rfl, rfl⟩ := hn0
    obtain ⟨v', w', hr, hown, hg, _⟩ := run_append_own (P := Try.prog) w w.heap.size T ty E i0 z 1 by_ hT hi hz hz1 hz2 hzs (by decide)
      (.slice none 0 0) 0 [] (World.ownsRow_nil w _ E 1) ad k d news (by omega) hy h1 (by unfold maxLen; omega) hbytes (Nat.le_refl _)
    have hown' : w'.ownsRow B E 1 v' (0 + k) ([] ++ news) := by
      refine ⟨hown.1, ?_⟩
      rcases hown.2 with h2 | ⟨g, cap, cur, hv, hb, r⟩
      · exact .inl h2
      · exact .inr ⟨g, cap, cur, hv, by omega, r⟩
    obtain ⟨a', c', rfl⟩ := slf v' w' hown'
    refine ⟨a', c', w', hr, hown', ⟨hg.os, hg.tape, hg.output, hg.size, fun j hj _ => hg.block j hj (by simp [Value.ownBlock])⟩, .inr ⟨fun g e => ?_, ⟨hg.os, hg.tape, hg.output, hg.size, fun j hj _ => hg.block j hj (by simp [Value.ownBlock])⟩⟩⟩
    subst e
    rcases ownsRow_cases hown with ⟨h, _⟩ | ⟨g', h, h2, _⟩
    · cases h
    · cases h; exact h2
  | some ad' =>
    obtain ⟨g, rfl⟩ : ∃ g, ad' = ⟨g, 0, none⟩ := by
      rcases ownsRow_cases hO with ⟨h, _⟩ | ⟨g, h, _⟩
      · cases h
      · cases h; exact ⟨g, rfl⟩
    by_cases hfit : n + k ≤ c
    · obtain ⟨w', hr, hown, hg⟩ := run_append_fits (P := Try.prog) w B T ty E i0 1 hT hi hz1 g n c xs hO ad k d news (by omega) hy h1 hfit
      refine ⟨_, _, w', hr, hown, ⟨hg.os, hg.tape, hg.output, hg.size, fun j hj hp => hg.block j hj fun e => ?_⟩, .inl rfl⟩
      cases e; exact hp rfl
    · obtain ⟨v', w', hr, hown, hg, _⟩ := run_append_own (P := Try.prog) w B T ty E i0 z 1 by_ hT hi hz hz1 hz2 hzs (by decide)
        (.slice (some ⟨g, 0, none⟩) n c) n xs hO ad k d news (by omega) hy h1 (by unfold maxLen; omega) hbytes hB
      have hr2 := run_append_grow (P := Try.prog) w T ty E i0 z hT hi hz ⟨g, 0, none⟩ n c xs (by rw [hz1]; exact hO.1) (hO.cells (g := g) rfl) ad k d news (by rw [hz1]; omega) hy (by omega) (by omega)
        (growslice_fits (by omega) (by rw [hz2]; exact hbytes))
      obtain ⟨a', c', rfl⟩ := slf v' w' hown
      rw [hr] at hr2
      injection hr2 with h3 h4
      injection h3 with h5
      have hkF : Kp (fun _ => False) w w' := by rw [h4]; exact ((Kp.refl _ w).drew).alloc _
      refine ⟨a', c', w', hr, hown, hkF.mono (fun _ _ h => h.elim), .inr ⟨fun g' e => ?_, hkF⟩⟩
      rw [h5] at e
      cases e
      exact Nat.le_refl _

theorem own_append_run {B : Nat} {sa : Option Addr} {n c : Nat} {l m : List Nat} (ty : TypeId)
    (hO : Own B w sa n c l) (ad : Addr) (k d : Nat) (hm : m.length = k) (hmL : Lim m) (hy : ∀ i, i < k → w.cell? (ad.add i) = some (.int .u32 (m.getD i 0 : Nat))) (hB : B ≤ w.heap.size)
    (hn : n + k ≤ 1073741824) :
    ∃ a' c' w', (Builtin.append_ #[24, 24] ty #[.slice sa n c, .slice (some ad) k d]).run Try.prog w = .ok (.slice a' (n + k) c') w' ∧ Own B w' a' (n + k) c' (l ++ m) ∧ Kp (fun k => sa = some ⟨k, 0, none⟩) w w' ∧
      (a' = sa ∨ (∀ g, a' = some ⟨g, 0, none⟩ → w.heap.size ≤ g) ∧ Kp (fun _ => False) w w') := by
  obtain ⟨a', c', w', hr, hown, hk, hf⟩ := row_append (w := w) 24 ty Try.underlying24 infoU32 rfl (by decide) hO.2.2 ad k d (by rw [encL_length]; exact hm)
    (fun j u hu => by
      have hj : j < m.length := by have := (List.getElem?_eq_some_iff.1 hu).1; rwa [encL_length] at this
      rw [encL_get hj] at hu
      cases hu
      exact hy j (by omega))
    (encL_oneCell m) hB hn
  rw [← encL_append] at hown
  exact ⟨a', c', w', hr, ⟨by rw [List.length_append, hO.1, hm], hO.2.1.append hmL, hown⟩, hk, hf⟩

/-- append(s, x...) onto an owned slice. -/
theorem wpList_app {B : Nat} {sa : Option Addr} {n c : Nat} {l m : List Nat} (hgd : o.guard = none) (s x : Operand)
    (ho : o.op = .call { callee := .builtin .append, args := #[s, x], argTypes := #[24, 24] })
    (hs : A.eval s = .slice sa n c) (hO : Own B w sa n c l) (ad : Addr) (k d : Nat) (hx : A.eval x = .slice (some ad) k d)
    (hm : m.length = k) (hmL : Lim m) (hy : ∀ i, i < k → w.cell? (ad.add i) = some (.int .u32 (m.getD i 0 : Nat))) (hB : B ≤ w.heap.size)
    (hn : n + k ≤ 1073741824)
    (h : ∀ a' c' w', Own B w' a' (n + k) c' (l ++ m) → Kp (fun k => sa = some ⟨k, 0, none⟩) w w' → (a' = sa ∨ (∀ g, a' = some ⟨g, 0, none⟩ → w.heap.size ≤ g) ∧ Kp (fun _ => False) w w') → wpList Try.prog ops Q rest (A.put o.dst (.slice a' (n + k) c')) w') :
    wpList Try.prog ops Q (o :: rest) A w := by
  obtain ⟨a', c', w', hr, hown, hk, hf⟩ := own_append_run o.type hO ad k d hm hmL hy hB hn
  refine wpList_plain hgd fun K hK => ?_
  unfold Oper.wp execOp
  simp only [ho, resolve, invoke, builtin, Sem.run_bind, Sem.run_pure, Result.andThen_ok, List.map_toArray, List.map_cons, List.map_nil, hs, hx, hr]
  exact hK _ _ (h a' c' w' hown hk hf)

/-- append(s, x...) onto an owned slice, from a slice that can be read (nil too). -/
theorem wpList_appR {B : Nat} {sa b : Option Addr} {n c k d : Nat} {l m : List Nat} (hgd : o.guard = none) (s x : Operand)
    (ho : o.op = .call { callee := .builtin .append, args := #[s, x], argTypes := #[24, 24] })
    (hs : A.eval s = .slice sa n c) (hO : Own B w sa n c l) (hx : A.eval x = .slice b k d) (hR : Rd w b k d m) (hB : B ≤ w.heap.size)
    (hn : n + k ≤ 1073741824)
    (h : ∀ a' c' w', Own B w' a' (n + k) c' (l ++ m) → Kp (fun k => sa = some ⟨k, 0, none⟩) w w' → (a' = sa ∨ (∀ g, a' = some ⟨g, 0, none⟩ → w.heap.size ≤ g) ∧ Kp (fun _ => False) w w') → wpList Try.prog ops Q rest (A.put o.dst (.slice a' (n + k) c')) w') :
    wpList Try.prog ops Q (o :: rest) A w := by
  cases b with
  | none =>
    obtain rfl : k = 0 := by
      rcases Nat.eq_zero_or_pos k with h | h
      · exact h
      · obtain ⟨b, o, e⟩ := hR.head h; cases e
    obtain rfl : m = [] := List.eq_nil_of_length_eq_zero hR.len
    obtain ⟨i0, hi, hz, hz1, hz2⟩ := info_parts infoU32
    have hnc := hO.bnd.1
    have hr : (Builtin.append_ #[24, 24] o.type #[.slice sa n c, .slice none 0 d]).run Try.prog w = .ok (.slice sa n c) w := by
      cases sa <;> simp [Builtin.append_, run_underlying Try.underlying24, sizeOf, typeInfo, hi, Builtin.lenOf, Builtin.firstCells, hnc, storeCells]
    refine wpList_plain hgd fun K hK => ?_
    unfold Oper.wp execOp
    simp only [ho, resolve, invoke, builtin, Sem.run_bind, Sem.run_pure, Result.andThen_ok, List.map_toArray, List.map_cons, List.map_nil, hs, hx, hr]
    exact hK _ _ (h sa c w (by simpa using hO) (Kp.refl _ _) (.inl rfl))
  | some ad =>
    refine wpList_app hgd s x ho hs hO ad k d hx hR.len hR.lim (fun i hi => ?_) hB hn h
    obtain ⟨b', o', e, hc⟩ := hR.get hi
    cases e
    rw [Addr.add_lit]; exact hc

/-- append(s, y): one limb. -/
theorem wpList_app1 {B : Nat} {sa : Option Addr} {n c y : Nat} {l : List Nat} (hgd : o.guard = none) (s x : Operand)
    (ho : o.op = .call { callee := .builtin .append, args := #[s, x], argTypes := #[24, 24] })
    (hs : A.eval s = .slice sa n c) (hO : Own B w sa n c l) (g d : Nat) (hx : A.eval x = .slice (some ⟨g, 0, none⟩) 1 d)
    (hyl : y < 4294967296) (hy : w.cell? ⟨g, 0, none⟩ = some (.int .u32 (y : Int))) (hB : B ≤ w.heap.size)
    (hn : n + 1 ≤ 1073741824)
    (h : ∀ a' c' w', Own B w' a' (n + 1) c' (l ++ [y]) → Kp (fun k => sa = some ⟨k, 0, none⟩) w w' → (a' = sa ∨ (∀ g, a' = some ⟨g, 0, none⟩ → w.heap.size ≤ g) ∧ Kp (fun _ => False) w w') → wpList Try.prog ops Q rest (A.put o.dst (.slice a' (n + 1) c')) w') :
    wpList Try.prog ops Q (o :: rest) A w :=
  wpList_app (m := [y]) hgd s x ho hs hO ⟨g, 0, none⟩ 1 d hx rfl (lim_cons hyl lim_nil) (fun i hi => by
    obtain rfl : i = 0 := by omega
    exact hy) hB hn h

/-- make(Nat, n) -/
theorem wpList_mk {B : Nat} (hgd : o.guard = none) (lo co : Operand) (ho : o.op = Op.makeSlice 24 lo co) (L : Int) (n : Nat)
    (hl : A.eval lo = .int .i64 L) (hc : A.eval co = .int .i64 L) (hL : L = (n : Int)) (hn : n ≤ 1073741824) (hB : B ≤ w.heap.size)
    (h : ∀ w', Own B w' (some ⟨w.heap.size, 0, none⟩) n n (List.replicate n 0) → Kp (fun _ => False) w w' → wpList Try.prog ops Q rest (A.put o.dst (.slice (some ⟨w.heap.size, 0, none⟩) n n)) w') :
    wpList Try.prog ops Q (o :: rest) A w := by
  obtain ⟨i0, hi, hz, hz1, hz2⟩ := info_parts infoU32
  refine wpList_make_full w hgd lo co 24 ho B 97 i0 (.int .u32 0) 1 Try.underlying24 hi hz hz1 .i64 .i64 L L n hl hc hL hL (by rw [hz2]; omega) (by unfold maxLen; omega) hB fun w' hown hg => ?_
  refine h w' ⟨by simp, lim_replicate _ _ (by decide), ?_⟩ ⟨hg.os, hg.tape, hg.output, hg.size, fun k hk _ => hg.block k hk (by simp)⟩
  have : encL (List.replicate n 0) = (madeCells (Value.int .u32 0).cells (n * 1)).toList := by
    rw [Nat.mul_one, show (Value.int IntKind.u32 0).cells = #[Value.int .u32 0] from rfl, toList_madeCells_one]
    simp [encL]
  rw [this]
  exact hown

/-- append of one slice to a row of slices -/
theorem infoSl : (Try.prog.info? 24).map (fun i => (i.zero, i.size, i.bytes)) = some (some (.slice none 0 0), 1, 24) := by kernel_rfl

end laws

end Go.Proofs.Ytennilapmcgnbaa
