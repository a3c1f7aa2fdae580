/- WALKS OF FRACTIONS, 13: the statements' helpers. -/
import Derived.Test.YtoeldbdcbfgmoaaDoorQ2
import Derived.Test.YtoeldbdcbfgmoaaDoorQ2
import Derived.Test.YtoeldbdcbfgmoaaDoorQ2
import Derived.Test.YtoeldbdcbfgmoaaDoorQ3
import Derived.Test.YtoeldbdcbfgmoaaDoorQ4
namespace Go.Proofs.YtoeldbdcbfgmoaaDoor
set_option linter.unusedVariables false
set_option linter.unusedSimpArgs false
open Go.ChangeShapes Go.WideShapes Go.ChangeAt Go.RowKit Go.NatP

theorem szl {v k : Nat} (h : v < 4294967296) (hk : 1 ≤ k) : Sz v k := (show Sz v 1 by show v < 4294967296 ^ 1; omega).mono (Nat.le_refl _) hk

/-- a whole number cut to N limbs -/
def RetCutZ (w : World) (N n0 : Nat) (s : Bool) (a : Option Addr) (c : Nat) (e : Ending) (w' : World) : Prop :=
  ∃ n l, e = .returned (.agg #[.bool s, .slice a n c]) ∧ n ≤ N ∧ n ≤ n0 ∧ Rd w' a n c l ∧ Below w.heap.size w w'
/-- a fraction cut to N limbs each -/
def RetCutQ (w : World) (N n0 m0 : Nat) (s : Bool) (a : Option Addr) (c : Nat) (b : Option Addr) (d : Nat) (e : Ending) (w' : World) : Prop :=
  ∃ n l m k, e = .returned (.agg #[.bool s, .slice a n c, .slice b m d]) ∧ n ≤ N ∧ m ≤ N ∧ n ≤ n0 ∧ m ≤ m0 ∧ Rd w' a n c l ∧ Rd w' b m d k ∧ Below w.heap.size w w'
theorem Below.set1 {B g i : Nat} {a w : World} (h : Below B a w) (hg : B ≤ g) (v : Value) : Below B a (w.setCell ⟨g, i, none⟩ v) := h.setCell (p := ⟨g, i, none⟩) hg v

/-- a list of limbs with marked room behind -/
def Lent (w : World) (a : Option Addr) (n c : Nat) (l : List Nat) : Prop := Rd w a (n + 5) c (l ++ List.replicate 5 7000) ∧ Rd w a n c l
theorem Lent.below {w w' : World} {a : Option Addr} {n c : Nat} {l : List Nat} (h : Lent w a n c l) (hB : Below w.heap.size w w') : Lent w' a n c l := ⟨h.1.below hB, h.2.below hB⟩
theorem Own.lent {B : Nat} {w : World} {a : Option Addr} {n c : Nat} {l : List Nat} (h : Own B w a (n + 5) c (l ++ List.replicate 5 7000)) (hl : l.length = n) : Lent w a n c l := by
  refine ⟨h.rd, ?_⟩
  have := h.rd.pre (k := n) (by omega)
  rwa [List.take_left' hl] at this
def RetLendZ (w : World) (s : Bool) (n : Nat) (l : List Nat) (e : Ending) (w' : World) : Prop :=
  ∃ a c, e = .returned (.agg #[.bool s, .slice a n c]) ∧ Lent w' a n c l ∧ (∀ b o, a = some ⟨b, o, none⟩ → w.heap.size ≤ b) ∧ Below w.heap.size w w'
def RetLendQ (w : World) (s : Bool) (n : Nat) (l : List Nat) (m : Nat) (k : List Nat) (e : Ending) (w' : World) : Prop :=
  ∃ a c b d, e = .returned (.agg #[.bool s, .slice a n c, .slice b m d]) ∧ Lent w' a n c l ∧ Lent w' b m d k ∧ Below w.heap.size w w'
theorem Lent.set2 {w : World} {a : Option Addr} {n c : Nat} {l : List Nat} (h : Lent w a n c l) {g : Nat} (hg : ∀ b o, a = some ⟨b, o, none⟩ → b ≠ g) (v0 v1 : Value) : Lent ((w.setCell ⟨g, 0, none⟩ v0).setCell ⟨g, 1, none⟩ v1) a n c l := by
  have hk := ((Kp.refl (fun j => j = g) w).setCell (ad := ⟨g, 0, none⟩) rfl v0).setCell (ad := ⟨g, 1, none⟩) rfl v1
  exact ⟨h.1.kp hk hg, h.2.kp hk hg⟩
theorem Lent.set3 {w : World} {a : Option Addr} {n c : Nat} {l : List Nat} (h : Lent w a n c l) {g : Nat} (hg : ∀ b o, a = some ⟨b, o, none⟩ → b ≠ g) (v0 v1 v2 : Value) : Lent (((w.setCell ⟨g, 0, none⟩ v0).setCell ⟨g, 1, none⟩ v1).setCell ⟨g, 2, none⟩ v2) a n c l := by
  have hk := (((Kp.refl (fun j => j = g) w).setCell (ad := ⟨g, 0, none⟩) rfl v0).setCell (ad := ⟨g, 1, none⟩) rfl v1).setCell (ad := ⟨g, 2, none⟩) rfl v2
  exact ⟨h.1.kp hk hg, h.2.kp hk hg⟩
theorem Own.blk_ge {B : Nat} {w : World} {a : Option Addr} {n c : Nat} {l : List Nat} (h : Own B w a n c l) {b o : Nat} (e : a = some ⟨b, o, none⟩) : B ≤ b := by
  rcases h.cases with ⟨h1, _⟩ | ⟨g, h1, h2, _⟩
  · rw [h1] at e; cases e
  · rw [h1] at e; cases e; exact h2

/-- what came in is as it was behind a store into a block of the call's own -/
theorem Rd.kp_old {w W W' : World} {a : Option Addr} {n n' c : Nat} {l l' : List Nat} {p : Nat → Prop} (h0 : Rd w a n c l) (hn : n' ≤ n) (h : Rd W a n' c l') (hk : Kp p W W') (hp : ∀ b, b < w.heap.size → ¬ p b) : Rd W' a n' c l' := by
  rcases Nat.eq_zero_or_pos n' with h1 | h1
  · exact ⟨h.1, h.2.1, h.2.2.1, h.2.2.2.1, fun i hi => by omega⟩
  · exact h.kp hk fun b o e => hp b (h0.blk_lt (by omega) e)
theorem kp_set2 (w : World) (g : Nat) (v0 v1 : Value) : Kp (fun j => j = g) w ((w.setCell ⟨g, 0, none⟩ v0).setCell ⟨g, 1, none⟩ v1) := ((Kp.refl (fun j => j = g) w).setCell (ad := ⟨g, 0, none⟩) rfl v0).setCell (ad := ⟨g, 1, none⟩) rfl v1
theorem kp_set3 (w : World) (g : Nat) (v0 v1 v2 : Value) : Kp (fun j => j = g) w (((w.setCell ⟨g, 0, none⟩ v0).setCell ⟨g, 1, none⟩ v1).setCell ⟨g, 2, none⟩ v2) := (kp_set2 w g v0 v1).setCell (ad := ⟨g, 2, none⟩) rfl v2
theorem Blk.set2 {w : World} {g g' : Nat} {cs : Array Value} (h : Blk w g' cs) (hne : g' ≠ g) (v0 v1 : Value) : Blk ((w.setCell ⟨g, 0, none⟩ v0).setCell ⟨g, 1, none⟩ v1) g' cs := (h.set_other hne).set_other hne
theorem Lent.kp {w w' : World} {a : Option Addr} {n c : Nat} {l : List Nat} {p : Nat → Prop} (h : Lent w a n c l) (hk : Kp p w w') (hp : ∀ b o, a = some ⟨b, o, none⟩ → ¬ p b) : Lent w' a n c l := ⟨h.1.kp hk hp, h.2.kp hk hp⟩

/-! ### fractions that were answered, in a row -/
theorem qnl_len {q : Rat} {er : Int} {k : Nat} (h : QS q k) : (qnl q er).length ≤ k := by unfold qnl; split; exact h.len1; exact Nat.zero_le _
theorem qdl_len {q : Rat} {er : Int} {k : Nat} (h : QS q k) : (qdl q er).length ≤ k := by unfold qdl; split; exact h.len2; exact Nat.zero_le _
theorem divInt_sz {u v k : Nat} (hu : Sz u k) (hv : Sz v k) (s t : Bool) (hk : 1 ≤ k) : QS (Rat.divInt (zv s u) (zv t v)) k := by
  by_cases h : v = 0
  · rw [zv_zero t h, Rat.divInt_zero]; exact qs_zero.mono hk
  · rw [← divInt_zv s t u h]; exact QS.mk h (by rw [zv_abs]; exact hu) hv
theorem divInt_szi {k l : Int} (h1 : -9223372036854775808 ≤ k) (h2 : k ≤ 9223372036854775807) (h3 : -9223372036854775808 ≤ l) (h4 : l ≤ 9223372036854775807) : QS (Rat.divInt k l) 2 := by
  have h := divInt_sz (szInt h1 h2) (szInt h3 h4) (decide (k < 0)) (decide (l < 0)) (by omega)
  rwa [zv_self, zv_self] at h
section
variable {W : World} {g : Nat} {s t : Bool} {a b a' b' : Option Addr} {n c m d n' c' m' d' : Nat} {l k l' k' : List Nat} {B1 B2 B3 B4 : Nat}
def pick2 {α : Type} (x y : α) (i : Nat) : α := if i = 0 then x else y
def pick4 {α : Type} (x y z u : α) (i : Nat) : α := if i = 0 then x else if i = 1 then y else if i = 2 then z else u
theorem rgot1 (hc : Blk W g #[.bool s, .slice a n c, .slice b m d]) (h1 : Own B1 W a n c l) (h2 : Own B2 W b m d k) (hD : Diff a b) :
    RGot W (some ⟨g, 0, none⟩) 1 (pick2 a b) (pick2 n m) (pick2 c d) (pick2 l k) := by
  refine ⟨fun i hi => ?_, fun i hi => ?_, fun i j hi hj hij g' e => ?_⟩
  · obtain rfl : i = 0 := by omega
    exact ⟨g, 0, rfl, hc.cell 1, hc.cell 2⟩
  · rcases (by omega : i = 0 ∨ i = 1) with rfl | rfl
    · exact h1.mono (Nat.zero_le _)
    · exact h2.mono (Nat.zero_le _)
  · rcases (by omega : (i = 0 ∧ j = 1) ∨ (i = 1 ∧ j = 0)) with ⟨rfl, rfl⟩ | ⟨rfl, rfl⟩
    · exact hD g' e
    · exact hD.symm g' e
theorem rgot2 (hc : Blk W g #[.bool s, .slice a n c, .slice b m d, .bool t, .slice a' n' c', .slice b' m' d']) (h1 : Own B1 W a n c l) (h2 : Own B2 W b m d k) (h3 : Own B3 W a' n' c' l') (h4 : Own B4 W b' m' d' k')
    (d12 : Diff a b) (d13 : Diff a a') (d14 : Diff a b') (d23 : Diff b a') (d24 : Diff b b') (d34 : Diff a' b') :
    RGot W (some ⟨g, 0, none⟩) 2 (pick4 a b a' b') (pick4 n m n' m') (pick4 c d c' d') (pick4 l k l' k') := by
  refine ⟨fun i hi => ?_, fun i hi => ?_, fun i j hi hj hij g' e => ?_⟩
  · rcases (by omega : i = 0 ∨ i = 1) with rfl | rfl
    · exact ⟨g, 0, rfl, hc.cell 1, hc.cell 2⟩
    · exact ⟨g, 0, rfl, hc.cell 4, hc.cell 5⟩
  · rcases (by omega : i = 0 ∨ i = 1 ∨ i = 2 ∨ i = 3) with rfl | rfl | rfl | rfl
    · exact h1.mono (Nat.zero_le _)
    · exact h2.mono (Nat.zero_le _)
    · exact h3.mono (Nat.zero_le _)
    · exact h4.mono (Nat.zero_le _)
  · rcases (by omega : i = 0 ∨ i = 1 ∨ i = 2 ∨ i = 3) with rfl | rfl | rfl | rfl <;> rcases (by omega : j = 0 ∨ j = 1 ∨ j = 2 ∨ j = 3) with rfl | rfl | rfl | rfl <;>
      first | exact absurd rfl hij | exact d12 g' e | exact d13 g' e | exact d14 g' e | exact d23 g' e | exact d24 g' e | exact d34 g' e | exact d12.symm g' e | exact d13.symm g' e | exact d14.symm g' e | exact d23.symm g' e | exact d24.symm g' e | exact d34.symm g' e
theorem pick2_le {x y N : Nat} (h1 : x ≤ N) (h2 : y ≤ N) (i : Nat) : pick2 x y i ≤ N := by unfold pick2; split <;> assumption
theorem pick4_le {x y z u N : Nat} (h1 : x ≤ N) (h2 : y ≤ N) (h3 : z ≤ N) (h4 : u ≤ N) (i : Nat) : pick4 x y z u i ≤ N := by unfold pick4; split; assumption; split; assumption; split <;> assumption
/-- behind OwnRats: what lies before the answers is as it was -/
theorem below_own1 {V w' : World} (hB : Below V.heap.size V W) (hK : Kp (fun j => ∃ i, i < 2 ∧ pick2 a b i = some ⟨j, 0, none⟩) W w') (h1 : Own B1 W a n c l) (h2 : Own B2 W b m d k) (l1 : V.heap.size ≤ B1) (l2 : V.heap.size ≤ B2) : Below V.heap.size V w' :=
  hB.kp hK hB.size fun j hj ⟨i, hi, e⟩ => by
    rcases (by omega : i = 0 ∨ i = 1) with rfl | rfl
    · have := h1.lt' j e; omega
    · have := h2.lt' j e; omega
theorem below_own2 {V w' : World} (hB : Below V.heap.size V W) (hK : Kp (fun j => ∃ i, i < 4 ∧ pick4 a b a' b' i = some ⟨j, 0, none⟩) W w') (h1 : Own B1 W a n c l) (h2 : Own B2 W b m d k) (h3 : Own B3 W a' n' c' l') (h4 : Own B4 W b' m' d' k')
    (l1 : V.heap.size ≤ B1) (l2 : V.heap.size ≤ B2) (l3 : V.heap.size ≤ B3) (l4 : V.heap.size ≤ B4) : Below V.heap.size V w' :=
  hB.kp hK hB.size fun j hj ⟨i, hi, e⟩ => by
    rcases (by omega : i = 0 ∨ i = 1 ∨ i = 2 ∨ i = 3) with rfl | rfl | rfl | rfl
    · have := h1.lt' j e; omega
    · have := h2.lt' j e; omega
    · have := h3.lt' j e; omega
    · have := h4.lt' j e; omega
end

end Go.Proofs.YtoeldbdcbfgmoaaDoor
