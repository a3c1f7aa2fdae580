/- WALKS, 28: lists that are written out; equality of lists. -/
import Derived.Test.YtknpacegaclcgaaWA
import Derived.Test.YtknpacegaclcgaaWm
import Derived.Test.YtknpacegaclcgaaWr
import Derived.Test.YtknpacegaclcgaaWp
namespace Go.Proofs.Ytknpacegaclcgaa
set_option linter.unusedVariables false
open Go.ChangeShapes Go.WideShapes Go.ChangeAt Go.RowKit Go.NatP

theorem lsame_true {w : World} {a b : Option Addr} {n c m d : Nat} {l : List Nat} (ha : Rd w a n c l) (hb : Rd w b m d l) :
    Calls Try.prog 54 #[.slice a n c, .slice b m d] w fun e w' => e = .returned (.bool true) ∧ ∃ q, w' = w.drewN q :=
  (lsame_any ha hb).mono fun e w' ⟨h1, h2⟩ => ⟨by rw [h1]; simp, h2⟩

/-- a list written out: its row -/
theorem rd_lit {w : World} (l : List Nat) (hl : Lim l) (hn : l.length ≤ maxLen) (vs : Array Value) (hv : vs = (encL l).toArray) (e : TypeId) :
    Rd (w.alloc (.cells vs e)) (some ⟨w.heap.size, 0, none⟩) l.length l.length l := by
  subst hv
  refine ⟨rfl, hl, Nat.le_refl _, hn, fun i hi => ⟨w.heap.size, 0, rfl, ?_⟩⟩
  rw [Nat.zero_add, cell_of_row _ _ _ _ _ _ (heap_alloc_new w _)]
  simp only [List.getElem?_toArray]
  exact encL_get hi

instance limDec (l : List Nat) : Decidable (Lim l) := List.decidableBAll _ l

/-- a list written out where a statement stands -/
theorem Ev.lit {w0 w : World} {rs : List It} (h : Ev w0 w rs []) (l : List Nat) (hl : Lim l) (hn : l.length ≤ maxLen) (vs : Array Value) (hv : vs = (encL l).toArray) (g n : Nat) (hg : w.heap.size = g) (hnn : l.length = n) :
    Ev w0 (w.alloc (.cells vs 46)) (⟨some ⟨g, 0, none⟩, n, n, l⟩ :: rs) [] := by
  subst hg hnn
  have h1 := h.alloc (.cells vs 46)
  refine ⟨fun r hr => ?_, told_nil _ _, h1.bel, (fun r hr h0 x hx => by cases hx), (fun x hx => by cases hx)⟩
  rcases List.mem_cons.1 hr with rfl | hr
  · exact rd_lit l hl hn vs hv _
  · exact h1.rd r hr

theorem lm_is {v : Nat} {l : List Nat} (hl : Lim l) (hn : l ≠ [] → l.getLastD 1 ≠ 0) (h : val l = v) : lm v = l := by
  rw [← h]; exact lm_val hl hn

/-- a difference, and whether there is one -/
def RetSb (w : World) (l : List Nat) (b : Bool) (e : Ending) (w' : World) : Prop :=
  ∃ a n c, e = .returned (.tuple #[.slice a n c, .bool b]) ∧ Own w.heap.size w' a n c l ∧ Below w.heap.size w w'
theorem subP_any {w : World} {a b : Option Addr} {n c m d : Nat} {la lb : List Nat} (ha : Rd w a n c la) (hb : Rd w b m d lb) (hn : n ≤ 16777216) :
    Calls Try.prog 37 #[.slice a n c, .slice b m d] w (RetSb w (lm (val la - val lb)) (decide (val lb ≤ val la))) := sub_any ha hb hn

theorem szAdd {m n j k : Nat} (h : Sz m j) (h' : Sz n k) : Sz (m + n) (j + k + 1) := (h.mono (Nat.le_refl _) (by omega)).add (h'.mono (Nat.le_refl _) (by omega))
theorem szSub {m j : Nat} (n : Nat) (h : Sz m j) : Sz (m - n) j := h.mono (Nat.sub_le _ _) (Nat.le_refl _)
theorem szDiv {m j : Nat} (n : Nat) (h : Sz m j) : Sz (m / n) j := h.mono (Nat.div_le_self _ _) (Nat.le_refl _)
theorem szMod {m j : Nat} (n : Nat) (h : Sz m j) : Sz (m % n) j := h.mono (Nat.mod_le _ _) (Nat.le_refl _)
theorem szR {m j : Nat} (n : Nat) (h : Sz m j) : Sz (dvR m n) j := h.mono (dvR_le _ _) (Nat.le_refl _)
theorem szGcd {x y K : Nat} (hx : Sz x K) (hy : Sz y K) : Sz (Nat.gcd x y) K := by
  rcases Nat.eq_zero_or_pos x with h | h
  · subst h; rw [Nat.gcd_zero_left]; exact hy
  · exact hx.mono (Nat.gcd_le_left _ h) (Nat.le_refl _)

theorem cmpI_add (a b c : Nat) : cmpI (a + c) (b + c) = cmpI a b := by
  unfold cmpI
  rcases Nat.lt_trichotomy a b with h | h | h
  · rw [if_pos (by omega), if_pos h]
  · rw [if_neg (by omega), if_neg (by omega), if_neg (by omega), if_neg (by omega)]
  · rw [if_neg (by omega), if_pos (by omega), if_neg (by omega), if_pos h]
theorem cmpI_swap (a b : Nat) : cmpI b a = -cmpI a b := by
  unfold cmpI
  rcases Nat.lt_trichotomy a b with h | h | h
  · rw [if_neg (by omega), if_pos h, if_pos h]; rfl
  · rw [if_neg (by omega), if_neg (by omega), if_neg (by omega), if_neg (by omega)]; rfl
  · rw [if_pos h, if_neg (by omega), if_pos h]
theorem cmpI_zero {a b : Nat} : cmpI a b = 0 ↔ a = b := by
  unfold cmpI
  rcases Nat.lt_trichotomy a b with h | h | h
  · rw [if_pos h]; constructor
    · intro h; cases h
    · intro h; omega
  · rw [if_neg (by omega), if_neg (by omega)]; exact ⟨fun _ => h, fun _ => rfl⟩
  · rw [if_neg (by omega), if_pos h]; constructor
    · intro h; cases h
    · intro h; omega
theorem same_cmp (a b : Nat) : decide (lm a = lm b) = (cmpI a b == 0) := by
  rw [Bool.eq_iff_iff, decide_eq_true_iff, beq_iff_eq, cmpI_zero]
  exact ⟨lm_inj, fun h => by rw [h]⟩
theorem le_cmp (a b : Nat) : decide (b ≤ a) = decide (0 ≤ cmpI a b) := by
  rw [decide_eq_decide]
  unfold cmpI
  split
  · constructor
    · intro h; omega
    · intro h; omega
  · split
    · constructor <;> intro _ <;> omega
    · constructor <;> intro _ <;> omega

theorem cmpI_le {a b : Nat} (h : a ≤ b) : cmpI a b ≤ 0 := by
  rcases Int.lt_or_le 0 (cmpI a b) with h1 | h1
  · have := cmpI_pos.1 h1; omega
  · exact h1
theorem cmpI_ge {a b : Nat} (h : b ≤ a) : 0 ≤ cmpI a b := by
  rcases Int.lt_or_le (cmpI a b) 0 with h1 | h1
  · have := cmpI_neg.1 h1; omega
  · exact h1

end Go.Proofs.Ytknpacegaclcgaa
