/- WALKS, 25: division whole; the greatest common divisor; numbers written over in their places. -/
import Derived.Test.YtdabplkilaofbaaDoorWx
import Derived.Test.YtdabplkilaofbaaDoorWu
import Derived.Test.YtdabplkilaofbaaDoorW1
namespace Go.Proofs.YtdabplkilaofbaaDoor
set_option linter.unusedVariables false
open Go.ChangeShapes Go.WideShapes Go.ChangeAt Go.RowKit Go.NatP

/-- what is left, none where nothing is divided -/
def dvR (v y : Nat) : Nat := if y = 0 then 0 else v % y
def dvE (y : Nat) : Int := if y = 0 then 11 else 0
theorem dvR_le (v y : Nat) : dvR v y ≤ v := by
  unfold dvR; split
  · omega
  · exact Nat.mod_le _ _
theorem dvR_pos {v y : Nat} (h : y ≠ 0) : dvR v y = v % y := if_neg h
theorem dvE_pos {y : Nat} (h : y ≠ 0) : dvE y = 0 := if_neg h

theorem divmod_any {w : World} {a b : Option Addr} {n c m d : Nat} {la lb : List Nat} (ha : Rd w a n c la) (hb : Rd w b m d lb) (hn : n ≤ 4194304) :
    Calls Tryd.prog 14 #[.slice a n c, .slice b m d] w (RetD w (lm (val la / val lb)) (lm (dvR (val la) (val lb))) (dvE (val lb))) := by
  by_cases h0 : val lb = 0
  · rw [h0, Nat.div_zero]
    exact divmod_zero ha hb h0
  rw [dvR_pos h0, dvE_pos h0]
  rcases Nat.lt_or_ge (val la) (val lb) with h1 | h1
  · exact divmod_less ha hb hn h1
  rcases Nat.lt_or_ge (lm (val lb)).length 2 with h2 | h2
  · refine divmod_one ha hb hn h1 ?_
    have : 0 < (lm (val lb)).length := List.length_pos_iff.2 fun e => h0 (lm_eq_nil.1 e)
    omega
  · exact divmod_long ha hb hn h1 h2

/-- a number written over: five times each limb and three -/
def ovl (l : List Nat) : List Nat := l.map fun x => (5 * x + 3) % 4294967296
theorem ovl_length (l : List Nat) : (ovl l).length = l.length := by simp [ovl]
/-- down to limb i it is written over -/
def OvIn (l S : List Nat) (i : Nat) : Prop := S = ovl (l.take i) ++ l.drop i
theorem ovIn_start (l : List Nat) : OvIn l l 0 := by simp [OvIn, ovl]
theorem ovl_snoc {l : List Nat} {i : Nat} (h : i < l.length) : ovl (l.take (i + 1)) = ovl (l.take i) ++ [(5 * l.getD i 0 + 3) % 4294967296] := by
  rw [take_succ_getD _ _ h]; simp [ovl]
theorem ovIn_get {l S : List Nat} {i : Nat} (h : OvIn l S i) (hi : i < l.length) : S.getD i 0 = l.getD i 0 := by
  have e : (ovl (l.take i)).length = i := by simp [ovl]; omega
  rw [h]
  simp [List.getD_eq_getElem?_getD, List.getElem?_append_right (show (ovl (l.take i)).length ≤ i by omega), e, List.getElem?_drop]
theorem ovIn_step {l S : List Nat} {i : Nat} (h : OvIn l S i) (hi : i < l.length) : OvIn l (S.set i ((5 * l.getD i 0 + 3) % 4294967296)) (i + 1) := by
  have e : (ovl (l.take i)).length = i := by simp [ovl]; omega
  unfold OvIn at *
  rw [h, ovl_snoc hi, drop_getD _ _ hi, List.set_append_right _ _ (by omega), e]
  simp
theorem ovIn_end {l S : List Nat} (h : OvIn l S l.length) : S = ovl l := by
  rw [h]; simp

/-- the copy, and the row written over -/
def RetOver (B : Nat) (w : World) (a : Option Addr) (n c : Nat) (l : List Nat) (e : Ending) (w' : World) : Prop :=
  ∃ a' n' c', e = .returned (.slice a' n' c') ∧ Own w.heap.size w' a' n' c' (ovl l) ∧ Own B w' a n c (ovl l) ∧ Kp (fun b => a = some ⟨b, 0, none⟩) w w'

end Go.Proofs.YtdabplkilaofbaaDoor
