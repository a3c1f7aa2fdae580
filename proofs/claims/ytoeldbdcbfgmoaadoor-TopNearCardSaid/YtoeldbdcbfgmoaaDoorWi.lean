/- WALKS, 9: differences. -/
import Derived.Test.YtoeldbdcbfgmoaaDoorWh
namespace Go.Proofs.YtoeldbdcbfgmoaaDoor
set_option linter.unusedVariables false
open Go.ChangeShapes Go.WideShapes Go.ChangeAt Go.RowKit Go.NatP

theorem sub_done {S la lb : List Nat} {n c : Nat} (hS : S.length = n) (hSL : Lim S) (ha : la.length = n) (haL : Lim la) (hbL : Lim lb) (hle : val lb ≤ val la)
    (h : val (S.take n) + val (lb.take n) = val (la.take n) + c * 4294967296 ^ n) : val S = val la - val lb := by
  have h1 := val_lt haL
  rw [ha] at h1
  rw [val_take_all S _ (by omega), val_take_all la _ (by omega), val_take_mod hbL, Nat.mod_eq_of_lt (by omega)] at h
  have h2 := val_lt hSL
  rw [hS] at h2
  rcases Nat.eq_zero_or_pos c with rfl | hc
  · omega
  · have : 4294967296 ^ n ≤ c * 4294967296 ^ n := Nat.le_mul_of_pos_left _ hc
    omega

/-- less: in place. -/
def RetLess (B : Nat) (w : World) (a : Option Addr) (n c r : Nat) (e : Ending) (w' : World) : Prop :=
  e = .returned (.tuple #[]) ∧ (∃ l, Own B w' a n c l ∧ val l = r) ∧ Kp (fun b => a = some ⟨b, 0, none⟩) w w'

/-- A difference, and whether there is one. -/
def RetSub (w : World) (x y : Nat) (e : Ending) (w' : World) : Prop :=
  ∃ a n c, e = .returned (.tuple #[.slice a n c, .bool (decide (y ≤ x))]) ∧ Own w.heap.size w' a n c (lm (x - y)) ∧ Below w.heap.size w w'

end Go.Proofs.YtoeldbdcbfgmoaaDoor
