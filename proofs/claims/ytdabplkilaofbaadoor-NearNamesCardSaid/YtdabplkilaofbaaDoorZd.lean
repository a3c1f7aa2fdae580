/- WALKS OF WHOLE NUMBERS, 4: differences, signs, comparisons, equality. -/
import Derived.Test.YtdabplkilaofbaaDoorZc
namespace Go.Proofs.YtdabplkilaofbaaDoor
set_option linter.unusedVariables false
set_option linter.unusedSimpArgs false
open Go.ChangeShapes Go.WideShapes Go.ChangeAt Go.RowKit Go.NatP

theorem szNeg {s : Bool} {v k : Nat} (h : Sz v k) : Sz (-zv s v).natAbs k := by rw [Int.natAbs_neg, zv_abs]; exact h
theorem rest_neg (x : Int) (s : Bool) (v : Nat) : x - zv s v = x + zv (!s) v := by rw [zv_not]; omega

set_option maxRecDepth 100000 in
set_option maxHeartbeats 4000000 in
theorem zsign_any {w : World} {a : Option Addr} {n c : Nat} {la : List Nat} (s : Bool) (ha : Rd w a n c la) (hn : n ≤ 16777216) :
    Calls Tryd.prog 9 #[.agg #[.bool s, .slice a n c]] w (RetIb w (sgn (zv s (val la)))) := by
  by_cases h0 : val la = 0
  · rw [sgn_zero h0]
    have hnb : Hid (nb (val la) = 0) := by show _ = _; rw [h0]; rfl
    have hent := ent1 w #[Value.bool s, Value.slice a n c] 28
    go_enter Tryd.func9, Tryd.ntmps9
    go_wp2_with fail
    generalize (w.alloc (.cells #[Value.bool s, Value.slice a n c] 28)) = W0 at hent ⊢
    obtain ⟨Xa_0, hbel, hsz⟩ := hent
    have Xa_0_0 : _ = some (Value.bool s) := Xa_0.cell 0
    have Xa_0_1 : _ = some (Value.slice a n c) := Xa_0.cell 1
    have HA := hid (fun W (h : Below W0.heap.size W0 W) => ha.below (hbel.next h))
    have hza := hid ha.szv
    clear ha
    go_wp2_with fail
    refine (bits_any (HA.out _ (Below.refl _ _)) (by omega)).mono ?_
    rw [hnb.out]
    rintro e w1 ⟨rfl, hD⟩
    have hB1 : Below W0.heap.size W0 w1 := (by first | exact (hD.below _) | exact below_drew (hD.below _))
    have Xa_1 := Xa_0.next hB1
    have Xa_1_0 : _ = some (Value.bool s) := Xa_1.cell 0
    have Xa_1_1 : _ = some (Value.slice a n c) := Xa_1.cell 1
    have hbel1 := hbel.next hB1
    have hsz1 := hB1.size
    go_wp2
    go_ret
    exact ⟨rfl, hbel1⟩
  · have hnb : ((nb (val la) : Int) == 0) = false := beq_eq_false_iff_ne.2 (by have := nb_pos h0; omega)
    cases s
    · rw [sgn_pos h0]
      have hent := ent1 w #[Value.bool false, Value.slice a n c] 28
      go_enter Tryd.func9, Tryd.ntmps9
      go_wp2_with fail
      generalize (w.alloc (.cells #[Value.bool false, Value.slice a n c] 28)) = W0 at hent ⊢
      obtain ⟨Xa_0, hbel, hsz⟩ := hent
      have Xa_0_0 : _ = some (Value.bool false) := Xa_0.cell 0
      have Xa_0_1 : _ = some (Value.slice a n c) := Xa_0.cell 1
      have HA := hid (fun W (h : Below W0.heap.size W0 W) => ha.below (hbel.next h))
      have hza := hid ha.szv
      clear ha
      go_wp2_with fail
      refine (bits_any (HA.out _ (Below.refl _ _)) (by omega)).mono ?_
      rintro e w1 ⟨rfl, hD⟩
      have hB1 : Below W0.heap.size W0 w1 := (by first | exact (hD.below _) | exact below_drew (hD.below _))
      have Xa_1 := Xa_0.next hB1
      have Xa_1_0 : _ = some (Value.bool false) := Xa_1.cell 0
      have Xa_1_1 : _ = some (Value.slice a n c) := Xa_1.cell 1
      have hbel1 := hbel.next hB1
      have hsz1 := hB1.size
      go_wp2
      go_ret
      exact ⟨rfl, hbel1⟩
    · rw [sgn_neg h0]
      have hent := ent1 w #[Value.bool true, Value.slice a n c] 28
      go_enter Tryd.func9, Tryd.ntmps9
      go_wp2_with fail
      generalize (w.alloc (.cells #[Value.bool true, Value.slice a n c] 28)) = W0 at hent ⊢
      obtain ⟨Xa_0, hbel, hsz⟩ := hent
      have Xa_0_0 : _ = some (Value.bool true) := Xa_0.cell 0
      have Xa_0_1 : _ = some (Value.slice a n c) := Xa_0.cell 1
      have HA := hid (fun W (h : Below W0.heap.size W0 W) => ha.below (hbel.next h))
      have hza := hid ha.szv
      clear ha
      go_wp2_with fail
      refine (bits_any (HA.out _ (Below.refl _ _)) (by omega)).mono ?_
      rintro e w1 ⟨rfl, hD⟩
      have hB1 : Below W0.heap.size W0 w1 := (by first | exact (hD.below _) | exact below_drew (hD.below _))
      have Xa_1 := Xa_0.next hB1
      have Xa_1_0 : _ = some (Value.bool true) := Xa_1.cell 0
      have Xa_1_1 : _ = some (Value.slice a n c) := Xa_1.cell 1
      have hbel1 := hbel.next hB1
      have hsz1 := hB1.size
      go_wp2
      go_ret
      exact ⟨rfl, hbel1⟩

end Go.Proofs.YtdabplkilaofbaaDoor
