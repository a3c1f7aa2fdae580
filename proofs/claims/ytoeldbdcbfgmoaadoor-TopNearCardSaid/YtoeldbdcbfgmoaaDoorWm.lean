/- WALKS, 13: the shift, any int; the reference's shift. -/
import Derived.Test.YtoeldbdcbfgmoaaDoorWl
import Derived.StillTailTactics
namespace Go.Proofs.YtoeldbdcbfgmoaaDoor
set_option linter.unusedVariables false
open Go.ChangeShapes Go.WideShapes Go.ChangeAt Go.RowKit Go.NatP

set_option maxRecDepth 100000 in
set_option maxHeartbeats 1000000 in
theorem shift_any {w : World} {a : Option Addr} {k c : Nat} {l : List Nat} (hR : Rd w a k c l) (hk : k ≤ 8388608) (n : Int) (hlo : -9223372036854775808 ≤ n) (hhi : n ≤ 9223372036854775807) :
    Calls Tryd.prog 39 #[.slice a k c, .int .i64 n] w (RetE w (lm (shN (val l) n)) (shE n)) := by
  by_cases h1 : -262144 ≤ n ∧ n ≤ 262144
  · rw [shN, shE, if_pos h1, if_pos h1, shv]
    by_cases h0 : 0 ≤ n
    · obtain ⟨n, rfl⟩ := Int.eq_ofNat_of_zero_le h0
      rw [if_pos h0, Int.toNat_natCast]
      exact shift_up hR hk n (by omega)
    · obtain ⟨m, rfl⟩ : ∃ m : Nat, n = -(m : Int) := ⟨(-n).toNat, by omega⟩
      rw [if_neg h0, show (-(-(m : Int))).toNat = m by omega]
      exact shift_down hR hk m (by omega) (by omega)
  · have HE : Hid (shN (val l) n = 0 ∧ shE n = 3) := ⟨by rw [shN, if_neg h1], by rw [shE, if_neg h1]⟩
    have hcase : n < -262144 ∨ 262144 < n := by omega
    clear h1
    rcases hcase with h | h
    all_goals
      go_enter Tryd.func39, Tryd.ntmps39
      go_wp2
      go_ret2
      exact ⟨none, 0, 0, by rw [HE.out.2]; rfl, by rw [HE.out.1]; exact own_nil _ _, Below.refl _ _⟩

end Go.Proofs.YtoeldbdcbfgmoaaDoor
