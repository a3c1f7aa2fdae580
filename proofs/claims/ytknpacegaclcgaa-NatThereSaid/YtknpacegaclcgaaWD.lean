/- WALKS, 30: a number taken into bounds. -/
import Derived.Test.YtknpacegaclcgaaWC
import Derived.Test.YtknpacegaclcgaaPm
namespace Go.Proofs.Ytknpacegaclcgaa
set_option linter.unusedVariables false
open Go.ChangeShapes Go.WideShapes Go.ChangeAt Go.RowKit Go.NatP

def RetBound (w : World) (n : Int) (e : Ending) (w' : World) : Prop := ∃ r : Nat, (r : Int) ≤ n ∧ e = .returned (.int .i64 (r : Int)) ∧ w = w'

set_option maxHeartbeats 1000000 in
theorem bound_any {w : World} (k : Int) (hlo : -9223372036854775808 ≤ k) (hhi : k ≤ 9223372036854775807) (n : Int) (h0 : 0 ≤ n) (h1 : n ≤ 1000000) :
    Calls Try.prog 56 #[.int .i64 k, .int .i64 n] w (RetBound w n) := by
  obtain ⟨n, rfl⟩ := Int.eq_ofNat_of_zero_le h0
  have ha := Int.tmod_lt_of_pos k (show (0 : Int) < (n : Int) + 1 by omega)
  have hb : -((n : Int) + 1) < k.tmod ((n : Int) + 1) := by
    have := Int.tmod_lt_of_pos (-k) (show (0 : Int) < (n : Int) + 1 by omega)
    rw [Int.neg_tmod] at this
    omega
  obtain ⟨r, hr⟩ : ∃ r, k.tmod ((n : Int) + 1) = r := ⟨_, rfl⟩
  rw [hr] at ha hb
  by_cases hneg : r < 0
  · go_enter Try.func56, Try.ntmps56
    go_wp2
    go_ret
    exact ⟨(r + n + 1).toNat, by omega, by rw [Int.toNat_of_nonneg (by omega)]; rfl, rfl⟩
  · go_enter Try.func56, Try.ntmps56
    go_wp2
    go_ret
    exact ⟨r.toNat, by omega, by rw [Int.toNat_of_nonneg (by omega)]; rfl, rfl⟩

end Go.Proofs.Ytknpacegaclcgaa
