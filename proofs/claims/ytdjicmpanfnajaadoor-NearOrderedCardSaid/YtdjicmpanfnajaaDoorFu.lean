/- WALKS OF FLOATS, 8: the reference's value of a float. -/
import Derived.Test.YtdjicmpanfnajaaDoorFs
import Derived.Test.YtdjicmpanfnajaaDoorFv
import Derived.Test.YtdjicmpanfnajaaDoorZf
namespace Go.Proofs.YtdjicmpanfnajaaDoor
set_option linter.unusedVariables false
set_option linter.unusedSimpArgs false
theorem div_gcd_zero {u v : Nat} : u / Nat.gcd u v = 0 ↔ u = 0 := by
  constructor
  · intro e
    have := Nat.div_mul_cancel (Nat.gcd_dvd_left u v)
    rw [e, Nat.zero_mul] at this
    exact this.symm
  · intro e; rw [e, Nat.zero_div]

end Go.Proofs.YtdjicmpanfnajaaDoor
