/- WALKS, 17: powers. -/
import Derived.Test.YtennilapmcgnbaaWp
import Derived.Test.YtennilapmcgnbaaPP
import Derived.Test.YtennilapmcgnbaaW1
namespace Go.Proofs.Ytennilapmcgnbaa
set_option linter.unusedVariables false
open Go.ChangeShapes Go.WideShapes Go.ChangeAt Go.RowKit Go.NatP

theorem i64_and1 (m : Nat) (h : m < 4611686018427387904) : bits BinOp.and IntKind.i64 (m : Int) 1 = ((m % 2 : Nat) : Int) := by
  show IntKind.i64.wrap ((BitVec.ofInt 64 (m : Int) &&& BitVec.ofInt 64 ((1 : Nat) : Int)).toNat : Int) = _
  rw [BitVec.toNat_and, ofInt_u64 m (by omega), ofInt_u64 1 (by omega), nat_mask1]
  simp [IntKind.wrap, IntKind.bits, IntKind.signed]
  omega

/-- a power as the answer -/
theorem pwN_ok {v m x : Nat} (hm : m ≤ 1024) (hx : v ^ m = x) (hb : nb x ≤ 262144) : pwN v (m : Int) = x ∧ pwE v (m : Int) = 0 := by
  unfold pwN pwE
  rw [Int.toNat_natCast, hx]
  rw [if_pos ⟨by omega, by omega, hb⟩, if_pos ⟨by omega, by omega⟩, if_pos hb]
  exact ⟨rfl, rfl⟩
theorem pwN_big {v m : Nat} (hm : m ≤ 1024) (hb : 262144 < nb (v ^ m)) : pwN v (m : Int) = 0 ∧ pwE v (m : Int) = 12 := by
  unfold pwN pwE
  rw [Int.toNat_natCast]
  rw [if_neg (by omega), if_pos ⟨by omega, by omega⟩, if_neg (by omega)]
  exact ⟨rfl, rfl⟩
theorem pwN_bad {v : Nat} {n : Int} (h : n < 0 ∨ 1024 < n) : pwN v n = 0 ∧ pwE v n = 3 := by
  unfold pwN pwE
  rw [if_neg (by omega), if_neg (by omega)]
  exact ⟨rfl, rfl⟩
theorem nb_lim {l : List Nat} {k : Nat} (h : Lim l) (hk : l.length ≤ k) : nb (val l) ≤ 32 * k := by
  have h1 := h.sz hk
  unfold Sz at h1
  rwa [pow_32, ← nb_le] at h1

end Go.Proofs.Ytennilapmcgnbaa
