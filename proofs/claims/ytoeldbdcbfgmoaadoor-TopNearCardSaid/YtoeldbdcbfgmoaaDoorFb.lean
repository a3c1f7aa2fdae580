/- WALKS OF FLOATS, 1: what is no number, the sign, the place among all, the order. -/
import Derived.Test.YtoeldbdcbfgmoaaDoorRows
import Derived.Test.YtoeldbdcbfgmoaaDoorFa
import Derived.WalkKit
import Derived.ProofKit
import Derived.WalkLawsBesides
import Derived.WalkSpells
import Derived.Maps.AppendAt
import Derived.Deep.Draws
namespace Go.Proofs.YtoeldbdcbfgmoaaDoor
set_option linter.unusedVariables false
set_option linter.unusedSimpArgs false
open Go.ChangeShapes Go.WideShapes Go.ChangeAt Go.RowKit Go.FloatP

theorem hid {p : Prop} (h : p) : Hid p := h
/-- the order as the model's comparisons ask for it -/
def fcmp (x y : Nat) : Option Ordering := FloatKind.f64.format.order x y
theorem fcmp_nan {x y : Nat} (h : fnan x = true ∨ fnan y = true) : fcmp x y = none := order_nan h
theorem fcmp_num {x y : Nat} (hx : fnan x = false) (hy : fnan y = false) : fcmp x y = some (ic (fk x) (fk y)) := order_num hx hy
theorem fcmp_self (x : Nat) : (FloatKind.f64.format.order x x != some .eq) = fnan x := by
  show (fcmp x x != some .eq) = _
  cases h : fnan x
  · rw [fcmp_num h h]; unfold ic; simp
  · rw [fcmp_nan (.inl h)]; rfl

theorem f64bits (x : Nat) (w : World) : Sem.run Tryd.prog (callFunc 33 #[Value.float FloatKind.f64 x]) w = .ok (.value (.int .u64 x)) w := by kernel_rfl

set_option maxRecDepth 100000 in
theorem isnan_any {w : World} (x : Nat) : Calls Tryd.prog 29 #[.float .f64 x] w fun e w' => e = .returned (.bool (fnan x)) ∧ w' = w := by
  have h := fcmp_self x
  generalize fnan x = b at *
  go_enter Tryd.func29, Tryd.ntmps29
  go_wp2
  go_ret
  exact ⟨rfl, rfl⟩
theorem wrap64_high {x : Nat} (h : 9223372036854775808 ≤ x) (hx : x < 18446744073709551616) : wrap64 (x : Int) = x - 18446744073709551616 := by
  unfold wrap64; omega
theorem wrap64_low {x : Nat} (h : x < 9223372036854775808) : wrap64 (x : Int) = x := by
  unfold wrap64; omega
theorem fs_high {x : Nat} (h : 9223372036854775808 ≤ x) (hx : x < 18446744073709551616) : fs x = true ∧ fr x = x - 9223372036854775808 := by
  unfold fs fr
  have : x / 9223372036854775808 = 1 := by omega
  rw [this]
  exact ⟨rfl, by omega⟩
theorem fs_low {x : Nat} (h : x < 9223372036854775808) : fs x = false ∧ fr x = x := by
  unfold fs fr
  have : x / 9223372036854775808 = 0 := by omega
  rw [this]
  exact ⟨rfl, by omega⟩
theorem xor_sign {x : Nat} (h : 9223372036854775808 ≤ x) (hx : x < 18446744073709551616) : x ^^^ 2 ^ 63 = x - 9223372036854775808 := by
  have h1 : (x ^^^ 2 ^ 63) % 2 ^ 63 = x % 2 ^ 63 := by rw [Nat.xor_mod_two_pow, Nat.mod_self, Nat.xor_zero]
  have h2 : (x ^^^ 2 ^ 63) / 2 ^ 63 = 0 := by
    rw [Nat.xor_div_two_pow, show x / 2 ^ 63 = 1 by omega]; rfl
  have h3 := Nat.div_add_mod (x ^^^ 2 ^ 63) (2 ^ 63)
  rw [h2, h1] at h3
  omega
theorem negf {x : Nat} (h : 9223372036854775808 ≤ x) (hx : x < 18446744073709551616) (w : World) : Sem.run Tryd.prog (Op.unary .neg (.float .f64 x)) w = .ok (.float .f64 (x - 9223372036854775808)) w := by
  show Result.ok (Value.float .f64 (Op.negFloat .f64 x)) w = _
  rw [show Op.negFloat .f64 x = x ^^^ 2 ^ 63 from rfl, xor_sign h hx]

set_option maxRecDepth 100000 in
theorem signbit_any {w : World} (x : Nat) (hx : x < 18446744073709551616) : Calls Tryd.prog 17 #[.float .f64 x] w fun e w' => e = .returned (.bool (fs x)) ∧ w' = w := by
  have hb := f64bits x
  rcases Nat.lt_or_ge x 9223372036854775808 with h | h
  · have hw := wrap64_low h
    rw [(fs_low h).1]
    go_enter Tryd.func17, Tryd.ntmps17
    go_wp2
    go_ret
    exact ⟨by first | (rw [hw]; simp) | simp, rfl⟩
  · have hw := wrap64_high h hx
    rw [(fs_high h hx).1]
    go_enter Tryd.func17, Tryd.ntmps17
    go_wp2
    go_ret
    exact ⟨by rw [hw]; simp; omega, rfl⟩
end Go.Proofs.YtoeldbdcbfgmoaaDoor
