/- WALKS, 11: products. -/
import Derived.Test.YtdabplkilaofbaaDoorWj
namespace Go.Proofs.YtdabplkilaofbaaDoor
set_option linter.unusedVariables false
open Go.ChangeShapes Go.WideShapes Go.ChangeAt Go.RowKit Go.NatP

/-- inside row i of a product: S is S0 with x times the first k limbs added in at place i -/
def MulIn (S0 S : List Nat) (lb : List Nat) (x i k cy : Nat) : Prop :=
  val (S.take (i + k)) + cy * 4294967296 ^ (i + k) = val (S0.take (i + k)) + x * val (lb.take k) * 4294967296 ^ i ∧ ∀ t, i + k ≤ t → S.getD t 0 = S0.getD t 0

theorem mulIn_start (S0 lb : List Nat) (x i : Nat) : MulIn S0 S0 lb x i 0 0 := ⟨by simp [val], fun _ _ => rfl⟩

theorem mulIn_step {S0 S lb : List Nat} {x i k cy q t : Nat} (h : MulIn S0 S lb x i k cy) (hl : i + k < S.length)
    (ht : q + t * 4294967296 = cy + x * lb.getD k 0 + S0.getD (i + k) 0) : MulIn S0 (S.set (i + k) q) lb x i (k + 1) t := by
  refine ⟨?_, fun t' ht' => ?_⟩
  · have h1 := h.1
    rw [← Nat.add_assoc, val_set_take S (i + k) q hl, val_take_succ', val_take_succ', Nat.pow_succ]
    generalize lb.getD k 0 = y at *
    generalize S0.getD (i + k) 0 = z at *
    rw [Nat.pow_add] at h1 ⊢
    grind
  · rw [NatP.getD_set_ne _ _ _ _ (by omega)]; exact h.2 t' (by omega)

theorem mulIn_end {S0 S la lb : List Nat} {i M cy : Nat} (h : MulIn S0 S lb (la.getD i 0) i M cy) (hM : lb.length = M) (hl : i + M < S.length)
    (h0 : val (S0.take (i + M)) = val (la.take i) * val lb) : val ((S.set (i + M) cy).take (i + 1 + M)) = val (la.take (i + 1)) * val lb := by
  have h1 := h.1
  rw [show i + 1 + M = i + M + 1 by omega, val_set_take S (i + M) cy hl, h1, h0, val_take_succ', val_take_all lb _ (by omega)]
  grind

theorem limb_prod {x y : Nat} (hx : x < 4294967296) (hy : y < 4294967296) : x * y ≤ 18446744065119617025 := by
  have : x * y ≤ 4294967295 * 4294967295 := Nat.mul_le_mul (by omega) (by omega)
  omega

end Go.Proofs.YtdabplkilaofbaaDoor
