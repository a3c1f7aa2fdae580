/- WALKS, 18: the reference's powers. -/
import Derived.Test.YtnpkmlpmeeidbaaRWq
namespace Go.Proofs.Ytnpkmlpmeeidbaa
set_option linter.unusedVariables false
open Go.ChangeShapes Go.WideShapes Go.ChangeAt Go.RowKit Go.NatP

theorem own_one (B : Nat) (w : World) (x : Nat) (hx : x < 4294967296) (hB : B ≤ w.heap.size) : Own B (w.alloc (.cells #[.int .u32 (x : Int)] 39)) (some ⟨w.heap.size, 0, none⟩) 1 1 [x] :=
  ⟨rfl, lim_cons hx lim_nil, by simp [encL], .inr ⟨w.heap.size, 1, #[.int .u32 (x : Int)], rfl, hB, heap_alloc_new w _, Nat.le_refl _, by simp [maxLen], rfl, by simp [encL]⟩⟩
theorem pow_any {w : World} {a : Option Addr} {k c : Nat} {l : List Nat} (hR : Rd w a k c l) (hk : k ≤ 4096) (n : Int) :
    Calls Try.prog 60 #[.slice a k c, .int .i64 n] w (RetE w (lm (pwN (val l) n)) (pwE (val l) n)) := by
  by_cases h : 0 ≤ n ∧ n ≤ 1024
  · obtain ⟨m, rfl⟩ := Int.eq_ofNat_of_zero_le h.1
    exact pow_good hR hk m (by omega)
  · exact pow_bad n (by omega)
end Go.Proofs.Ytnpkmlpmeeidbaa
