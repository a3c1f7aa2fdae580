/- WALKS, 18: the reference's powers. -/
import Derived.Test.YtennilapmcgnbaaWq
namespace Go.Proofs.Ytennilapmcgnbaa
set_option linter.unusedVariables false
open Go.ChangeShapes Go.WideShapes Go.ChangeAt Go.RowKit Go.NatP

/-- a slice of the call's own, from block B on, and an error -/
def RetP (B : Nat) (w : World) (l : List Nat) (er : Int) (e : Ending) (w' : World) : Prop :=
  ∃ a n c, e = .returned (.tuple #[.slice a n c, .int .i64 er]) ∧ Own B w' a n c l ∧ Below w.heap.size w w'

theorem pw_cases (v m : Nat) (hm : m ≤ 1024) : (pwN v (m : Int) = v ^ m ∧ pwE v (m : Int) = 0 ∧ nb (v ^ m) ≤ 262144) ∨ (pwN v (m : Int) = 0 ∧ pwE v (m : Int) = 12 ∧ 262144 < nb (v ^ m)) := by
  by_cases h : nb (v ^ m) ≤ 262144
  · exact .inl ⟨(pwN_ok hm rfl h).1, (pwN_ok hm rfl h).2, h⟩
  · exact .inr ⟨(pwN_big hm (by omega)).1, (pwN_big hm (by omega)).2, by omega⟩

theorem tdiv2 (m : Nat) : (m : Int).tdiv 2 = ((m / 2 : Nat) : Int) := by
  rw [Int.tdiv_eq_ediv_of_nonneg (by omega)]; omega
theorem tmod2 (m : Nat) : (m : Int).tmod 2 = ((m % 2 : Nat) : Int) := by
  rw [Int.tmod_eq_emod_of_nonneg (by omega)]; omega

theorem len_nb {x k : Nat} (h : nb x ≤ 32 * k) : (lm x).length ≤ k := by
  refine Sz.len ?_
  unfold Sz
  rw [pow_32, ← nb_le]; exact h

theorem lm_one : lm 1 = [1] := by
  rw [lm_pos (by decide)]
  rfl
theorem own_one (B : Nat) (w : World) (x : Nat) (hx : x < 4294967296) (hB : B ≤ w.heap.size) : Own B (w.alloc (.cells #[.int .u32 (x : Int)] 97)) (some ⟨w.heap.size, 0, none⟩) 1 1 [x] :=
  ⟨rfl, lim_cons hx lim_nil, by simp [encL], .inr ⟨w.heap.size, 1, #[.int .u32 (x : Int)], rfl, hB, heap_alloc_new w _, Nat.le_refl _, by simp [maxLen], rfl, by simp [encL]⟩⟩
theorem pow_small {v M : Nat} (hv : nb v < 2) (hM : 1 ≤ M) : v ^ M = v := by
  have h1 : v < 2 := by
    have h2 := lt_two_nb v
    have h3 : 2 ^ nb v ≤ 2 ^ 1 := Nat.pow_le_pow_right (by decide) (by omega)
    omega
  have h2 : v = 0 ∨ v = 1 := by omega
  rcases h2 with rfl | rfl
  · exact Nat.zero_pow (by omega)
  · exact Nat.one_pow _

end Go.Proofs.Ytennilapmcgnbaa
