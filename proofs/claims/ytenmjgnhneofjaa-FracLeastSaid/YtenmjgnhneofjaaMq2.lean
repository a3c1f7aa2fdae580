/- MEMORY, 5: floors by a natural number above 0. -/
import Derived.Test.YtenmjgnhneofjaaMq
import Derived.Test.YtenmjgnhneofjaaZi
namespace Go.Proofs.Ytenmjgnhneofjaa
set_option linter.unusedVariables false
open Go.ChangeShapes Go.WideShapes Go.ChangeAt Go.RowKit Go.NatP

/-! ### floors -/
theorem floor_pos (s : Bool) (A : Nat) {B : Nat} (h : B ≠ 0) :
    (if dvE B = 0 ∧ sgn (zv s (dvR A B)) * sgn (zv false B) < 0 then zv (!(s == false)) (A / B) - 1 else zv (!(s == false)) (A / B)) = zv s A / (B : Int) ∧
    (if dvE B = 0 ∧ sgn (zv s (dvR A B)) * sgn (zv false B) < 0 then zv s (dvR A B) + zv false B else zv s (dvR A B)) = zv s A % (B : Int) := by
  rw [dvE_pos h, dvR_pos h, sgn_pos h]
  have hB : (0 : Int) < (B : Int) := by omega
  have h1 := Nat.div_add_mod A B
  have h2 := Nat.mod_lt A (show 0 < B by omega)
  have key : ∀ q r : Int, zv s A / (B : Int) = q ∧ zv s A % (B : Int) = r ↔ r + (B : Int) * q = zv s A ∧ 0 ≤ r ∧ r < (B : Int) := fun q r => Int.ediv_emod_unique hB
  have e1 : ((B * (A / B) : Nat) : Int) = (B : Int) * ((A / B : Nat) : Int) := Int.natCast_mul _ _
  have e2 : (B : Int) * (-((A / B : Nat) : Int) - 1) = -((B : Int) * ((A / B : Nat) : Int)) - B := by rw [Int.mul_sub, Int.mul_neg, Int.mul_one]
  generalize hP : (B : Int) * ((A / B : Nat) : Int) = P at *
  cases s
  · have hs := sgn_cases (zv false (A % B))
    have hz : zv false (A % B) = ((A % B : Nat) : Int) := by simp [zv]
    rw [if_neg (by omega), if_neg (by omega)]
    have := (key (zv (!(false == false)) (A / B)) (zv false (A % B))).2 (by
      have hz2 : zv false A = (A : Int) := by simp [zv]
      have hz3 : zv (!(false == false)) (A / B) = ((A / B : Nat) : Int) := by simp [zv]
      rw [hz3, hP]
      omega)
    exact ⟨this.1.symm, this.2.symm⟩
  · have hz : zv true (A % B) = -((A % B : Nat) : Int) := by simp [zv]
    have hz2 : zv true A = -(A : Int) := by simp [zv]
    have hz3 : zv (!(true == false)) (A / B) = -((A / B : Nat) : Int) := by simp [zv]
    have hz4 : zv false B = (B : Int) := by simp [zv]
    have hs := sgn_cases (zv true (A % B))
    by_cases h0 : A % B = 0
    · rw [if_neg (by omega), if_neg (by omega)]
      have := (key (zv (!(true == false)) (A / B)) (zv true (A % B))).2 (by
        rw [hz3, Int.mul_neg, hP]
        omega)
      exact ⟨this.1.symm, this.2.symm⟩
    · rw [if_pos ⟨rfl, by omega⟩, if_pos ⟨rfl, by omega⟩]
      have := (key (zv (!(true == false)) (A / B) - 1) (zv true (A % B) + zv false B)).2 (by
        rw [hz3, e2]
        omega)
      exact ⟨this.1.symm, this.2.symm⟩

section
variable {W : World} {a b : Option Addr} {n c m d u v j k : Nat} {s t : Bool} {x y : Int}
theorem zfloorR (ha : RdZ j W s a n c x) (hb : RdN k W b m d v) (hj : j ≤ 4194304) (hk : k ≤ 4194304) (hv : v ≠ 0) :
    Calls Try.prog 95 #[.agg #[.bool s, .slice a n c], .agg #[.bool false, .slice b m d]] W (RetZZ W (x / (v : Int)) (x % (v : Int)) 0) := by
  obtain ⟨u, ⟨la, ha, rfl, hn⟩, rfl⟩ := ha
  obtain ⟨lb, hb, rfl, hm⟩ := hb
  have h := zfloor_any s false ha (by omega) hb (by omega)
  rwa [(floor_pos s (val la) hv).1, (floor_pos s (val la) hv).2, dvE_pos hv] at h
end
end Go.Proofs.Ytenmjgnhneofjaa
