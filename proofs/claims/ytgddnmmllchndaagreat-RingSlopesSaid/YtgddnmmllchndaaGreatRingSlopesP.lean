/-
  credencelaw12.RingSlopes: for every input that can be read as data the statement answers true, and every argument reads afterwards as it read before.
  No condition beyond the row's own.
-/
import Derived.Test.YtgddnmmllchndaaGreatRingSlopes
import Derived.Test.YtgddnmmllchndaaGreatFr4
import Derived.OpenShut
import Derived.ShutString
import Derived.ChangeOld
import Derived.Below
import Derived.Carry
import Derived.Lib.SmallJoins
namespace Go.Proofs.YtgddnmmllchndaaGreat.ringSlopesDone
open Go.ChangeShapes Go.WideShapes Go.ChangeAt Go.RowKit Go.NatP
open Go.ChangeMaps (open_string shut_string)
set_option linter.unusedVariables false

theorem own : ownKnob Tryz.prog.godebug = none := by kernel_rfl
theorem laidOut : laidOutB Tryz.prog = true := by kernel_rfl

set_option maxRecDepth 100000 in
theorem lifted (os : Os) (started : os.Started) (H : Type) (enc : TypeId × Value → H) :
    ReturnsInHanded {} Tryz.checked os 6 .any (Rows.ringSlopesSpec.pre6 enc Tryz.prog Tryz.f6 Rows.ringSlopesRow.domain false) (Rows.ringSlopesSpec.post enc Tryz.prog Tryz.f6 false true false false) := by
  refine returnsInHanded_of_change (C := Tryz.checked) own started (by kernel_rfl) Tryz.func6
    (ChangeSpec.witness6 (enc := enc) (C := Tryz.checked) false ⟨#[], #[.agg #[.bool false, .slice none 0 0, .slice none 0 0, .bool false, .slice none 0 0, .slice none 0 0], .agg #[.bool false, .slice none 0 0, .slice none 0 0, .bool false, .slice none 0 0, .slice none 0 0]], []⟩ 8 (by kernel_rfl) (by kernel_rfl) (by kernel_rfl) (by kernel_rfl)) ?_
  intro W base args ds gs before hval0 hW hcnd _
  have hval : ∀ (j : Nat) t v, Tryz.f6.params[j]? = some t → args[j]? = some v → Value.okWide Tryz.prog W .any base t v := hval0
  have hW' := hW
  obtain ⟨p, q, hA0, hV, rfl, hfz, hnd⟩ := hW
  have hA : DataW.TrodAll enc Tryz.prog W 0 (fun _ => true) true Tryz.f6.params.toList args.toList ds p := hA0
  rw [Tryz.params6] at hA hval
  obtain ⟨v0, vs0, d0, ds0, p0, q0, hargs, rfl, rfl, h0, r0⟩ := trodAll_cons hA
  obtain ⟨v1, vs1, d1, ds1, p1, q1, rfl, rfl, rfl, h1, r1⟩ := trodAll_cons r0
  obtain ⟨rfl, rfl, rfl⟩ := trodAll_nil r1
  obtain rfl : args = #[v0, v1] := by cases args; simp_all
  obtain ⟨rfl, rfl⟩ := trodVars_none hV
  have k0 := h0
  have lt0 : ∀ x ∈ p0, x.block < W.heap.size := by obtain ⟨m, hm⟩ := k0; exact DataW.trod_lt m _ _ _ hm
  obtain ⟨s0_0, a0_0, n0_0, c0_0, l0_0, b0_0, m0_0, e0_0, j0_0, s0_1, a0_1, n0_1, c0_1, l0_1, b0_1, m0_1, e0_1, j0_1, rfl, R0_0, S0_0, R0_1, S0_1⟩ := open_rat2 (hval 0 57 v0 rfl rfl) h0
  have k1 := h1
  have lt1 : ∀ x ∈ p1, x.block < W.heap.size := by obtain ⟨m, hm⟩ := k1; exact DataW.trod_lt m _ _ _ hm
  obtain ⟨s1_0, a1_0, n1_0, c1_0, l1_0, b1_0, m1_0, e1_0, j1_0, s1_1, a1_1, n1_1, c1_1, l1_1, b1_1, m1_1, e1_1, j1_1, rfl, R1_0, S1_0, R1_1, S1_1⟩ := open_rat2 (hval 1 57 v1 rfl rfl) h1
  clear hA0 hval0
  skip
  refine (ringSlopes_walk (w := W) s0_0 R0_0 S0_0 s0_1 R0_1 S0_1 s1_0 R1_0 S1_0 s1_1 R1_1 S1_1).mono fun e W' ⟨he, bel⟩ => ?_
  subst he
  exact ⟨_, rfl, _, _, _, [], _, [], hW', trodAll_mk1 (shut_bool Tryz.underlying4 _), (trodAll_cons_mk (Below.trod laidOut (by kernel_rfl) (of_decide_eq_true (by kernel_rfl)) k0 bel lt0) (trodAll_cons_mk (Below.trod laidOut (by kernel_rfl) (of_decide_eq_true (by kernel_rfl)) k1 bel lt1) trodAll_mk0)), rfl, bel.frame _, fun h => by cases h⟩

theorem over : Rows.ringSlopesRow.holds Tryz.pinned (OpenSpec.ofChange Rows.ringSlopesSpec) :=
  OpenClaim.holds_of_wide 6 Tryz.f6 rfl rfl rfl rfl rfl rfl rfl ⟨rfl, rfl, rfl, rfl, rfl⟩ rfl rfl rfl rfl rfl (by kernel_rfl) Tryz.func6 (by kernel_rfl)
    (of_decide_eq_true (by kernel_rfl)) (by unfold Func.isWrapper; first | (rw [if_pos (by decide +kernel)]; kernel_rfl) | (rw [if_neg (by decide +kernel)]; exact ⟨rfl, rfl⟩))
    (fun os started H enc _ => lifted os started H enc)

end Go.Proofs.YtgddnmmllchndaaGreat.ringSlopesDone
namespace Go.Proofs.YtgddnmmllchndaaGreat
theorem ringSlopes_holds : Rows.RingSlopesSaid := ringSlopesDone.over
#print axioms ringSlopes_holds
end Go.Proofs.YtgddnmmllchndaaGreat
