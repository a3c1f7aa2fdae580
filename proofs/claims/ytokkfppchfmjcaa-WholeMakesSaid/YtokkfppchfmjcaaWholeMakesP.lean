/-
  credencelaw02.WholeMakes: for every input that can be read as data the statement answers true, and every argument reads afterwards as it read before.
  No condition beyond the row's own.
-/
import Derived.Test.YtokkfppchfmjcaaWholeMakes
import Derived.OpenShut
import Derived.ShutString
import Derived.ChangeOld
import Derived.Below
import Derived.Carry
import Derived.Lib.SmallJoins
namespace Go.Proofs.Ytokkfppchfmjcaa.wholeMakesDone
open Go.ChangeShapes Go.WideShapes Go.ChangeAt Go.RowKit Go.NatP
open Go.ChangeMaps (open_string shut_string)
set_option linter.unusedVariables false

theorem own : ownKnob Try.prog.godebug = none := by kernel_rfl
theorem laidOut : laidOutB Try.prog = true := by kernel_rfl

set_option maxRecDepth 100000 in
theorem lifted (os : Os) (started : os.Started) (H : Type) (enc : TypeId × Value → H) :
    ReturnsInHanded {} Try.checked os 3 .any (Rows.wholeMakesSpec.pre6 enc Try.prog Try.f3 Rows.wholeMakesRow.domain false) (Rows.wholeMakesSpec.post enc Try.prog Try.f3 false true false false) := by
  refine returnsInHanded_of_change (C := Try.checked) own started (by kernel_rfl) Try.func3
    (ChangeSpec.witness6 (enc := enc) (C := Try.checked) false ⟨#[], #[.agg #[.bool false, .slice none 0 0], .agg #[.bool false, .slice none 0 0]], []⟩ 8 (by kernel_rfl) (by kernel_rfl) (by kernel_rfl) (by kernel_rfl)) ?_
  intro W base args ds gs before hval0 hW hcnd _
  have hval : ∀ (j : Nat) t v, Try.f3.params[j]? = some t → args[j]? = some v → Value.okWide Try.prog W .any base t v := hval0
  have hW' := hW
  obtain ⟨p, q, hA0, hV, rfl, hfz, hnd⟩ := hW
  have hA : DataW.TrodAll enc Try.prog W 0 (fun _ => true) true Try.f3.params.toList args.toList ds p := hA0
  rw [Try.params3] at hA hval
  obtain ⟨v0, vs0, d0, ds0, p0, q0, hargs, rfl, rfl, h0, r0⟩ := trodAll_cons hA
  obtain ⟨v1, vs1, d1, ds1, p1, q1, rfl, rfl, rfl, h1, r1⟩ := trodAll_cons r0
  obtain ⟨rfl, rfl, rfl⟩ := trodAll_nil r1
  obtain rfl : args = #[v0, v1] := by cases args; simp_all
  obtain ⟨rfl, rfl⟩ := trodVars_none hV
  have k0 := h0
  have lt0 : ∀ x ∈ p0, x.block < W.heap.size := by obtain ⟨m, hm⟩ := k0; exact DataW.trod_lt m _ _ _ hm
  obtain ⟨e0, g0, y0, z0, m0, rfl, -, -, t0, u0⟩ := Go.Joins.open_agg2 Try.underlying25 (by kernel_rfl) (by kernel_rfl) (hval 0 25 v0 rfl rfl) h0
  obtain ⟨s0, hs0, -⟩ := DataW.trod_bool Try.underlying4 t0
  obtain rfl : e0 = .bool s0 := by simpa using hs0
  obtain ⟨a0, len0, cap0, l0, hg0, R0⟩ : ∃ a n c l, g0 = .slice a n c ∧ Rd W a n c l := by
    rcases open_ints Try.underlying23 Try.underlying73 (by kernel_rfl) u0 with ⟨hcs, _⟩ | ⟨x, l, c, zs, hcs, _, hl, hm, hz, _, hcell, hwz⟩
    · exact ⟨none, 0, 0, [], by simpa using hcs, rd_nil _ _ _ (by simp [maxLen])⟩
    · exact ⟨some x, l, c, _, by simpa using hcs, rd_of_ints hl hm (by simpa using hz) hcell hwz⟩
  subst hg0
  have k1 := h1
  have lt1 : ∀ x ∈ p1, x.block < W.heap.size := by obtain ⟨m, hm⟩ := k1; exact DataW.trod_lt m _ _ _ hm
  obtain ⟨e1, g1, y1, z1, m1, rfl, -, -, t1, u1⟩ := Go.Joins.open_agg2 Try.underlying25 (by kernel_rfl) (by kernel_rfl) (hval 1 25 v1 rfl rfl) h1
  obtain ⟨s1, hs1, -⟩ := DataW.trod_bool Try.underlying4 t1
  obtain rfl : e1 = .bool s1 := by simpa using hs1
  obtain ⟨a1, len1, cap1, l1, hg1, R1⟩ : ∃ a n c l, g1 = .slice a n c ∧ Rd W a n c l := by
    rcases open_ints Try.underlying23 Try.underlying73 (by kernel_rfl) u1 with ⟨hcs, _⟩ | ⟨x, l, c, zs, hcs, _, hl, hm, hz, _, hcell, hwz⟩
    · exact ⟨none, 0, 0, [], by simpa using hcs, rd_nil _ _ _ (by simp [maxLen])⟩
    · exact ⟨some x, l, c, _, by simpa using hcs, rd_of_ints hl hm (by simpa using hz) hcell hwz⟩
  subst hg1
  clear hA0 hval0
  skip
  refine (wholeMakes_walk (w := W) s0 R0 s1 R1).mono fun e W' ⟨he, bel⟩ => ?_
  subst he
  exact ⟨_, rfl, _, _, _, [], _, [], hW', trodAll_mk1 (shut_bool Try.underlying4 _), (trodAll_cons_mk (Below.trod laidOut (by kernel_rfl) (of_decide_eq_true (by kernel_rfl)) k0 bel lt0) (trodAll_cons_mk (Below.trod laidOut (by kernel_rfl) (of_decide_eq_true (by kernel_rfl)) k1 bel lt1) trodAll_mk0)), rfl, bel.frame _, fun h => by cases h⟩

set_option maxHeartbeats 4000000 in
theorem over : Rows.wholeMakesRow.holds Try.pinned (OpenSpec.ofChange Rows.wholeMakesSpec) :=
  OpenClaim.holds_of_wide 3 Try.f3 rfl rfl rfl rfl rfl rfl rfl ⟨rfl, rfl, rfl, rfl, rfl⟩ rfl rfl rfl rfl rfl (by as_aux_lemma => kernel_rfl) Try.func3 (by as_aux_lemma => kernel_rfl)
    (of_decide_eq_true (by as_aux_lemma => kernel_rfl)) (by as_aux_lemma => unfold Func.isWrapper; first | (rw [if_pos (by decide +kernel)]; kernel_rfl) | (rw [if_neg (by decide +kernel)]; exact ⟨rfl, rfl⟩))
    (fun os started H enc _ => lifted os started H enc)

end Go.Proofs.Ytokkfppchfmjcaa.wholeMakesDone
namespace Go.Proofs.Ytokkfppchfmjcaa
theorem wholeMakes_holds : Rows.WholeMakesSaid := wholeMakesDone.over
#print axioms wholeMakes_holds
end Go.Proofs.Ytokkfppchfmjcaa
