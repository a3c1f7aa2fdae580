/-
  credencelaw05.NearNames, THE TIED CARD: the statement answers true, where the listed variable reads as the program's own text lays it.
  No condition beyond the row's own.
-/
import Derived.Test.YtdabplkilaofbaaDoorNearNames
import Derived.Test.YtdabplkilaofbaaDoorTie
import Derived.Test.YtdabplkilaofbaaDoorCards
import Derived.OpenShut
import Derived.ChangeOld
import Derived.Below
import Derived.Carry
import Derived.SevenTiedAt
import Derived.Lib.SmallJoins
import Derived.LaidMore
import Derived.Stop.Joined
namespace Go.Proofs.YtdabplkilaofbaaDoor.nearNamesDone
open Go.ChangeShapes Go.WideShapes Go.ChangeAt Go.RowKit
set_option linter.unusedVariables false

def laid1 : List (String × DataW Unit) := [("credence/near.long", Rows.laid_credence_near_long)]
theorem own : ownKnob Tryd.prog.godebug = none := by kernel_rfl
theorem laidOut : laidOutB Tryd.prog = true := by kernel_rfl
/-- The door's own heap meets the condition: closed facts. -/
theorem door_met (os : Os) (args : Array Value) : laidMetH Tryd.prog laid1 ((World.doorLaid Tryd.prog 14 os).forCall (fun _ _ => 0) ⟨#[], args, []⟩).memory :=
  laidMetH_of_parts3 (fuel := 8) (laidMet_of_run' 8 (by kernel_rfl) (by kernel_rfl)) (by kernel_rfl) (by kernel_rfl)

/-- what the condition says of the variable's cells -/
theorem long_cells {W : World} (h : laidMetH Tryd.prog laid1 W) : W.cell? ⟨0, 0, none⟩ = some (.int .i64 53) ∧ W.cell? ⟨0, 1, none⟩ = some (.int .i64 (-1074)) ∧ W.cell? ⟨0, 2, none⟩ = some (.int .i64 971) := by
  have h1 : laidMet Tryd.prog laid1 W := h
  obtain ⟨ps, ⟨g, t, cs, fuel, p, q, hg, ht, hv, htr, _, _⟩, _⟩ := h1
  have hg0 : Tryd.prog.globalNamed "credence/near.long" = some 0 := by kernel_rfl
  have ht0 : (Tryd.prog.globals[0]?).map (·.type) = some 33 := by kernel_rfl
  obtain rfl : g = 0 := Option.some.inj (hg.symm.trans hg0)
  obtain rfl : t = 33 := Option.some.inj (ht.symm.trans ht0)
  have hC : Tryd.prog.cellsOf 33 = 3 := by kernel_rfl
  have hI : Tryd.prog.cellsOf 3 = 1 := by kernel_rfl
  obtain ⟨xs, n, _, hx, hl, _, hf⟩ := DataW.trod_struct Tryd.underlying33 htr
  rw [hC] at hl
  obtain ⟨c0, c1, c2, hcs⟩ : ∃ c0 c1 c2, cs = #[c0, c1, c2] := by
    obtain ⟨l⟩ := cs
    match l, hl with
    | [c0, c1, c2], _ => exact ⟨c0, c1, c2, rfl⟩
  subst hcs
  have f0 := hf 0 _ rfl
  have f1 := hf 1 _ rfl
  have f2 := hf 2 _ rfl
  have hxs : xs.map (·.1) = [DataW.lit (.int .i64 53), DataW.lit (.int .i64 (-1074)), DataW.lit (.int .i64 971)] := by
    have h2 : Rows.laid_credence_near_long (H := Unit) = DataW.agg (xs.map (·.1)) := (Prod.mk.inj hx).1
    exact (DataW.agg.inj h2).symm
  match xs, hxs with
  | [x0, x1, x2], hxs =>
    simp only [List.map_cons, List.map_nil, List.cons.injEq, and_true] at hxs
    obtain ⟨e0, e1, e2⟩ := hxs
    obtain ⟨n0, a0, b0, _⟩ := DataW.trod_int Tryd.underlying3 f0
    obtain ⟨n1, a1, b1, _⟩ := DataW.trod_int Tryd.underlying3 f1
    obtain ⟨n2, a2, b2, _⟩ := DataW.trod_int Tryd.underlying3 f2
    have i0 : c0 = .int .i64 n0 := by simpa [hI] using a0
    have i1 : c1 = .int .i64 n1 := by simpa [hI] using a1
    have i2 : c2 = .int .i64 n2 := by simpa [hI] using a2
    subst i0 i1 i2 b0 b1 b2
    have j0 : n0 = 53 := by simpa using e0
    have j1 : n1 = -1074 := by simpa using e1
    have j2 : n2 = 971 := by simpa using e2
    subst j0 j1 j2
    unfold World.var? at hv
    rw [hg0] at hv
    simp only [Option.bind_some] at hv
    cases hh : W.heap[0]? with
    | none => rw [hh] at hv; cases hv
    | some o =>
      rw [hh] at hv
      cases o with
      | cells cs T fz =>
        have hv2 : cs = _ := Option.some.inj hv
        subst hv2
        simp [World.cell?, hh]
      | _ => cases hv

set_option maxRecDepth 100000 in
theorem lifted (os : Os) (started : os.Started) (H : Type) (enc : TypeId × Value → H) :
    ReturnsInHanded {} Tryd.checked os 3 .any (fun w args => (Rows.nearNamesSpec.pre enc Tryd.prog Tryd.f3 [] false w args ∧ laidMetH Tryd.prog laid1 w) ∧ sizedMet enc Tryd.prog Tryd.f3 (OpenSpec.ofChange Rows.nearNamesSpec) false w args)
      (Rows.nearNamesSpec.post enc Tryd.prog Tryd.f3 false true false false) := by
  refine returnsInHanded_of_change_and (C := Tryd.checked) (X := fun w _ => laidMetH Tryd.prog laid1 w) (fun _ _ _ hh h => h.of_heap hh) own started (by kernel_rfl) Tryd.func3
    (ChangeSpec.witness_shaped (enc := enc) (C := Tryd.checked) (os := os) (X := fun w _ => laidMetH Tryd.prog laid1 w) false (World.doorLaid Tryd.prog 14 os) #[] 8 rfl (World.shaped_of_RefB (by kernel_rfl) (by kernel_rfl)) (by kernel_rfl) (by kernel_rfl) (by kernel_rfl) (door_met os _)) ?_
  intro W base args ds gs before hval0 hW _ _ hL _
  have hval : ∀ (j : Nat) t v, Tryd.f3.params[j]? = some t → args[j]? = some v → Value.okWide Tryd.prog W .any base t v := hval0
  have hW' := hW
  obtain ⟨p, q, hA0, hV, rfl, hfz, hnd⟩ := hW
  have hA : DataW.TrodAll enc Tryd.prog W 0 (fun _ => true) true Tryd.f3.params.toList args.toList ds p := hA0
  rw [Tryd.params3] at hA hval
  obtain ⟨hargs, rfl, rfl⟩ := trodAll_nil hA
  obtain rfl : args = #[] := by cases args; simp_all
  obtain ⟨rfl, rfl⟩ := trodVars_none hV
  clear hA0 hval0
  obtain ⟨g0, g1, g2⟩ := long_cells hL
  refine (nearNames_walk (w := W) g0 g1 g2).mono fun e W' ⟨he, bel⟩ => ?_
  subst he
  exact ⟨_, rfl, _, _, _, [], _, [], hW', trodAll_mk1 (shut_bool Tryd.underlying4 _), trodAll_mk0, rfl, bel.frame _, fun h => by cases h⟩

theorem over : Rows.nearNamesRow.holds Tryd.pinned (OpenSpec.ofChange Rows.nearNamesSpec) :=
  OpenClaim.holds_of_wide 3 Tryd.f3 rfl rfl rfl rfl rfl rfl rfl ⟨rfl, rfl, rfl, rfl, rfl⟩ rfl rfl rfl rfl rfl (by kernel_rfl) Tryd.func3 (by kernel_rfl)
    (of_decide_eq_true (by kernel_rfl)) (by unfold Func.isWrapper; first | (rw [if_pos (by decide +kernel)]; kernel_rfl) | (rw [if_neg (by decide +kernel)]; exact ⟨rfl, rfl⟩))
    (fun os started H enc _ => lifted os started H enc)
end Go.Proofs.YtdabplkilaofbaaDoor.nearNamesDone
namespace Go.Proofs.YtdabplkilaofbaaDoor
open Go
theorem nearNames_holds : Rows.NearNamesCardSaid :=
  Claim7.holds_tied_plain_at .later [] [.wider] true (true, "28c76bd2039bc55cf14af34ac1102b3c55bcc599b432dbe7896254512b083304") false
    nearNamesDone.over (fun _ h => by cases h) (by kernel_rfl) (fun _ h => by cases h) nearNames_row_tie rfl ⟨rfl, rfl⟩ (by kernel_rfl) rfl
    (fun f fn hf hfn => by
      obtain rfl : f = 3 := Option.some.inj ((show Tryd.prog.funcNamed "credence/credencelaw05.NearNames" = some 3 by kernel_rfl).symm.trans hf) |>.symm
      obtain rfl : fn = Tryd.f3 := (Option.some.inj (Tryd.func3.symm.trans hfn)).symm
      exact ⟨by kernel_rfl, fun j t ht => by
        rw [Tryd.params3] at ht
        simp at ht⟩)
    (by kernel_rfl)
#print axioms nearNames_holds
end Go.Proofs.YtdabplkilaofbaaDoor
