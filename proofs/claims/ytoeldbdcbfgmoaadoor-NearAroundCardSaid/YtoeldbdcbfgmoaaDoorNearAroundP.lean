/-
  credencelaw05.NearAround, THE TIED CARD: the statement answers true, where the listed variables read as the program's own text lays them.
  No condition beyond the row's own.
-/
import Derived.Test.YtoeldbdcbfgmoaaDoorNearAround
import Derived.Test.YtoeldbdcbfgmoaaDoorTie
import Derived.Test.YtoeldbdcbfgmoaaDoorCards
import Derived.OpenShut
import Derived.ChangeOld
import Derived.Below
import Derived.Carry
import Derived.SevenTiedAt
import Derived.Lib.SmallJoins
import Derived.LaidMore
import Derived.Stop.Joined
import Derived.Test.YtoeldbdcbfgmoaaDoorFr
set_option maxRecDepth 100000
namespace Go.Proofs.YtoeldbdcbfgmoaaDoor.nearAroundDone
open Go.ChangeShapes Go.WideShapes Go.ChangeAt Go.RowKit Go.FloatP
set_option linter.unusedVariables false

def laids : List (String × DataW Unit) := [("credence/near.long", Rows.laid_credence_near_long), ("credence/near.short", Rows.laid_credence_near_short)]
theorem own : ownKnob Tryd.prog.godebug = none := by kernel_rfl
theorem laidOut : laidOutB Tryd.prog = true := by kernel_rfl
/-- The door's own heap meets the condition: closed facts. -/
theorem door_met (os : Os) (args : Array Value) : laidMetH Tryd.prog laids ((World.doorLaid Tryd.prog 19 os).forCall (fun _ _ => 0) ⟨#[], args, []⟩).memory :=
  laidMetH_of_parts3 (fuel := 8) (laidMet_of_run' 8 (by kernel_rfl) (by kernel_rfl)) (by kernel_rfl) (by kernel_rfl)

/-- a variable of three ints: its cells -/
theorem three_cells {W : World} {nm : String} {G : Nat} {u v z : Int} {g : Nat} {t : TypeId} {cs : Array Value} {fuel : Nat} {pl : List MemPlace} (hg : Tryd.prog.globalNamed nm = some g) (hg0 : Tryd.prog.globalNamed nm = some G) (ht : (Tryd.prog.globals[g]?).map (·.type) = some t) (ht0 : (Tryd.prog.globals[G]?).map (·.type) = some 53)
    (hv : W.var? Tryd.prog nm = some cs) (htr : DataW.trod (fun _ => ()) Tryd.prog W 0 (fun _ => true) false fuel t cs.toList = some (.agg [.lit (.int .i64 u), .lit (.int .i64 v), .lit (.int .i64 z)], pl)) :
    W.cell? ⟨G, 0, none⟩ = some (.int .i64 u) ∧ W.cell? ⟨G, 1, none⟩ = some (.int .i64 v) ∧ W.cell? ⟨G, 2, none⟩ = some (.int .i64 z) := by
  obtain rfl : g = G := Option.some.inj (hg.symm.trans hg0)
  obtain rfl : t = 53 := Option.some.inj (ht.symm.trans ht0)
  have hC : Tryd.prog.cellsOf 53 = 3 := by kernel_rfl
  have hI : Tryd.prog.cellsOf 3 = 1 := by kernel_rfl
  obtain ⟨xs, n, _, hx, hl, _, hf⟩ := DataW.trod_struct Tryd.underlying53 htr
  rw [hC] at hl
  obtain ⟨c0, c1, c2, hcs⟩ : ∃ c0 c1 c2, cs = #[c0, c1, c2] := by
    obtain ⟨l⟩ := cs
    match l, hl with
    | [c0, c1, c2], _ => exact ⟨c0, c1, c2, rfl⟩
  subst hcs
  have f0 := hf 0 _ rfl
  have f1 := hf 1 _ rfl
  have f2 := hf 2 _ rfl
  have hxs : xs.map (·.1) = [DataW.lit (.int .i64 u), DataW.lit (.int .i64 v), DataW.lit (.int .i64 z)] := (DataW.agg.inj (Prod.mk.inj hx).1).symm
  match xs, hxs with
  | [x0, x1, x2], hxs =>
    simp only [List.map_cons, List.map_nil, List.cons.injEq, and_true] at hxs
    obtain ⟨e0, e1, e2⟩ := hxs
    obtain ⟨n0, a0, b0, _⟩ := DataW.trod_int Tryd.underlying3 f0
    obtain ⟨n1, a1, b1, _⟩ := DataW.trod_int Tryd.underlying3 f1
    obtain ⟨n2, a2, b2, _⟩ := DataW.trod_int Tryd.underlying3 f2
    have i0 : c0 = .int .i64 n0 := by simpa [hI] using a0
    have i1 : c1 = .int .i64 n1 := by simpa [hI] using a1
    have i2 : c2 = .int .i64 n2 := by simpa [hI] using a2
    subst i0 i1 i2 b0 b1 b2
    have j0 : n0 = u := by simpa using e0
    have j1 : n1 = v := by simpa using e1
    have j2 : n2 = z := by simpa using e2
    subst j0 j1 j2
    unfold World.var? at hv
    rw [hg] at hv
    simp only [Option.bind_some] at hv
    cases hh : W.heap[g]? with
    | none => rw [hh] at hv; cases hv
    | some o =>
      rw [hh] at hv
      cases o with
      | cells cs T fz =>
        have hv2 : cs = _ := Option.some.inj hv
        subst hv2
        simp [World.cell?, hh]
      | _ => cases hv
theorem laid_cells {W : World} (h : laidMetH Tryd.prog laids W) : W.cell? ⟨0, 0, none⟩ = some (.int .i64 53) ∧ W.cell? ⟨0, 1, none⟩ = some (.int .i64 (-1074)) ∧ W.cell? ⟨0, 2, none⟩ = some (.int .i64 971) ∧ W.cell? ⟨2, 0, none⟩ = some (.int .i64 24) ∧ W.cell? ⟨2, 1, none⟩ = some (.int .i64 (-149)) ∧ W.cell? ⟨2, 2, none⟩ = some (.int .i64 104) := by
  have h1 : laidMet Tryd.prog laids W := h
  obtain ⟨ps, ⟨g0, t0, cs0, fu0, p0, q0, hg0, ht0, hv0, htr0, ⟨g1, t1, cs1, fu1, p1, q1, hg1, ht1, hv1, htr1, _, _⟩, _⟩, _⟩ := h1
  obtain ⟨a0, b0, c0⟩ := three_cells (G := 0) hg0 (by kernel_rfl) ht0 (by kernel_rfl) hv0 htr0
  obtain ⟨a1, b1, c1⟩ := three_cells (G := 2) hg1 (by kernel_rfl) ht1 (by kernel_rfl) hv1 htr1
  exact ⟨a0, b0, c0, a1, b1, c1⟩

set_option maxRecDepth 100000 in
theorem lifted (os : Os) (started : os.Started) (H : Type) (enc : TypeId × Value → H) :
    ReturnsInHanded {} Tryd.checked os 5 .any (fun w args => (Rows.nearAroundSpec.pre enc Tryd.prog Tryd.f5 [] false w args ∧ laidMetH Tryd.prog laids w) ∧ sizedMet enc Tryd.prog Tryd.f5 (OpenSpec.ofChange Rows.nearAroundSpec) false w args)
      (Rows.nearAroundSpec.post enc Tryd.prog Tryd.f5 false true false false) := by
  refine returnsInHanded_of_change_and (C := Tryd.checked) (X := fun w _ => laidMetH Tryd.prog laids w) (fun _ _ _ hh h => h.of_heap hh) own started (by kernel_rfl) Tryd.func5
    (ChangeSpec.witness_shaped (enc := enc) (C := Tryd.checked) (os := os) (X := fun w _ => laidMetH Tryd.prog laids w) false (World.doorLaid Tryd.prog 19 os) #[.agg #[.bool false, .slice none 0 0, .slice none 0 0]] 8 rfl (World.shaped_of_RefB (by kernel_rfl) (by kernel_rfl)) (by kernel_rfl) (by kernel_rfl) (by kernel_rfl) (door_met os _)) ?_
  intro W base args ds gs before hval0 hW _ _ hL _
  have hval : ∀ (j : Nat) t v, Tryd.f5.params[j]? = some t → args[j]? = some v → Value.okWide Tryd.prog W .any base t v := hval0
  have hW' := hW
  obtain ⟨p, q, hA0, hV, rfl, hfz, hnd⟩ := hW
  have hA : DataW.TrodAll enc Tryd.prog W 0 (fun _ => true) true Tryd.f5.params.toList args.toList ds p := hA0
  rw [Tryd.params5] at hA hval
  obtain ⟨v0, vs0, d0, ds0, p0, q0, hargs, rfl, rfl, h0, r0⟩ := trodAll_cons hA
  obtain ⟨rfl, rfl, rfl⟩ := trodAll_nil r0
  obtain rfl : args = #[v0] := by cases args; simp_all
  obtain ⟨rfl, rfl⟩ := trodVars_none hV
  have k0 := h0
  have lt0 : ∀ x ∈ p0, x.block < W.heap.size := by obtain ⟨m, hm⟩ := k0; exact DataW.trod_lt m _ _ _ hm
  obtain ⟨s0, a0, n0, c0, l0, b0, m0, e0, j0, rfl, R0, S0⟩ := open_rat (hval 0 27 v0 rfl rfl) h0
  clear hA0 hval0
  have hcells := laid_cells hL
  refine (nearAround_walk (w := W) hcells s0 R0 S0).mono fun e W' ⟨he, bel⟩ => ?_
  subst he
  exact ⟨_, rfl, _, _, _, [], _, [], hW', trodAll_mk1 (shut_bool Tryd.underlying4 _), (trodAll_cons_mk (Below.trod laidOut (by kernel_rfl) (of_decide_eq_true (by kernel_rfl)) k0 bel lt0) trodAll_mk0), rfl, bel.frame _, fun h => by cases h⟩

theorem over : Rows.nearAroundRow.holds Tryd.pinned (OpenSpec.ofChange Rows.nearAroundSpec) :=
  OpenClaim.holds_of_wide 5 Tryd.f5 rfl rfl rfl rfl rfl rfl rfl ⟨rfl, rfl, rfl, rfl, rfl⟩ rfl rfl rfl rfl rfl (by kernel_rfl) Tryd.func5 (by kernel_rfl)
    (of_decide_eq_true (by kernel_rfl)) (by unfold Func.isWrapper; first | (rw [if_pos (by decide +kernel)]; kernel_rfl) | (rw [if_neg (by decide +kernel)]; exact ⟨rfl, rfl⟩))
    (fun os started H enc _ => lifted os started H enc)
end Go.Proofs.YtoeldbdcbfgmoaaDoor.nearAroundDone
namespace Go.Proofs.YtoeldbdcbfgmoaaDoor
open Go
theorem nearAround_holds : Rows.NearAroundCardSaid :=
  Claim7.holds_tied_plain_at .later [] [.wider, .wider] true (true, "3bcfeb895b082bdfc7d9f77749340b760f45e49b63ccf2071514db8a62ea6b63") false
    nearAroundDone.over (fun _ h => by cases h) (by kernel_rfl) (fun _ h => by cases h) nearAround_row_tie rfl ⟨rfl, rfl⟩ (by kernel_rfl) rfl
    (fun f fn hf hfn => by
      obtain rfl : f = 5 := Option.some.inj ((show Tryd.prog.funcNamed "credence/credencelaw05.NearAround" = some 5 by kernel_rfl).symm.trans hf) |>.symm
      obtain rfl : fn = Tryd.f5 := (Option.some.inj (Tryd.func5.symm.trans hfn)).symm
      exact ⟨by kernel_rfl, fun j t ht => by
        rw [Tryd.params5] at ht
        match j, ht with
        | 0, ht => obtain rfl := Option.some.inj ht; first | rfl | kernel_rfl
        | n + 1, ht => cases ht⟩)
    (by kernel_rfl)
#print axioms nearAround_holds
end Go.Proofs.YtoeldbdcbfgmoaaDoor
