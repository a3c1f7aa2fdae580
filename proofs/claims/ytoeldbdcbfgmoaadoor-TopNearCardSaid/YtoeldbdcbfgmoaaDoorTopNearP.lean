/- THE FRAME's part: a fraction that comes in, opened. -/
import Derived.Test.YtoeldbdcbfgmoaaDoorMb
import Derived.OpenShut
import Derived.ShutString
import Derived.ChangeOld
import Derived.Below
import Derived.Carry
import Derived.Lib.SmallJoins
import Derived.Test.YtoeldbdcbfgmoaaDoorTopNear
import Derived.Test.YtoeldbdcbfgmoaaDoorTie
import Derived.Test.YtoeldbdcbfgmoaaDoorCards
import Derived.SevenTiedAt
import Derived.LaidMore
import Derived.Stop.Joined
namespace Go.Proofs.YtoeldbdcbfgmoaaDoor
set_option linter.unusedVariables false
set_option maxRecDepth 100000
open Go.ChangeShapes Go.WideShapes Go.ChangeAt Go.RowKit Go.NatP

theorem rd_ints {H : Type} {enc : TypeId × Value → H} {w : World}  {n : Nat} {v : Value} {y : DataW H × List MemPlace}
    (h : DataW.trod enc Tryd.prog w 0 (fun _ => true) true n 23 [v] = some y) : ∃ a n c l, v = .slice a n c ∧ Rd w a n c l := by
  rcases open_ints Tryd.underlying23 Tryd.underlying67 (by kernel_rfl) h with ⟨hcs, _⟩ | ⟨x, l, c, zs, hcs, _, hl, hm, hz, _, hcell, hwz⟩
  · exact ⟨none, 0, 0, [], by simpa using hcs, rd_nil _ _ _ (by simp [maxLen])⟩
  · exact ⟨some x, l, c, _, by simpa using hcs, rd_of_ints hl hm (by simpa using hz) hcell hwz⟩
theorem open_rat {H : Type} {enc : TypeId × Value → H} {w : World}  {r : Reach} {b0 : Nat} {v : Value} {d : DataW H} {p : List MemPlace}
    (hv : Value.okWide Tryd.prog w r b0 27 v) (h : DataW.Trod enc Tryd.prog w 0 (fun _ => true) true 27 v d p) :
    ∃ s a n c l b m e k, v = .agg #[.bool s, .slice a n c, .slice b m e] ∧ Rd w a n c l ∧ Rd w b m e k := by
  have c25 : Tryd.prog.cellsOf 25 = 2 := by kernel_rfl
  have c23 : Tryd.prog.cellsOf 23 = 1 := by kernel_rfl
  have c4 : Tryd.prog.cellsOf 4 = 1 := by kernel_rfl
  obtain ⟨cs, rfl, hsz⟩ := okWide_struct Tryd.underlying27 hv
  obtain ⟨x0, x1, x2, rfl⟩ := Go.Joins.array3 (hsz.trans (show Tryd.prog.cellsOf 27 = 3 by kernel_rfl))
  obtain ⟨fuel, hf⟩ := h
  obtain ⟨y0, y1, n, hx, _, h0, h1⟩ := trod_struct2 Tryd.underlying27 hf
  simp only [c25, c23] at h0 h1
  obtain ⟨z0, z1, n2, hx2, _, h2, h3⟩ := trod_struct2 Tryd.underlying25 h0
  simp only [c4, c23] at h2 h3
  obtain ⟨s, hs, -⟩ := DataW.trod_bool Tryd.underlying4 h2
  obtain ⟨a, na, c, l, ha, hR⟩ := rd_ints (v := x1) h3
  obtain ⟨b, nb, e, k, hb, hS⟩ := rd_ints (v := x2) h1
  refine ⟨s, a, na, c, l, b, nb, e, k, ?_, hR, hS⟩
  rw [ha, hb, show x0 = .bool s by simpa [Value.cells] using hs]
end Go.Proofs.YtoeldbdcbfgmoaaDoor
/-
  credencetop.TopNear, THE TIED CARD: the statement answers true, where the listed variables read as the program's own text lays them.
  No condition beyond the row's own.
-/
set_option maxRecDepth 100000
namespace Go.Proofs.YtoeldbdcbfgmoaaDoor.topNearDone
open Go.ChangeShapes Go.WideShapes Go.ChangeAt Go.RowKit Go.FloatP
set_option linter.unusedVariables false

def laids : List (String × DataW Unit) := [("credence/near.long", Rows.laid_credence_near_long)]
theorem own : ownKnob Tryd.prog.godebug = none := by kernel_rfl
theorem laidOut : laidOutB Tryd.prog = true := by kernel_rfl
/-- The door's own heap meets the condition: closed facts. -/
theorem door_met (os : Os) (args : Array Value) : laidMetH Tryd.prog laids ((World.doorLaid Tryd.prog 19 os).forCall (fun _ _ => 0) ⟨#[], args, []⟩).memory :=
  laidMetH_of_parts3 (fuel := 8) (laidMet_of_run' 8 (by kernel_rfl) (by kernel_rfl)) (by kernel_rfl) (by kernel_rfl)

/-- a variable of three ints: its cells -/
theorem three_cells {W : World} {nm : String} {G : Nat} {u v z : Int} {g : Nat} {t : TypeId} {cs : Array Value} {fuel : Nat} {pl : List MemPlace} (hg : Tryd.prog.globalNamed nm = some g) (hg0 : Tryd.prog.globalNamed nm = some G) (ht : (Tryd.prog.globals[g]?).map (·.type) = some t) (ht0 : (Tryd.prog.globals[G]?).map (·.type) = some 53)
    (hv : W.var? Tryd.prog nm = some cs) (htr : DataW.trod (fun _ => ()) Tryd.prog W 0 (fun _ => true) false fuel t cs.toList = some (.agg [.lit (.int .i64 u), .lit (.int .i64 v), .lit (.int .i64 z)], pl)) :
    W.cell? ⟨G, 0, none⟩ = some (.int .i64 u) ∧ W.cell? ⟨G, 1, none⟩ = some (.int .i64 v) ∧ W.cell? ⟨G, 2, none⟩ = some (.int .i64 z) := by
  obtain rfl : g = G := Option.some.inj (hg.symm.trans hg0)
  obtain rfl : t = 53 := Option.some.inj (ht.symm.trans ht0)
  have hC : Tryd.prog.cellsOf 53 = 3 := by kernel_rfl
  have hI : Tryd.prog.cellsOf 3 = 1 := by kernel_rfl
  obtain ⟨xs, n, _, hx, hl, _, hf⟩ := DataW.trod_struct Tryd.underlying53 htr
  rw [hC] at hl
  obtain ⟨c0, c1, c2, hcs⟩ : ∃ c0 c1 c2, cs = #[c0, c1, c2] := by
    obtain ⟨l⟩ := cs
    match l, hl with
    | [c0, c1, c2], _ => exact ⟨c0, c1, c2, rfl⟩
  subst hcs
  have f0 := hf 0 _ rfl
  have f1 := hf 1 _ rfl
  have f2 := hf 2 _ rfl
  have hxs : xs.map (·.1) = [DataW.lit (.int .i64 u), DataW.lit (.int .i64 v), DataW.lit (.int .i64 z)] := (DataW.agg.inj (Prod.mk.inj hx).1).symm
  match xs, hxs with
  | [x0, x1, x2], hxs =>
    simp only [List.map_cons, List.map_nil, List.cons.injEq, and_true] at hxs
    obtain ⟨e0, e1, e2⟩ := hxs
    obtain ⟨n0, a0, b0, _⟩ := DataW.trod_int Tryd.underlying3 f0
    obtain ⟨n1, a1, b1, _⟩ := DataW.trod_int Tryd.underlying3 f1
    obtain ⟨n2, a2, b2, _⟩ := DataW.trod_int Tryd.underlying3 f2
    have i0 : c0 = .int .i64 n0 := by simpa [hI] using a0
    have i1 : c1 = .int .i64 n1 := by simpa [hI] using a1
    have i2 : c2 = .int .i64 n2 := by simpa [hI] using a2
    subst i0 i1 i2 b0 b1 b2
    have j0 : n0 = u := by simpa using e0
    have j1 : n1 = v := by simpa using e1
    have j2 : n2 = z := by simpa using e2
    subst j0 j1 j2
    unfold World.var? at hv
    rw [hg] at hv
    simp only [Option.bind_some] at hv
    cases hh : W.heap[g]? with
    | none => rw [hh] at hv; cases hv
    | some o =>
      rw [hh] at hv
      cases o with
      | cells cs T fz =>
        have hv2 : cs = _ := Option.some.inj hv
        subst hv2
        simp [World.cell?, hh]
      | _ => cases hv
theorem laid_cells {W : World} (h : laidMetH Tryd.prog laids W) : W.cell? ⟨0, 0, none⟩ = some (.int .i64 53) ∧ W.cell? ⟨0, 1, none⟩ = some (.int .i64 (-1074)) ∧ W.cell? ⟨0, 2, none⟩ = some (.int .i64 971) := by
  have h1 : laidMet Tryd.prog laids W := h
  obtain ⟨ps, ⟨g0, t0, cs0, fu0, p0, q0, hg0, ht0, hv0, htr0, _, _⟩, _⟩ := h1
  obtain ⟨a0, b0, c0⟩ := three_cells (G := 0) hg0 (by kernel_rfl) ht0 (by kernel_rfl) hv0 htr0
  exact ⟨a0, b0, c0⟩

set_option maxRecDepth 100000 in
theorem lifted (os : Os) (started : os.Started) (H : Type) (enc : TypeId × Value → H) :
    ReturnsInHanded {} Tryd.checked os 3 .any (fun w args => (Rows.topNearSpec.pre enc Tryd.prog Tryd.f3 [] false w args ∧ laidMetH Tryd.prog laids w) ∧ sizedMet enc Tryd.prog Tryd.f3 (OpenSpec.ofChange Rows.topNearSpec) false w args)
      (Rows.topNearSpec.post enc Tryd.prog Tryd.f3 false true false false) := by
  refine returnsInHanded_of_change_and (C := Tryd.checked) (X := fun w _ => laidMetH Tryd.prog laids w) (fun _ _ _ hh h => h.of_heap hh) own started (by kernel_rfl) Tryd.func3
    (ChangeSpec.witness_shaped (enc := enc) (C := Tryd.checked) (os := os) (X := fun w _ => laidMetH Tryd.prog laids w) false (World.doorLaid Tryd.prog 19 os) #[.agg #[.bool false, .slice none 0 0, .slice none 0 0], .float .f64 0] 8 rfl (World.shaped_of_RefB (by kernel_rfl) (by kernel_rfl)) (by kernel_rfl) (by kernel_rfl) (by kernel_rfl) (door_met os _)) ?_
  intro W base args ds gs before hval0 hW _ _ hL _
  have hval : ∀ (j : Nat) t v, Tryd.f3.params[j]? = some t → args[j]? = some v → Value.okWide Tryd.prog W .any base t v := hval0
  have hW' := hW
  obtain ⟨p, q, hA0, hV, rfl, hfz, hnd⟩ := hW
  have hA : DataW.TrodAll enc Tryd.prog W 0 (fun _ => true) true Tryd.f3.params.toList args.toList ds p := hA0
  rw [Tryd.params3] at hA hval
  obtain ⟨v0, vs0, d0, ds0, p0, q0, hargs, rfl, rfl, h0, r0⟩ := trodAll_cons hA
  obtain ⟨v1, vs1, d1, ds1, p1, q1, rfl, rfl, rfl, h1, r1⟩ := trodAll_cons r0
  obtain ⟨rfl, rfl, rfl⟩ := trodAll_nil r1
  obtain rfl : args = #[v0, v1] := by cases args; simp_all
  obtain ⟨rfl, rfl⟩ := trodVars_none hV
  have k0 := h0
  have lt0 : ∀ x ∈ p0, x.block < W.heap.size := by obtain ⟨m, hm⟩ := k0; exact DataW.trod_lt m _ _ _ hm
  obtain ⟨s0, a0, n0, c0, l0, b0, m0, e0, j0, rfl, R0, S0⟩ := open_rat (hval 0 27 v0 rfl rfl) h0
  obtain ⟨a1, rfl, rfl, rfl, w1⟩ := open_float Tryd.underlying28 (hval 1 28 v1 rfl rfl) h1
  clear hA0 hval0
  have hcells := laid_cells hL
  refine (topNear_walk (w := W) hcells s0 R0 S0 a1 (wf64 w1)).mono fun e W' ⟨he, bel⟩ => ?_
  subst he
  exact ⟨_, rfl, _, _, _, [], _, [], hW', trodAll_mk1 (shut_bool Tryd.underlying4 _), (trodAll_cons_mk (Below.trod laidOut (by kernel_rfl) (of_decide_eq_true (by kernel_rfl)) k0 bel lt0) (trodAll_cons_mk (shut_float Tryd.underlying28 w1) trodAll_mk0)), rfl, bel.frame _, fun h => by cases h⟩

theorem over : Rows.topNearRow.holds Tryd.pinned (OpenSpec.ofChange Rows.topNearSpec) :=
  OpenClaim.holds_of_wide 3 Tryd.f3 rfl rfl rfl rfl rfl rfl rfl ⟨rfl, rfl, rfl, rfl, rfl⟩ rfl rfl rfl rfl rfl (by kernel_rfl) Tryd.func3 (by kernel_rfl)
    (of_decide_eq_true (by kernel_rfl)) (by unfold Func.isWrapper; first | (rw [if_pos (by decide +kernel)]; kernel_rfl) | (rw [if_neg (by decide +kernel)]; exact ⟨rfl, rfl⟩))
    (fun os started H enc _ => lifted os started H enc)
end Go.Proofs.YtoeldbdcbfgmoaaDoor.topNearDone
namespace Go.Proofs.YtoeldbdcbfgmoaaDoor
open Go
theorem topNear_holds : Rows.TopNearCardSaid :=
  Claim7.holds_tied_plain_at .later [] [.wider] true (true, "3bcfeb895b082bdfc7d9f77749340b760f45e49b63ccf2071514db8a62ea6b63") false
    topNearDone.over (fun _ h => by cases h) (by kernel_rfl) (fun _ h => by cases h) topNear_row_tie rfl ⟨rfl, rfl⟩ (by kernel_rfl) rfl
    (fun f fn hf hfn => by
      obtain rfl : f = 3 := Option.some.inj ((show Tryd.prog.funcNamed "credence/credencetop.TopNear" = some 3 by kernel_rfl).symm.trans hf) |>.symm
      obtain rfl : fn = Tryd.f3 := (Option.some.inj (Tryd.func3.symm.trans hfn)).symm
      exact ⟨by kernel_rfl, fun j t ht => by
        rw [Tryd.params3] at ht
        match j, ht with
        | 0, ht => obtain rfl := Option.some.inj ht; first | rfl | kernel_rfl
        | 1, ht => obtain rfl := Option.some.inj ht; first | rfl | kernel_rfl
        | n + 2, ht => cases ht⟩)
    (by kernel_rfl)
#print axioms topNear_holds
end Go.Proofs.YtoeldbdcbfgmoaaDoor
