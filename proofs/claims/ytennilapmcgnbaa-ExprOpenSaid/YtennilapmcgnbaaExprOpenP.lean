/-
  credencelaw09.ExprOpen: for every input that can be read as data the statement answers true, and every argument reads afterwards as it read before.
  No condition beyond the row's own.
-/
import Derived.Test.YtennilapmcgnbaaExprOpen
import Derived.Test.YtennilapmcgnbaaFr
import Derived.Deep.Slices
import Derived.OpenShut
import Derived.ShutString
import Derived.ChangeOld
import Derived.Below
import Derived.Carry
import Derived.Lib.SmallJoins
namespace Go.Proofs.Ytennilapmcgnbaa.exprOpenDone
open Go.ChangeShapes Go.WideShapes Go.ChangeAt Go.RowKit Go.NatP
open Go.ChangeMaps (open_string shut_string)
set_option linter.unusedVariables false

set_option maxRecDepth 100000 in
theorem rd_intsT {H : Type} {enc : TypeId × Value → H} {w : World} {n : Nat} {v : Value} {y : DataW H × List MemPlace}
    (hf : DataW.trod enc Try.prog w 0 (fun _ => true) true n 24 [v] = some y) : ∃ a n c l, v = .slice a n c ∧ Rd w a n c l := by
  rcases open_ints Try.underlying24 Try.underlying97 (by kernel_rfl) hf with ⟨hcs, _⟩ | ⟨x, l, c, zs, hcs, _, hl, hm, hz, _, hcell, hwz⟩
  · exact ⟨none, 0, 0, [], by simpa using hcs, rd_nil _ _ _ (by simp [maxLen])⟩
  · exact ⟨some x, l, c, _, by simpa using hcs, rd_of_ints hl hm (by simpa using hz) hcell hwz⟩
set_option maxRecDepth 100000 in
theorem open_term4 {H : Type} {enc : TypeId × Value → H} {w : World} {fuel : Nat} {x0 x1 x2 x3 : Value} {y : DataW H × List MemPlace}
    (hf : DataW.trod enc Try.prog w 0 (fun _ => true) true fuel 38 [x0, x1, x2, x3] = some y) :
    ∃ t : TA, x0 = .int .i8 t.k ∧ x1 = .bool t.x.s ∧ x2 = .slice t.x.a t.x.n t.x.c ∧ x3 = .slice t.x.b t.x.m t.x.d ∧ Rd w t.x.a t.x.n t.x.c t.x.l ∧ Rd w t.x.b t.x.m t.x.d t.x.k := by
  have c8 : Try.prog.cellsOf 36 = 1 := by kernel_rfl
  have c3 : Try.prog.cellsOf 28 = 3 := by kernel_rfl
  have c25 : Try.prog.cellsOf 26 = 2 := by kernel_rfl
  have c23 : Try.prog.cellsOf 24 = 1 := by kernel_rfl
  have c4 : Try.prog.cellsOf 4 = 1 := by kernel_rfl
  obtain ⟨u0, u1, n0, hx0, _, g0, g1⟩ := trod_struct2 Try.underlying38 hf
  simp only [c8, c3] at g0 g1
  obtain ⟨k, hk, -, -⟩ := DataW.trod_int Try.underlying36 g0
  obtain ⟨y0, y1, n, hx, _, h0, h1⟩ := trod_struct2 Try.underlying28 g1
  simp only [c25, c23] at h0 h1
  obtain ⟨z0, z1, n2, hx2, _, h2, h3⟩ := trod_struct2 Try.underlying26 h0
  simp only [c4, c23] at h2 h3
  obtain ⟨s, hs, -⟩ := DataW.trod_bool Try.underlying4 h2
  obtain ⟨a, na, c, l, ha, hR⟩ := rd_intsT (v := x2) h3
  obtain ⟨b, nb, e, q, hb, hS⟩ := rd_intsT (v := x3) h1
  exact ⟨⟨k, ⟨s, a, na, c, l, b, nb, e, q⟩⟩, by simpa using hk, by simpa using hs, ha, hb, hR, hS⟩
set_option maxRecDepth 100000 in
theorem open_terms {H : Type} {enc : TypeId × Value → H} {w : World} {v : Value} {d : DataW H} {p : List MemPlace}
    (hcv : ∀ u, v.cells.toList = [u] → v = u) (h : DataW.Trod enc Try.prog w 0 (fun _ => true) true 22 v d p) :
    ∃ a n c xs, v = .slice a n c ∧ xs.length = n ∧ TRow w a n xs ∧ n ≤ c ∧ c ≤ maxLen := by
  have c4 : Try.prog.cellsOf 38 = 4 := by kernel_rfl
  obtain ⟨fuel, hf⟩ := h
  rcases Go.Deep.open_slice Try.underlying22 hf with ⟨hcs, _⟩ | ⟨a, len, cap, m, n, D, Pl, hcs, hb, hl, hm, hmm, _, hx⟩
  · exact ⟨none, 0, 0, [], hcv _ hcs, rfl, fun i hi => absurd hi (Nat.not_lt_zero _), Nat.le_refl _, Nat.zero_le _⟩
  · rw [c4] at hx
    have hlm : len ≤ m := by rw [hmm]; split <;> omega
    obtain ⟨F, hF⟩ := Go.Deep.choose_lt (n := len) (α := TA) (p := fun i t => w.cell? (a.add (i * 4)) = some (.int .i8 t.k) ∧ w.cell? ((a.add (i * 4)).add 1) = some (.bool t.x.s) ∧ w.cell? ((a.add (i * 4)).add 2) = some (.slice t.x.a t.x.n t.x.c) ∧ w.cell? ((a.add (i * 4)).add 3) = some (.slice t.x.b t.x.m t.x.d) ∧ Rd w t.x.a t.x.n t.x.c t.x.l ∧ Rd w t.x.b t.x.m t.x.d t.x.k) (fun i hi => by
      obtain ⟨cs', h1, h2⟩ := hx i (by omega)
      obtain ⟨_, h3, h4⟩ := World.cells?_some h1
      match cs', h3 with
      | [x0, x1, x2, x3], _ =>
        obtain ⟨t, rfl, rfl, rfl, rfl, hR, hS⟩ := open_term4 h2
        refine ⟨t, ?_, h4 1 (by omega), h4 2 (by omega), h4 3 (by omega), hR, hS⟩
        have := h4 0 (by omega)
        simpa [Addr.add] using this)
    refine ⟨some a, len, cap, (List.range len).map F, hcv _ hcs, by simp, fun i hi => ?_, hl, hm⟩
    have hg : ((List.range len).map F).getD i TA.o = F i := by simp [List.getD_eq_getElem?_getD, hi]
    rw [hg]
    obtain ⟨f0, f1, f2, f3, f4, f5⟩ := hF i hi
    obtain ⟨b, o, sp⟩ := a
    have hsp : sp = none := by
      have h0 := (hF 0 (by omega)).1
      simpa [Addr.add] using World.cell?_spot h0
    subst hsp
    refine ⟨f4, f5, b, o, rfl, ?_, ?_, ?_, ?_⟩
    · rw [Addr.add_lit] at f0; exact f0
    · rw [Addr.add_lit, Addr.add_lit] at f1; exact f1
    · rw [Addr.add_lit, Addr.add_lit] at f2; exact f2
    · rw [Addr.add_lit, Addr.add_lit] at f3; exact f3

theorem own : ownKnob Try.prog.godebug = none := by kernel_rfl
theorem laidOut : laidOutB Try.prog = true := by kernel_rfl

set_option maxRecDepth 100000 in
theorem lifted (os : Os) (started : os.Started) (H : Type) (enc : TypeId × Value → H) :
    ReturnsInHanded {} Try.checked os 3 .any (Rows.exprOpenSpec.pre6 enc Try.prog Try.f3 Rows.exprOpenRow.domain false) (Rows.exprOpenSpec.post enc Try.prog Try.f3 false true false false) := by
  refine returnsInHanded_of_change (C := Try.checked) own started (by kernel_rfl) Try.func3
    (ChangeSpec.witness6 (enc := enc) (C := Try.checked) false ⟨#[], #[.slice none 0 0, .int .i64 0, .agg #[.bool false, .slice none 0 0, .slice none 0 0]], []⟩ 8 (by kernel_rfl) (by kernel_rfl) (by kernel_rfl) (by kernel_rfl)) ?_
  intro W base args ds gs before hval0 hW hcnd _
  have hval : ∀ (j : Nat) t v, Try.f3.params[j]? = some t → args[j]? = some v → Value.okWide Try.prog W .any base t v := hval0
  have hW' := hW
  obtain ⟨p, q, hA0, hV, rfl, hfz, hnd⟩ := hW
  have hA : DataW.TrodAll enc Try.prog W 0 (fun _ => true) true Try.f3.params.toList args.toList ds p := hA0
  rw [Try.params3] at hA hval
  obtain ⟨v0, vs0, d0, ds0, p0, q0, hargs, rfl, rfl, h0, r0⟩ := trodAll_cons hA
  obtain ⟨v1, vs1, d1, ds1, p1, q1, rfl, rfl, rfl, h1, r1⟩ := trodAll_cons r0
  obtain ⟨v2, vs2, d2, ds2, p2, q2, rfl, rfl, rfl, h2, r2⟩ := trodAll_cons r1
  obtain ⟨rfl, rfl, rfl⟩ := trodAll_nil r2
  obtain rfl : args = #[v0, v1, v2] := by cases args; simp_all
  obtain ⟨rfl, rfl⟩ := trodVars_none hV
  obtain ⟨a0, len0, cap0, rfl⟩ := okWide_slice Try.underlying22 (hval 0 22 v0 rfl rfl)
  have k0 := h0
  have lt0 : ∀ x ∈ p0, x.block < W.heap.size := by obtain ⟨m, hm⟩ := k0; exact DataW.trod_lt m _ _ _ hm
  obtain ⟨b0, n0, c0, xs0, hv0, hl0, R0, hn0, hc0⟩ := open_terms (fun u h => by simpa [Value.cells] using h) h0
  obtain ⟨rfl, rfl, rfl⟩ : a0 = b0 ∧ len0 = n0 ∧ cap0 = c0 := by simpa using hv0
  subst hl0
  obtain ⟨a1, rfl, rfl, rfl, w1⟩ := open_int Try.underlying3 (hval 1 3 v1 rfl rfl) h1
  have bd1 := wf_bounds_i64 w1
  have k2 := h2
  have lt2 : ∀ x ∈ p2, x.block < W.heap.size := by obtain ⟨m, hm⟩ := k2; exact DataW.trod_lt m _ _ _ hm
  obtain ⟨s2, a2, n2, c2, l2, b2, m2, e2, j2, rfl, R2, S2⟩ := open_rat (hval 2 28 v2 rfl rfl) h2
  clear hA0 hval0
  skip
  refine (exprOpen_walk (w := W) R0 hn0 hc0 a1 bd1.1 bd1.2 s2 R2 S2).mono fun e W' ⟨he, bel⟩ => ?_
  subst he
  exact ⟨_, rfl, _, _, _, [], _, [], hW', trodAll_mk1 (shut_bool Try.underlying4 _), (trodAll_cons_mk (Below.trod laidOut (by kernel_rfl) (of_decide_eq_true (by kernel_rfl)) k0 bel lt0) (trodAll_cons_mk (shut_int Try.underlying3 w1) (trodAll_cons_mk (Below.trod laidOut (by kernel_rfl) (of_decide_eq_true (by kernel_rfl)) k2 bel lt2) trodAll_mk0))), rfl, bel.frame _, fun h => by cases h⟩

set_option maxHeartbeats 4000000 in
theorem over : Rows.exprOpenRow.holds Try.pinned (OpenSpec.ofChange Rows.exprOpenSpec) :=
  OpenClaim.holds_of_wide 3 Try.f3 rfl rfl rfl rfl rfl rfl rfl ⟨rfl, rfl, rfl, rfl, rfl⟩ rfl rfl rfl rfl rfl (by as_aux_lemma => kernel_rfl) Try.func3 (by as_aux_lemma => kernel_rfl)
    (of_decide_eq_true (by as_aux_lemma => kernel_rfl)) (by as_aux_lemma => unfold Func.isWrapper; first | (rw [if_pos (by decide +kernel)]; kernel_rfl) | (rw [if_neg (by decide +kernel)]; exact ⟨rfl, rfl⟩))
    (fun os started H enc _ => lifted os started H enc)

end Go.Proofs.Ytennilapmcgnbaa.exprOpenDone
namespace Go.Proofs.Ytennilapmcgnbaa
theorem exprOpen_holds : Rows.ExprOpenSaid := exprOpenDone.over
#print axioms exprOpen_holds
end Go.Proofs.Ytennilapmcgnbaa
