/- THE FRAME's part: a list of fractions that comes in, opened. -/
import Derived.Test.YtnbhfgpnjhbkaaaFr
import Derived.Test.YtnbhfgpnjhbkaaaQv
import Derived.Deep.Slices
namespace Go.Proofs.Ytnbhfgpnjhbkaaa
set_option linter.unusedVariables false
set_option maxRecDepth 100000
open Go.ChangeShapes Go.WideShapes Go.ChangeAt Go.RowKit Go.NatP

theorem open_rat3 {H : Type} {enc : TypeId × Value → H} {w : World} {fuel : Nat} {x0 x1 x2 : Value} {y : DataW H × List MemPlace}
    (hf : DataW.trod enc Try.prog w 0 (fun _ => true) true fuel 29 [x0, x1, x2] = some y) :
    ∃ x : QA, x0 = .bool x.s ∧ x1 = .slice x.a x.n x.c ∧ x2 = .slice x.b x.m x.d ∧ Rd w x.a x.n x.c x.l ∧ Rd w x.b x.m x.d x.k := by
  have c25 : Try.prog.cellsOf 27 = 2 := by kernel_rfl
  have c23 : Try.prog.cellsOf 25 = 1 := by kernel_rfl
  have c4 : Try.prog.cellsOf 4 = 1 := by kernel_rfl
  obtain ⟨y0, y1, n, hx, _, h0, h1⟩ := trod_struct2 Try.underlying29 hf
  simp only [c25, c23] at h0 h1
  obtain ⟨z0, z1, n2, hx2, _, h2, h3⟩ := trod_struct2 Try.underlying27 h0
  simp only [c4, c23] at h2 h3
  obtain ⟨s, hs, -⟩ := DataW.trod_bool Try.underlying4 h2
  obtain ⟨a, na, c, l, ha, hR⟩ := rd_ints (v := x1) h3
  obtain ⟨b, nb, e, k, hb, hS⟩ := rd_ints (v := x2) h1
  exact ⟨⟨s, a, na, c, l, b, nb, e, k⟩, by simpa using hs, ha, hb, hR, hS⟩
instance instQA : Inhabited QA := ⟨QA.o⟩
theorem open_rats {H : Type} {enc : TypeId × Value → H} {w : World} {v : Value} {d : DataW H} {p : List MemPlace}
    (hcv : ∀ u, v.cells.toList = [u] → v = u) (h : DataW.Trod enc Try.prog w 0 (fun _ => true) true 44 v d p) :
    ∃ a n c xs, v = .slice a n c ∧ QRow w a n xs ∧ n ≤ c ∧ c ≤ maxLen := by
  have c3 : Try.prog.cellsOf 29 = 3 := by kernel_rfl
  obtain ⟨fuel, hf⟩ := h
  rcases Go.Deep.open_slice Try.underlying44 hf with ⟨hcs, _⟩ | ⟨a, len, cap, m, n, D, Pl, hcs, hb, hl, hm, hmm, _, hx⟩
  · exact ⟨none, 0, 0, [], hcv _ hcs, fun i hi => absurd hi (Nat.not_lt_zero _), Nat.le_refl _, Nat.zero_le _⟩
  · rw [c3] at hx
    have hlm : len ≤ m := by rw [hmm]; split <;> omega
    obtain ⟨F, hF⟩ := Go.Deep.choose_lt (n := len) (α := QA) (p := fun i x => w.cell? (a.add (i * 3)) = some (.bool x.s) ∧ w.cell? ((a.add (i * 3)).add 1) = some (.slice x.a x.n x.c) ∧ w.cell? ((a.add (i * 3)).add 2) = some (.slice x.b x.m x.d) ∧ Rd w x.a x.n x.c x.l ∧ Rd w x.b x.m x.d x.k) (fun i hi => by
      obtain ⟨cs', h1, h2⟩ := hx i (by omega)
      obtain ⟨_, h3, h4⟩ := World.cells?_some h1
      match cs', h3 with
      | [x0, x1, x2], _ =>
        obtain ⟨x, rfl, rfl, rfl, hR, hS⟩ := open_rat3 h2
        refine ⟨x, ?_, h4 1 (by omega), h4 2 (by omega), hR, hS⟩
        have := h4 0 (by omega)
        simpa [Addr.add] using this)
    refine ⟨some a, len, cap, (List.range len).map F, hcv _ hcs, fun i hi => ?_, hl, hm⟩
    have hg : ((List.range len).map F).getD i QA.o = F i := by simp [List.getD_eq_getElem?_getD, hi]
    rw [hg]
    obtain ⟨f0, f1, f2, f3, f4⟩ := hF i hi
    obtain ⟨b, o, sp⟩ := a
    have hsp : sp = none := by
      have h0 := (hF 0 (by omega)).1
      simpa [Addr.add] using World.cell?_spot h0
    subst hsp
    refine ⟨f3, f4, b, o, rfl, ?_, ?_, ?_⟩
    · rw [Addr.add_lit] at f0; exact f0
    · rw [Addr.add_lit, Addr.add_lit] at f1; exact f1
    · rw [Addr.add_lit, Addr.add_lit] at f2; exact f2
end Go.Proofs.Ytnbhfgpnjhbkaaa
