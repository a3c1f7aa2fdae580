/- THE FRAME's part: a fraction that comes in, opened. -/
import Derived.Test.YtennilapmcgnbaaMb
import Derived.OpenShut
import Derived.ShutString
import Derived.ChangeOld
import Derived.Below
import Derived.Carry
import Derived.Lib.SmallJoins
namespace Go.Proofs.Ytennilapmcgnbaa
set_option linter.unusedVariables false
set_option maxRecDepth 100000
open Go.ChangeShapes Go.WideShapes Go.ChangeAt Go.RowKit Go.NatP

theorem rd_ints {H : Type} {enc : TypeId × Value → H} {w : World}  {n : Nat} {v : Value} {y : DataW H × List MemPlace}
    (h : DataW.trod enc Try.prog w 0 (fun _ => true) true n 24 [v] = some y) : ∃ a n c l, v = .slice a n c ∧ Rd w a n c l := by
  rcases open_ints Try.underlying24 Try.underlying97 (by kernel_rfl) h with ⟨hcs, _⟩ | ⟨x, l, c, zs, hcs, _, hl, hm, hz, _, hcell, hwz⟩
  · exact ⟨none, 0, 0, [], by simpa using hcs, rd_nil _ _ _ (by simp [maxLen])⟩
  · exact ⟨some x, l, c, _, by simpa using hcs, rd_of_ints hl hm (by simpa using hz) hcell hwz⟩
theorem open_rat {H : Type} {enc : TypeId × Value → H} {w : World}  {r : Reach} {b0 : Nat} {v : Value} {d : DataW H} {p : List MemPlace}
    (hv : Value.okWide Try.prog w r b0 28 v) (h : DataW.Trod enc Try.prog w 0 (fun _ => true) true 28 v d p) :
    ∃ s a n c l b m e k, v = .agg #[.bool s, .slice a n c, .slice b m e] ∧ Rd w a n c l ∧ Rd w b m e k := by
  have c25 : Try.prog.cellsOf 26 = 2 := by kernel_rfl
  have c23 : Try.prog.cellsOf 24 = 1 := by kernel_rfl
  have c4 : Try.prog.cellsOf 4 = 1 := by kernel_rfl
  obtain ⟨cs, rfl, hsz⟩ := okWide_struct Try.underlying28 hv
  obtain ⟨x0, x1, x2, rfl⟩ := Go.Joins.array3 (hsz.trans (show Try.prog.cellsOf 28 = 3 by kernel_rfl))
  obtain ⟨fuel, hf⟩ := h
  obtain ⟨y0, y1, n, hx, _, h0, h1⟩ := trod_struct2 Try.underlying28 hf
  simp only [c25, c23] at h0 h1
  obtain ⟨z0, z1, n2, hx2, _, h2, h3⟩ := trod_struct2 Try.underlying26 h0
  simp only [c4, c23] at h2 h3
  obtain ⟨s, hs, -⟩ := DataW.trod_bool Try.underlying4 h2
  obtain ⟨a, na, c, l, ha, hR⟩ := rd_ints (v := x1) h3
  obtain ⟨b, nb, e, k, hb, hS⟩ := rd_ints (v := x2) h1
  refine ⟨s, a, na, c, l, b, nb, e, k, ?_, hR, hS⟩
  rw [ha, hb, show x0 = .bool s by simpa [Value.cells] using hs]
end Go.Proofs.Ytennilapmcgnbaa
