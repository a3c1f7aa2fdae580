/- THE FRAME's part: a fraction, and arrays of two or three, that come in, opened. -/
import Derived.Test.YtbfhnlbdpbfalaaGreatMb
import Derived.OpenShut
import Derived.ShutString
import Derived.ChangeOld
import Derived.Below
import Derived.Carry
import Derived.Lib.SmallJoins
namespace Go.Proofs.YtbfhnlbdpbfalaaGreat
set_option linter.unusedVariables false
set_option maxRecDepth 100000
open Go.ChangeShapes Go.WideShapes Go.ChangeAt Go.RowKit Go.NatP

theorem rd_ints {H : Type} {enc : TypeId × Value → H} {w : World}  {n : Nat} {v : Value} {y : DataW H × List MemPlace}
    (h : DataW.trod enc Tryz.prog w 0 (fun _ => true) true n 23 [v] = some y) : ∃ a n c l, v = .slice a n c ∧ Rd w a n c l := by
  rcases open_ints Tryz.underlying23 Tryz.underlying96 (by kernel_rfl) h with ⟨hcs, _⟩ | ⟨x, l, c, zs, hcs, _, hl, hm, hz, _, hcell, hwz⟩
  · exact ⟨none, 0, 0, [], by simpa using hcs, rd_nil _ _ _ (by simp [maxLen])⟩
  · exact ⟨some x, l, c, _, by simpa using hcs, rd_of_ints hl hm (by simpa using hz) hcell hwz⟩
theorem open_rat {H : Type} {enc : TypeId × Value → H} {w : World}  {r : Reach} {b0 : Nat} {v : Value} {d : DataW H} {p : List MemPlace}
    (hv : Value.okWide Tryz.prog w r b0 27 v) (h : DataW.Trod enc Tryz.prog w 0 (fun _ => true) true 27 v d p) :
    ∃ s a n c l b m e k, v = .agg #[.bool s, .slice a n c, .slice b m e] ∧ Rd w a n c l ∧ Rd w b m e k := by
  have c25 : Tryz.prog.cellsOf 25 = 2 := by kernel_rfl
  have c23 : Tryz.prog.cellsOf 23 = 1 := by kernel_rfl
  have c4 : Tryz.prog.cellsOf 4 = 1 := by kernel_rfl
  obtain ⟨cs, rfl, hsz⟩ := okWide_struct Tryz.underlying27 hv
  obtain ⟨x0, x1, x2, rfl⟩ := Go.Joins.array3 (hsz.trans (show Tryz.prog.cellsOf 27 = 3 by kernel_rfl))
  obtain ⟨fuel, hf⟩ := h
  obtain ⟨y0, y1, n, hx, _, h0, h1⟩ := trod_struct2 Tryz.underlying27 hf
  simp only [c25, c23] at h0 h1
  obtain ⟨z0, z1, n2, hx2, _, h2, h3⟩ := trod_struct2 Tryz.underlying25 h0
  simp only [c4, c23] at h2 h3
  obtain ⟨s, hs, -⟩ := DataW.trod_bool Tryz.underlying4 h2
  obtain ⟨a, na, c, l, ha, hR⟩ := rd_ints (v := x1) h3
  obtain ⟨b, nb, e, k, hb, hS⟩ := rd_ints (v := x2) h1
  refine ⟨s, a, na, c, l, b, nb, e, k, ?_, hR, hS⟩
  rw [ha, hb, show x0 = .bool s by simpa [Value.cells] using hs]
theorem okWide_array {n : Nat} {e t : TypeId} {r : Reach} {b0 : Nat} {v : Value} {w : World} (ht : Tryz.prog.underlying t = some (.array n e)) (h : Value.okWide Tryz.prog w r b0 t v) : ∃ cs, v = .agg cs ∧ cs.size = Tryz.prog.cellsOf t := by
  simp only [Value.okWide, ht] at h
  obtain ⟨cs, h1, h2, _⟩ := h
  exact ⟨cs, h1, h2⟩
theorem rat_cells {H : Type} {enc : TypeId × Value → H} {w : World} {fuel : Nat} {x0 x1 x2 : Value} {y : DataW H × List MemPlace}
    (h : DataW.trod enc Tryz.prog w 0 (fun _ => true) true fuel 27 [x0, x1, x2] = some y) :
    ∃ s a n c l b m e k, x0 = .bool s ∧ x1 = .slice a n c ∧ x2 = .slice b m e ∧ Rd w a n c l ∧ Rd w b m e k := by
  have c25 : Tryz.prog.cellsOf 25 = 2 := by kernel_rfl
  have c23 : Tryz.prog.cellsOf 23 = 1 := by kernel_rfl
  have c4 : Tryz.prog.cellsOf 4 = 1 := by kernel_rfl
  obtain ⟨y0, y1, n, hx, _, h0, h1⟩ := trod_struct2 Tryz.underlying27 h
  simp only [c25, c23] at h0 h1
  obtain ⟨z0, z1, n2, hx2, _, h2, h3⟩ := trod_struct2 Tryz.underlying25 h0
  simp only [c4, c23] at h2 h3
  obtain ⟨s, hs, -⟩ := DataW.trod_bool Tryz.underlying4 h2
  obtain ⟨a, na, c, l, ha, hR⟩ := rd_ints (v := x1) h3
  obtain ⟨b, nb, e, k, hb, hS⟩ := rd_ints (v := x2) h1
  exact ⟨s, a, na, c, l, b, nb, e, k, by simpa [Value.cells] using hs, ha, hb, hR, hS⟩
theorem arr6 (cs : Array Value) (h : cs.size = 6) : ∃ x0 x1 x2 x3 x4 x5, cs = #[x0, x1, x2, x3, x4, x5] := by
  obtain ⟨l⟩ := cs
  match l, h with
  | [x0, x1, x2, x3, x4, x5], _ => exact ⟨_, _, _, _, _, _, rfl⟩
theorem arr9 (cs : Array Value) (h : cs.size = 9) : ∃ x0 x1 x2 x3 x4 x5 x6 x7 x8, cs = #[x0, x1, x2, x3, x4, x5, x6, x7, x8] := by
  obtain ⟨l⟩ := cs
  match l, h with
  | [x0, x1, x2, x3, x4, x5, x6, x7, x8], _ => exact ⟨_, _, _, _, _, _, _, _, _, rfl⟩
theorem arr3 (cs : Array Value) (h : cs.size = 3) : ∃ x0 x1 x2, cs = #[x0, x1, x2] := by
  obtain ⟨l⟩ := cs
  match l, h with
  | [x0, x1, x2], _ => exact ⟨_, _, _, rfl⟩
theorem open_rat33 {H : Type} {enc : TypeId × Value → H} {w : World} {r : Reach} {b0 : Nat} {v : Value} {d : DataW H} {p : List MemPlace}
    (hv : Value.okWide Tryz.prog w r b0 28 v) (h : DataW.Trod enc Tryz.prog w 0 (fun _ => true) true 28 v d p) :
    ∃ s1 a1 n1 c1 l1 b1 m1 d1 k1 s2 a2 n2 c2 l2 b2 m2 d2 k2 s3 a3 n3 c3 l3 b3 m3 d3 k3, v = .agg #[.bool s1, .slice a1 n1 c1, .slice b1 m1 d1, .bool s2, .slice a2 n2 c2, .slice b2 m2 d2, .bool s3, .slice a3 n3 c3, .slice b3 m3 d3] ∧ Rd w a1 n1 c1 l1 ∧ Rd w b1 m1 d1 k1 ∧ Rd w a2 n2 c2 l2 ∧ Rd w b2 m2 d2 k2 ∧ Rd w a3 n3 c3 l3 ∧ Rd w b3 m3 d3 k3 := by
  have c38 : Tryz.prog.cellsOf 27 = 3 := by kernel_rfl
  obtain ⟨cs, rfl, hsz⟩ := okWide_array Tryz.underlying28 hv
  obtain ⟨x0, x1, x2, x3, x4, x5, x6, x7, x8, rfl⟩ := arr9 cs (hsz.trans (show Tryz.prog.cellsOf 28 = 9 by kernel_rfl))
  obtain ⟨fuel, hf⟩ := h
  obtain ⟨xs, m, _, hx, _, hlen, hel⟩ := DataW.trod_array Tryz.underlying28 hf
  have e0 := hel 0 (by omega)
  have e1 := hel 1 (by omega)
  have e2 := hel 2 (by omega)
  rw [c38, List.getElem?_eq_getElem (by omega)] at e0 e1 e2
  obtain ⟨s1, a1, n1, c1, l1, b1, m1, d1, k1, rfl, rfl, rfl, R1, S1⟩ := rat_cells (x0 := x0) (x1 := x1) (x2 := x2) e0
  obtain ⟨s2, a2, n2, c2, l2, b2, m2, d2, k2, rfl, rfl, rfl, R2, S2⟩ := rat_cells (x0 := x3) (x1 := x4) (x2 := x5) e1
  obtain ⟨s3, a3, n3, c3, l3, b3, m3, d3, k3, rfl, rfl, rfl, R3, S3⟩ := rat_cells (x0 := x6) (x1 := x7) (x2 := x8) e2
  exact ⟨_, _, _, _, _, _, _, _, _, _, _, _, _, _, _, _, _, _, _, _, _, _, _, _, _, _, _, rfl, R1, S1, R2, S2, R3, S3⟩
theorem open_int33 {H : Type} {enc : TypeId × Value → H} {w : World} {r : Reach} {b0 : Nat} {v : Value} {d : DataW H} {p : List MemPlace}
    (hv : Value.okWide Tryz.prog w r b0 29 v) (h : DataW.Trod enc Tryz.prog w 0 (fun _ => true) true 29 v d p) :
    ∃ a b c : Int, v = .agg #[.int .i64 a, .int .i64 b, .int .i64 c] ∧ (Lit.int .i64 a).wf = true ∧ (Lit.int .i64 b).wf = true ∧ (Lit.int .i64 c).wf = true := by
  have c3 : Tryz.prog.cellsOf 3 = 1 := by kernel_rfl
  obtain ⟨cs, rfl, hsz⟩ := okWide_array Tryz.underlying29 hv
  obtain ⟨x0, x1, x2, rfl⟩ := arr3 cs (hsz.trans (show Tryz.prog.cellsOf 29 = 3 by kernel_rfl))
  obtain ⟨fuel, hf⟩ := h
  obtain ⟨xs, m, _, hx, _, hlen, hel⟩ := DataW.trod_array Tryz.underlying29 hf
  have e0 := hel 0 (by omega)
  have e1 := hel 1 (by omega)
  have e2 := hel 2 (by omega)
  rw [c3, List.getElem?_eq_getElem (by omega)] at e0 e1 e2
  obtain ⟨a, ha, -, wa⟩ := DataW.trod_int Tryz.underlying3 e0
  obtain ⟨b, hb, -, wb⟩ := DataW.trod_int Tryz.underlying3 e1
  obtain ⟨c, hc, -, wc⟩ := DataW.trod_int Tryz.underlying3 e2
  obtain rfl : x0 = .int .i64 a := by simpa [Value.cells] using ha
  obtain rfl : x1 = .int .i64 b := by simpa [Value.cells] using hb
  obtain rfl : x2 = .int .i64 c := by simpa [Value.cells] using hc
  exact ⟨a, b, c, rfl, wa, wb, wc⟩
theorem open_bool33 {H : Type} {enc : TypeId × Value → H} {w : World} {r : Reach} {b0 : Nat} {v : Value} {d : DataW H} {p : List MemPlace}
    (hv : Value.okWide Tryz.prog w r b0 30 v) (h : DataW.Trod enc Tryz.prog w 0 (fun _ => true) true 30 v d p) :
    ∃ a b c : Bool, v = .agg #[.bool a, .bool b, .bool c] := by
  have c3 : Tryz.prog.cellsOf 4 = 1 := by kernel_rfl
  obtain ⟨cs, rfl, hsz⟩ := okWide_array Tryz.underlying30 hv
  obtain ⟨x0, x1, x2, rfl⟩ := arr3 cs (hsz.trans (show Tryz.prog.cellsOf 30 = 3 by kernel_rfl))
  obtain ⟨fuel, hf⟩ := h
  obtain ⟨xs, m, _, hx, _, hlen, hel⟩ := DataW.trod_array Tryz.underlying30 hf
  have e0 := hel 0 (by omega)
  have e1 := hel 1 (by omega)
  have e2 := hel 2 (by omega)
  rw [c3, List.getElem?_eq_getElem (by omega)] at e0 e1 e2
  obtain ⟨a, ha, -⟩ := DataW.trod_bool Tryz.underlying4 e0
  obtain ⟨b, hb, -⟩ := DataW.trod_bool Tryz.underlying4 e1
  obtain ⟨c, hc, -⟩ := DataW.trod_bool Tryz.underlying4 e2
  obtain rfl : x0 = .bool a := by simpa [Value.cells] using ha
  obtain rfl : x1 = .bool b := by simpa [Value.cells] using hb
  obtain rfl : x2 = .bool c := by simpa [Value.cells] using hc
  exact ⟨a, b, c, rfl⟩
end Go.Proofs.YtbfhnlbdpbfalaaGreat
