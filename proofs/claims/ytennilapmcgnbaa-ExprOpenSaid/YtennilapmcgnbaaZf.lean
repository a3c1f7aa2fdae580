/- WALKS OF WHOLE NUMBERS, 6: numbers read; equality. -/
import Derived.Test.YtennilapmcgnbaaZe
namespace Go.Proofs.Ytennilapmcgnbaa
set_option linter.unusedVariables false
set_option linter.unusedSimpArgs false
open Go.ChangeShapes Go.WideShapes Go.ChangeAt Go.RowKit Go.NatP

/-- one whole number and an error -/
def RetZE (w : World) (z er : Int) (e : Ending) (w' : World) : Prop :=
  ∃ a n c, e = .returned (.tuple #[.agg #[.bool (decide (z < 0)), .slice a n c], .int .i64 er]) ∧ Own w.heap.size w' a n c (lm z.natAbs) ∧ Below w.heap.size w w'
theorem retze_set {w w2 : World} {z er : Int} {B g : Nat} {a : Option Addr} {n c : Nat} {v0 v1 : Value} (hO : Own B w2 a n c (lm z.natAbs)) (hB : Below w.heap.size w w2) (hg : w.heap.size ≤ g) (hgB : g < B) :
    RetZE w z er (.returned (.tuple #[.agg #[.bool (decide (z < 0)), .slice a n c], .int .i64 er])) ((w2.setCell ⟨g, 0, none⟩ v0).setCell ⟨g, 1, none⟩ v1) := by
  obtain ⟨a', n', c', he, h1, h2⟩ := retz_set (z := z) (v0 := v0) (v1 := v1) hO hB hg hgB
  cases he
  exact ⟨a, n, c, rfl, h1, h2⟩
theorem retze_nil {w w2 : World} {er : Int} {g : Nat} {v0 v1 : Value} (hB : Below w.heap.size w w2) (hg : w.heap.size ≤ g) :
    RetZE w 0 er (.returned (.tuple #[.agg #[.bool false, .slice none 0 0], .int .i64 er])) ((w2.setCell ⟨g, 0, none⟩ v0).setCell ⟨g, 1, none⟩ v1) :=
  ⟨none, 0, 0, rfl, own_nil _ _, (hB.setCell (p := ⟨g, 0, none⟩) hg v0).setCell (p := ⟨g, 1, none⟩) hg v1⟩

theorem pa_cases (l : List Nat) : paE l = 0 ∨ (paE l = 10 ∧ paN l = 0) := by
  unfold paE paN
  split
  · exact .inl rfl
  · exact .inr ⟨rfl, rfl⟩
/-- the number of a text, 0 where there is none -/
def pzZ (s : ByteArray) : Int := zv (pzB s) (paN (by' (pzR s)))
def pzE (s : ByteArray) : Int := paE (by' (pzR s))

set_option maxRecDepth 100000 in
set_option maxHeartbeats 4000000 in
theorem zparse_any {w : World} (s : ByteArray) (hs : s.size ≤ 16777216) : Calls Try.prog 59 #[.string s] w (RetZE w (pzZ s) (pzE s)) := by
  have hm : s.size ≤ maxLen := Nat.le_trans hs (by simp [maxLen])
  have hrs := pzR_size s
  have hC := hid (fun w => cutp_any (w := w) s hm)
  unfold pzZ pzE
  have hps := hid (paN_sz (pzR s) hrs)
  have hpc := pa_cases (by' (pzR s))
  have hP := hid (fun w => parse_any (w := w) (pzR s) (by omega))
  generalize pzR s = r at *
  generalize pzB s = b at *
  generalize paN (by' r) = v at *
  generalize paE (by' r) = er at *
  clear hm
  rcases hpc with rfl | ⟨rfl, rfl⟩
  · skip
    have hent := ent1 w #[Value.bool false, Value.slice none 0 0] 26
    go_enter Try.func59, Try.ntmps59
    go_wp2_with fail
    generalize (w.alloc (.cells #[Value.bool false, Value.slice none 0 0] 26)) = W0 at hent ⊢
    obtain ⟨R0_0, hbel, hsz⟩ := hent
    have R0_0_0 : _ = some (Value.bool false) := R0_0.cell 0
    have R0_0_f0 := R0_0.free 0
    have R0_0_1 : _ = some (Value.slice none 0 0) := R0_0.cell 1
    have R0_0_f1 := R0_0.free 1
    go_wp2_with fail
    refine (hC.out _).mono ?_
    rintro e w' ⟨rfl, rfl⟩
    go_wp2_with fail
    refine (hP.out _).mono ?_
    rintro e w1 ⟨ra, rn, rc, rfl, hO, hB⟩
    have hB1 : Below W0.heap.size W0 w1 := (by first | exact hB | exact below_drew hB)
    have R0_1 := R0_0.next hB1
    have R0_1_0 : _ = some (Value.bool false) := R0_1.cell 0
    have R0_1_f0 := R0_1.free 0
    have R0_1_1 : _ = some (Value.slice none 0 0) := R0_1.cell 1
    have R0_1_f1 := R0_1.free 1
    have hbel1 := hbel.next hB1
    have hsz1 := hB1.size
    go_wp2_with fail
    refine (zof_any b hO.rd (by have := len_le (l := []) hO.len hps.out; omega)).mono ?_
    rw [val_lm]
    rintro e w2 ⟨qa, qn, qc, rfl, hO2, hB⟩
    have hB2 : Below w1.heap.size w1 w2 := (by first | exact hB | exact below_drew hB)
    have R0_2 := R0_1.next hB2
    have R0_2_0 : _ = some (Value.bool false) := R0_2.cell 0
    have R0_2_f0 := R0_2.free 0
    have R0_2_1 : _ = some (Value.slice none 0 0) := R0_2.cell 1
    have R0_2_f1 := R0_2.free 1
    have hbel2 := hbel1.next hB2
    have hsz2 := hB2.size
    go_wp2
    refine bodyPost_ret (v := .tuple #[.agg #[.bool (decide (zv b v < 0)), .slice qa qn qc], .int .i64 0]) (by simp [results, Try.results59, go_sem, R0_2_0, R0_2_1]) rfl ?_
    exact retze_set hO2 hbel2 (by omega) (by omega)
  · skip
    rw [zv_zero b rfl]
    have hent := ent1 w #[Value.bool false, Value.slice none 0 0] 26
    go_enter Try.func59, Try.ntmps59
    go_wp2_with fail
    generalize (w.alloc (.cells #[Value.bool false, Value.slice none 0 0] 26)) = W0 at hent ⊢
    obtain ⟨R0_0, hbel, hsz⟩ := hent
    have R0_0_0 : _ = some (Value.bool false) := R0_0.cell 0
    have R0_0_f0 := R0_0.free 0
    have R0_0_1 : _ = some (Value.slice none 0 0) := R0_0.cell 1
    have R0_0_f1 := R0_0.free 1
    go_wp2_with fail
    refine (hC.out _).mono ?_
    rintro e w' ⟨rfl, rfl⟩
    go_wp2_with fail
    refine (hP.out _).mono ?_
    rintro e w1 ⟨ra, rn, rc, rfl, hO, hB⟩
    have hB1 : Below W0.heap.size W0 w1 := (by first | exact hB | exact below_drew hB)
    have R0_1 := R0_0.next hB1
    have R0_1_0 : _ = some (Value.bool false) := R0_1.cell 0
    have R0_1_f0 := R0_1.free 0
    have R0_1_1 : _ = some (Value.slice none 0 0) := R0_1.cell 1
    have R0_1_f1 := R0_1.free 1
    have hbel1 := hbel.next hB1
    have hsz1 := hB1.size
    go_wp2
    refine bodyPost_ret (v := .tuple #[.agg #[.bool false, .slice none 0 0], .int .i64 10]) (by simp [results, Try.results59, go_sem, R0_1_0, R0_1_1]) rfl ?_
    exact retze_nil (g := w.heap.size) hbel1 (Nat.le_refl _)

end Go.Proofs.Ytennilapmcgnbaa
