/- WALKS OF WHOLE NUMBERS, 2: norms, opposites. -/
import Derived.Test.YtennilapmcgnbaaZa
namespace Go.Proofs.Ytennilapmcgnbaa
set_option linter.unusedVariables false
set_option linter.unusedSimpArgs false
open Go.ChangeShapes Go.WideShapes Go.ChangeAt Go.RowKit Go.NatP

theorem cell_set2 {w : World} {g g' i : Nat} (h : g' ≠ g) (v0 v1 : Value) : ((w.setCell ⟨g, 0, none⟩ v0).setCell ⟨g, 1, none⟩ v1).cell? ⟨g', i, none⟩ = w.cell? ⟨g', i, none⟩ :=
  World.cell?_of_block ((heap_setCell_other _ _ g' v1 h).trans (heap_setCell_other _ _ g' v0 h))

set_option maxRecDepth 100000 in
set_option maxHeartbeats 1000000 in
theorem znorm_any {w : World} {a : Option Addr} {n c : Nat} {l : List Nat} (s : Bool) (ha : Rd w a n c l) (hn : n ≤ 16777216) :
    Calls Try.prog 55 #[.agg #[.bool s, .slice a n c]] w (RetZ w (zv s (val l))) := by
  have hent := ent2 w #[Value.bool s, Value.slice a n c] #[Value.bool false, Value.slice none 0 0] 26 26
  go_enter Try.func55, Try.ntmps55
  go_wp2_with fail
  generalize ((w.alloc (.cells #[Value.bool s, Value.slice a n c] 26)).alloc (.cells #[Value.bool false, Value.slice none 0 0] 26)) = W0 at hent ⊢
  obtain ⟨Xa_0, R0_0, hbel, hsz⟩ := hent
  have Xa_0_0 : _ = some (Value.bool s) := Xa_0.cell 0
  have Xa_0_1 : _ = some (Value.slice a n c) := Xa_0.cell 1
  have R0_0_0 : _ = some (Value.bool false) := R0_0.cell 0
  have R0_0_f0 := R0_0.free 0
  have R0_0_1 : _ = some (Value.slice none 0 0) := R0_0.cell 1
  have R0_0_f1 := R0_0.free 1
  have HA := ha.below hbel
  go_wp2_with fail
  refine (zof_any s HA (by omega)).mono ?_
  rintro e w1 ⟨ra, rn, rc, rfl, hO, hB⟩
  have hB1 : Below W0.heap.size W0 w1 := (by first | exact hB | exact below_drew hB)
  have Xa_1 := Xa_0.next hB1
  have Xa_1_0 : _ = some (Value.bool s) := Xa_1.cell 0
  have Xa_1_1 : _ = some (Value.slice a n c) := Xa_1.cell 1
  have R0_1 := R0_0.next hB1
  have R0_1_0 : _ = some (Value.bool false) := R0_1.cell 0
  have R0_1_f0 := R0_1.free 0
  have R0_1_1 : _ = some (Value.slice none 0 0) := R0_1.cell 1
  have R0_1_f1 := R0_1.free 1
  have hbel1 := hbel.next hB1
  have hsz1 := hB1.size
  go_wp2
  refine bodyPost_ret (v := .agg #[.bool (decide (zv s (val l) < 0)), .slice ra rn rc]) (by simp [results, Try.results55, go_sem, R0_1_0, R0_1_1]) rfl ?_
  exact retz_set hO hbel1 (by omega) (by omega)

end Go.Proofs.Ytennilapmcgnbaa
