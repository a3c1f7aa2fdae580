/- WALKS OF RINGS, 3: a sum of yes and no, an empty product of ints. -/
import Derived.Test.YtokkfppchfmjcaaGreatMz
namespace Go.Proofs.YtokkfppchfmjcaaGreat
set_option linter.unusedVariables false
set_option linter.unusedSimpArgs false
open Go.ChangeShapes Go.WideShapes Go.ChangeAt Go.RowKit Go.NatP

set_option maxRecDepth 100000 in
set_option maxHeartbeats 4000000 in
theorem kboolsadd {w : World} (p q : Bool) : Calls Tryz.prog 205 #[.agg #[], .bool p, .bool q] w (fun e w' => e = .returned (.bool (p || q)) ∧ Below w.heap.size w w') := by
  have hent := ent1 w #[] 77
  go_enter Tryz.func205, Tryz.ntmps205
  cases p
  · go_wp2
    go_ret
    exact ⟨rfl, hent.2.1⟩
  · go_wp2
    go_ret
    exact ⟨rfl, hent.2.1⟩

set_option maxRecDepth 100000 in
set_option maxHeartbeats 8000000 in
theorem kfoldb {w : World} {g : Nat} (hb : Blk w g #[.bool false, .bool true]) : Calls Tryz.prog 75 #[.bool false, .slice (some ⟨g, 0, none⟩) 2 2, .func (.method "Add") #[.iface 77 (.agg #[])] #[]] w (fun e w' => e = .returned (.bool true) ∧ Below w.heap.size w w') := by
  have hm : ∀ w : World, (method 321 77 (.agg #[]) "Add").run Tryz.prog w = .ok (205, .agg #[]) w := fun _ => by kernel_rfl
  have HB := hid (fun W (h : Below w.heap.size w W) => hb.next h)
  clear hb
  go_enter Tryz.func75, Tryz.ntmps75
  go_wp2_with fail
  refine wp_loop_rounds 3 ?_
  rw [rounds_succ]
  have c0 : _ = some (Value.bool false) := (HB.out _ (Below.refl _ _)).cell 0
  go_wp2_with fail
  refine (kboolsadd false false).mono ?_
  rintro e w1 ⟨rfl, hB1⟩
  have hB1 : Below w.heap.size w w1 := hB1
  go_wp2_with fail
  rw [rounds_succ]
  have c1 : _ = some (Value.bool true) := (HB.out _ hB1).cell 1
  go_wp2_with fail
  refine (kboolsadd false true).mono ?_
  rintro e w2 ⟨rfl, hB2⟩
  have hB2 := hB1.next hB2
  go_wp2_with fail
  rw [rounds_succ]
  go_wp2
  go_ret
  exact ⟨rfl, hB2⟩

set_option maxRecDepth 100000 in
set_option maxHeartbeats 8000000 in
theorem kfoldi {w : World} : Calls Tryz.prog 76 #[.int .i64 1, .slice none 0 0, .func (.method "Mul") #[.iface 79 (.agg #[])] #[]] w (fun e w' => e = .returned (.int .i64 1) ∧ Below w.heap.size w w') := by
  go_enter Tryz.func76, Tryz.ntmps76
  go_wp2_with fail
  refine wp_loop_rounds 1 ?_
  rw [rounds_succ]
  go_wp2
  go_ret
  exact ⟨rfl, Below.refl _ _⟩

set_option maxRecDepth 100000 in
set_option maxHeartbeats 8000000 in
theorem kboolszero {w : World} : Calls Tryz.prog 208 #[.agg #[]] w (fun e w' => e = .returned (.bool false) ∧ Below w.heap.size w w') := by
  have hent := ent1 w #[] 77
  go_enter Tryz.func208, Tryz.ntmps208
  go_wp2
  go_ret
  exact ⟨rfl, hent.2.1⟩
theorem kintsone {w : World} : Calls Tryz.prog 211 #[.agg #[]] w (fun e w' => e = .returned (.int .i64 1) ∧ Below w.heap.size w w') := by
  have hent := ent1 w #[] 79
  go_enter Tryz.func211, Tryz.ntmps211
  go_wp2
  go_ret
  exact ⟨rfl, hent.2.1⟩

set_option maxRecDepth 100000 in
set_option maxHeartbeats 8000000 in
theorem ksumb {w : World} {g : Nat} (hb : Blk w g #[.bool false, .bool true]) : Calls Tryz.prog 38 #[.iface 77 (.agg #[]), .slice (some ⟨g, 0, none⟩) 2 2] w (fun e w' => e = .returned (.bool true) ∧ Below w.heap.size w w') := by
  have hm : ∀ w : World, (method 321 77 (.agg #[]) "Zero").run Tryz.prog w = .ok (208, .agg #[]) w := fun _ => by kernel_rfl
  have HB := hid (fun W (h : Below w.heap.size w W) => hb.next h)
  clear hb
  have hb0 : Below w.heap.size w w := Below.refl _ _
  go_enter Tryz.func38, Tryz.ntmps38
  go_wp2_with fail
  go_region_held3 (fun _ => True)
    (first | exact trivial | go_keep)
    (first
      | (go_at_call 208; ((with_reducible refine kboolszero.mono ?_); (rintro e w1 ⟨rfl, hB1⟩; have hb1 : Below w.heap.size w w1 := (by first | exact hB1 | exact below_drew hB1))))
      | (go_at_call 75; ((with_reducible refine (kfoldb (HB.out _ (by first | exact hb1 | exact hb1.drew))).mono ?_); (rintro e w2 ⟨rfl, hB2⟩; have hb2 : Below w.heap.size w w2 := (by first | exact hb1.next hB2 | exact hb1.next (below_drew hB2))))))
  all_goals (go_wp2; go_ret; exact ⟨rfl, hb2⟩)

set_option maxRecDepth 100000 in
set_option maxHeartbeats 8000000 in
theorem kprodi {w : World} : Calls Tryz.prog 39 #[.iface 79 (.agg #[]), .slice none 0 0] w (fun e w' => e = .returned (.int .i64 1) ∧ Below w.heap.size w w') := by
  have hm : ∀ w : World, (method 321 79 (.agg #[]) "One").run Tryz.prog w = .ok (211, .agg #[]) w := fun _ => by kernel_rfl
  have hb0 : Below w.heap.size w w := Below.refl _ _
  go_enter Tryz.func39, Tryz.ntmps39
  go_wp2_with fail
  go_region_held3 (fun _ => True)
    (first | exact trivial | go_keep)
    (first
      | (go_at_call 211; ((with_reducible refine kintsone.mono ?_); (rintro e w1 ⟨rfl, hB1⟩; have hb1 : Below w.heap.size w w1 := (by first | exact hB1 | exact below_drew hB1))))
      | (go_at_call 76; ((with_reducible refine kfoldi.mono ?_); (rintro e w2 ⟨rfl, hB2⟩; have hb2 : Below w.heap.size w w2 := (by first | exact hb1.next hB2 | exact hb1.next (below_drew hB2))))))
  all_goals (go_wp2; go_ret; exact ⟨rfl, hb2⟩)

end Go.Proofs.YtokkfppchfmjcaaGreat
