/- WALKS OF RINGS, 3: a sum of yes and no, an empty product of ints. -/
import Derived.Test.YtnbhfgpnjhbkaaaMz
namespace Go.Proofs.Ytnbhfgpnjhbkaaa
set_option linter.unusedVariables false
set_option linter.unusedSimpArgs false
open Go.ChangeShapes Go.WideShapes Go.ChangeAt Go.RowKit Go.NatP

set_option maxRecDepth 100000 in
set_option maxHeartbeats 4000000 in
theorem kboolsadd {w : World} (p q : Bool) : Calls Try.prog 149 #[.agg #[], .bool p, .bool q] w (fun e w' => e = .returned (.bool (p || q)) ∧ Below w.heap.size w w') := by
  have hent := ent1 w #[] 90
  go_enter Try.func149, Try.ntmps149
  cases p
  · go_wp2
    go_ret
    exact ⟨rfl, hent.2.1⟩
  · go_wp2
    go_ret
    exact ⟨rfl, hent.2.1⟩

set_option maxRecDepth 100000 in
set_option maxHeartbeats 8000000 in
theorem kfoldb {w : World} {g : Nat} (hb : Blk w g #[.bool false, .bool true]) : Calls Try.prog 88 #[.bool false, .slice (some ⟨g, 0, none⟩) 2 2, .func (.method "Add") #[.iface 90 (.agg #[])] #[]] w (fun e w' => e = .returned (.bool true) ∧ Below w.heap.size w w') := by
  have hm : ∀ w : World, (method 272 90 (.agg #[]) "Add").run Try.prog w = .ok (149, .agg #[]) w := fun _ => by kernel_rfl
  have HB := hid (fun W (h : Below w.heap.size w W) => hb.next h)
  clear hb
  go_enter Try.func88, Try.ntmps88
  go_wp2_with fail
  refine wp_loop_rounds 3 ?_
  rw [rounds_succ]
  have c0 : _ = some (Value.bool false) := (HB.out _ (Below.refl _ _)).cell 0
  go_wp2_with fail
  refine (kboolsadd false false).mono ?_
  rintro e w1 ⟨rfl, hB1⟩
  have hB1 : Below w.heap.size w w1 := hB1
  go_wp2_with fail
  rw [rounds_succ]
  have c1 : _ = some (Value.bool true) := (HB.out _ hB1).cell 1
  go_wp2_with fail
  refine (kboolsadd false true).mono ?_
  rintro e w2 ⟨rfl, hB2⟩
  have hB2 := hB1.next hB2
  go_wp2_with fail
  rw [rounds_succ]
  go_wp2
  go_ret
  exact ⟨rfl, hB2⟩

set_option maxRecDepth 100000 in
set_option maxHeartbeats 8000000 in
theorem kfoldi {w : World} : Calls Try.prog 89 #[.int .i64 1, .slice none 0 0, .func (.method "Mul") #[.iface 92 (.agg #[])] #[]] w (fun e w' => e = .returned (.int .i64 1) ∧ Below w.heap.size w w') := by
  go_enter Try.func89, Try.ntmps89
  go_wp2_with fail
  refine wp_loop_rounds 1 ?_
  rw [rounds_succ]
  go_wp2
  go_ret
  exact ⟨rfl, Below.refl _ _⟩

set_option maxRecDepth 100000 in
set_option maxHeartbeats 8000000 in
theorem kboolszero {w : World} : Calls Try.prog 152 #[.agg #[]] w (fun e w' => e = .returned (.bool false) ∧ Below w.heap.size w w') := by
  have hent := ent1 w #[] 90
  go_enter Try.func152, Try.ntmps152
  go_wp2
  go_ret
  exact ⟨rfl, hent.2.1⟩
theorem kintsone {w : World} : Calls Try.prog 155 #[.agg #[]] w (fun e w' => e = .returned (.int .i64 1) ∧ Below w.heap.size w w') := by
  have hent := ent1 w #[] 92
  go_enter Try.func155, Try.ntmps155
  go_wp2
  go_ret
  exact ⟨rfl, hent.2.1⟩

set_option maxRecDepth 100000 in
set_option maxHeartbeats 8000000 in
theorem ksumb {w : World} {g : Nat} (hb : Blk w g #[.bool false, .bool true]) : Calls Try.prog 49 #[.iface 90 (.agg #[]), .slice (some ⟨g, 0, none⟩) 2 2] w (fun e w' => e = .returned (.bool true) ∧ Below w.heap.size w w') := by
  have hm : ∀ w : World, (method 272 90 (.agg #[]) "Zero").run Try.prog w = .ok (152, .agg #[]) w := fun _ => by kernel_rfl
  have HB := hid (fun W (h : Below w.heap.size w W) => hb.next h)
  clear hb
  have hb0 : Below w.heap.size w w := Below.refl _ _
  go_enter Try.func49, Try.ntmps49
  go_wp2_with fail
  go_region_held3 (fun _ => True)
    (first | exact trivial | go_keep)
    (first
      | (go_at_call 152; ((with_reducible refine kboolszero.mono ?_); (rintro e w1 ⟨rfl, hB1⟩; have hb1 : Below w.heap.size w w1 := (by first | exact hB1 | exact below_drew hB1))))
      | (go_at_call 88; ((with_reducible refine (kfoldb (HB.out _ (by first | exact hb1 | exact hb1.drew))).mono ?_); (rintro e w2 ⟨rfl, hB2⟩; have hb2 : Below w.heap.size w w2 := (by first | exact hb1.next hB2 | exact hb1.next (below_drew hB2))))))
  all_goals (go_wp2; go_ret; exact ⟨rfl, hb2⟩)

set_option maxRecDepth 100000 in
set_option maxHeartbeats 8000000 in
theorem kprodi {w : World} : Calls Try.prog 50 #[.iface 92 (.agg #[]), .slice none 0 0] w (fun e w' => e = .returned (.int .i64 1) ∧ Below w.heap.size w w') := by
  have hm : ∀ w : World, (method 272 92 (.agg #[]) "One").run Try.prog w = .ok (155, .agg #[]) w := fun _ => by kernel_rfl
  have hb0 : Below w.heap.size w w := Below.refl _ _
  go_enter Try.func50, Try.ntmps50
  go_wp2_with fail
  go_region_held3 (fun _ => True)
    (first | exact trivial | go_keep)
    (first
      | (go_at_call 155; ((with_reducible refine kintsone.mono ?_); (rintro e w1 ⟨rfl, hB1⟩; have hb1 : Below w.heap.size w w1 := (by first | exact hB1 | exact below_drew hB1))))
      | (go_at_call 89; ((with_reducible refine kfoldi.mono ?_); (rintro e w2 ⟨rfl, hB2⟩; have hb2 : Below w.heap.size w w2 := (by first | exact hb1.next hB2 | exact hb1.next (below_drew hB2))))))
  all_goals (go_wp2; go_ret; exact ⟨rfl, hb2⟩)

end Go.Proofs.Ytnbhfgpnjhbkaaa
