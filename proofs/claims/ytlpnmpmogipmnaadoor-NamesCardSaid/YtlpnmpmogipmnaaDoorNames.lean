/- THE WALK OF credencetop.Names: each constant has its number; errors tell their numbers. No condition. -/
import Derived.Test.YtlpnmpmogipmnaaDoorRows
import Derived.WalkKit
import Derived.ProofKit
import Derived.WalkLawsBesides
import Derived.WalkSpells
import Derived.Deep.Draws
import Derived.Deep.QuietTactic
import Derived.BigQuiet
import Derived.OpenShut
import Derived.LaidMore
import Derived.Stop.Joined
namespace Go.Proofs.YtlpnmpmogipmnaaDoor
open Go.ChangeShapes Go.WideShapes Go.ChangeAt Go.RowKit
set_option linter.unusedVariables false
set_option linter.unusedSimpArgs false

def RetS (w : World) (s : ByteArray) (e : Ending) (w' : World) : Prop := e = .returned (.string s) ∧ w' = w
set_option maxRecDepth 100000 in
theorem small3 {w : World} : Calls Tryd.prog 10 #[.int .i64 3] w (RetS w ⟨#[51]⟩) := by
  go_enter Tryd.func10, Tryd.ntmps10
  go_wp2
  go_ret
  exact ⟨rfl, rfl⟩
set_option maxRecDepth 100000 in
theorem small7 {w : World} : Calls Tryd.prog 10 #[.int .i64 7] w (RetS w ⟨#[55]⟩) := by
  go_enter Tryd.func10, Tryd.ntmps10
  go_wp2
  go_ret
  exact ⟨rfl, rfl⟩
set_option maxRecDepth 100000 in
theorem small30 {w : World} : Calls Tryd.prog 10 #[.int .i64 30] w (RetS w ⟨#[51, 48]⟩) := by
  go_enter Tryd.func10, Tryd.ntmps10
  go_wp2
  go_ret
  exact ⟨rfl, rfl⟩
set_option maxRecDepth 100000 in
theorem small46 {w : World} : Calls Tryd.prog 10 #[.int .i64 46] w (RetS w ⟨#[52, 54]⟩) := by
  go_enter Tryd.func10, Tryd.ntmps10
  go_wp2
  go_ret
  exact ⟨rfl, rfl⟩
set_option maxRecDepth 100000 in
theorem itoa_of {k : Int} {s : ByteArray} (h0 : 0 ≤ k) (h1 : k < 100) (H : ∀ w, Calls Tryd.prog 10 #[.int .i64 k] w (RetS w s)) {w : World} : Calls Tryd.prog 7 #[.int .i64 k] w (RetS w s) := by
  have HH : Hid (∀ w, Calls Tryd.prog 10 #[.int .i64 k] w (RetS w s)) := H
  clear H
  go_enter Tryd.func7, Tryd.ntmps7
  go_wp2_with fail
  refine (show Calls Tryd.prog 8 #[.int .i64 k] w (RetS w s) from ?_).mono ?_
  · go_enter Tryd.func8, Tryd.ntmps8
    go_wp2_with fail
    refine (show Calls Tryd.prog 9 #[.int .i64 k, .int .i64 10] w (RetS w s) from ?_).mono ?_
    · go_enter Tryd.func9, Tryd.ntmps9
      go_wp2_with fail
      refine (HH.out _).mono ?_
      rintro e w' ⟨rfl, rfl⟩
      go_wp2
      go_ret
      exact ⟨rfl, rfl⟩
    rintro e w' ⟨rfl, rfl⟩
    go_wp2
    go_ret
    exact ⟨rfl, rfl⟩
  rintro e w' ⟨rfl, rfl⟩
  go_wp2
  go_ret
  exact ⟨rfl, rfl⟩
set_option maxRecDepth 100000 in
theorem errno_of {k : Int} {s t : ByteArray} (h0 : 0 ≤ k) (h1 : k < 100) (H : ∀ w, Calls Tryd.prog 10 #[.int .i64 k] w (RetS w s)) (ht : (⟨#[101, 114, 114, 111, 114, 32]⟩ : ByteArray) ++ s = t) (hs : s.size ≤ 2) {w : World} : Calls Tryd.prog 5 #[.int .i64 k] w (RetS w t) := by
  have HH : Hid (∀ w, Calls Tryd.prog 7 #[.int .i64 k] w (RetS w s)) := fun w => itoa_of h0 h1 H
  clear H
  go_enter Tryd.func5, Tryd.ntmps5
  go_wp2_with fail
  refine (HH.out _).mono ?_
  rintro e w' ⟨rfl, rfl⟩
  go_wp2
  go_ret
  exact ⟨rfl, rfl⟩

set_option maxRecDepth 100000 in
set_option maxHeartbeats 1000000 in
theorem fault_of {w : World} {g : Nat} {s3 s7 e30 a1 a2 a3 a4 a5 a6 : ByteArray} (hc0 : w.cell? ⟨g, 0, none⟩ = some (.int .i64 30)) (hc1 : w.cell? ⟨g, 1, none⟩ = some (.int .i64 3)) (hc2 : w.cell? ⟨g, 2, none⟩ = some (.int .i64 7)) (hc3 : w.cell? ⟨g, 3, none⟩ = some (.string ⟨#[120]⟩))
    (H3 : ∀ w, Calls Tryd.prog 7 #[.int .i64 3] w (RetS w s3)) (H7 : ∀ w, Calls Tryd.prog 7 #[.int .i64 7] w (RetS w s7)) (H30 : ∀ w, Calls Tryd.prog 5 #[.int .i64 30] w (RetS w e30))
    (h1 : s3 ++ ⟨#[58]⟩ = a1) (h2 : a1 ++ s7 = a2) (h3 : a2 ++ ⟨#[58, 32]⟩ = a3) (h4 : a3 ++ e30 = a4) (h5 : a4 ++ ⟨#[58, 32]⟩ = a5) (h6 : a5 ++ ⟨#[120]⟩ = a6)
    (z3 : s3.size ≤ 2) (z7 : s7.size ≤ 2) (z30 : e30.size ≤ 8) (y1 : a1.size ≤ 3) (y2 : a2.size ≤ 5) (y3 : a3.size ≤ 7) (y4 : a4.size ≤ 15) (y5 : a5.size ≤ 17) :
    Calls Tryd.prog 4 #[.pointer (some ⟨g, 0, none⟩)] w fun e w' => e = .returned (.string a6) ∧ Below w.heap.size w w' := by
  have I3 : Hid (∀ w, Calls Tryd.prog 7 #[.int .i64 3] w (RetS w s3)) := H3
  have I7 : Hid (∀ w, Calls Tryd.prog 7 #[.int .i64 7] w (RetS w s7)) := H7
  have I30 : Hid (∀ w, Calls Tryd.prog 5 #[.int .i64 30] w (RetS w e30)) := H30
  clear H3 H7 H30
  go_enter Tryd.func4, Tryd.ntmps4
  go_wp2_with fail
  go_quiet (first | (go_at_call 7; exact Calls.quiet_of_same (I3.out _)) | (go_at_call 7; exact Calls.quiet_of_same (I7.out _)) | (go_at_call 5; exact Calls.quiet_of_same (I30.out _)))
  go_wp2
  go_ret
  exact ⟨rfl, by first | exact Below.refl _ _ | exact (Below.refl _ _).drew | exact ⟨rfl, rfl, rfl, Nat.le_refl _, fun _ _ => rfl⟩⟩
set_option maxRecDepth 100000 in
theorem unwrap_of {w : World} {g : Nat} (hc0 : w.cell? ⟨g, 0, none⟩ = some (.int .i64 30)) : Calls Tryd.prog 6 #[.pointer (some ⟨g, 0, none⟩)] w fun e w' => e = .returned (.iface 22 (.int .i64 30)) ∧ w' = w := by
  go_enter Tryd.func6, Tryd.ntmps6
  go_wp2
  go_ret
  exact ⟨rfl, rfl⟩
theorem cellOf {W : World} {g : Nat} {cs : Array Value} {T : TypeId} (h : W.heap[g]? = some (.cells cs T)) (i : Nat) : W.cell? ⟨g, i, none⟩ = cs[i]? := by simp [World.cell?, h]
theorem belowCell {w w' : World} {g i : Nat} (h : Below w.heap.size w w') (hg : g < w.heap.size) : w'.cell? ⟨g, i, none⟩ = w.cell? ⟨g, i, none⟩ := h.cell (p := ⟨g, i, none⟩) hg
set_option maxRecDepth 100000 in
set_option maxHeartbeats 1000000 in
theorem names_walk (w : World) : Calls Tryd.prog 3 #[] w fun e w' => e = .returned (.bool true) ∧ Below w.heap.size w w' := by
  have hF : Hid (∀ W g, W.cell? ⟨g, 0, none⟩ = some (.int .i64 30) → W.cell? ⟨g, 1, none⟩ = some (.int .i64 3) → W.cell? ⟨g, 2, none⟩ = some (.int .i64 7) → W.cell? ⟨g, 3, none⟩ = some (.string ⟨#[120]⟩) →
      Calls Tryd.prog 4 #[.pointer (some ⟨g, 0, none⟩)] W fun e w' => e = .returned (.string ⟨#[51, 58, 55, 58, 32, 101, 114, 114, 111, 114, 32, 51, 48, 58, 32, 120]⟩) ∧ Below W.heap.size W w') := fun W g c0 c1 c2 c3 =>
    fault_of c0 c1 c2 c3 (fun w => itoa_of (by decide) (by decide) (fun w => small3)) (fun w => itoa_of (by decide) (by decide) (fun w => small7)) (fun w => errno_of (by decide) (by decide) (fun w => small30) rfl (by decide)) rfl rfl rfl rfl rfl rfl (by decide) (by decide) (by decide) (by decide) (by decide) (by decide) (by decide) (by decide)
  have hE : Hid (∀ W, Calls Tryd.prog 5 #[.int .i64 46] W (RetS W ⟨#[101, 114, 114, 111, 114, 32, 52, 54]⟩)) := fun W => errno_of (by decide) (by decide) (fun w => small46) rfl (by decide)
  obtain ⟨cs, hcs⟩ : ∃ cs : Array Value, cs = #[.int .i64 30, .int .i64 3, .int .i64 7, .string ⟨#[120]⟩] := ⟨_, rfl⟩
  have hsz : (w.alloc (.cells #[.int .i64 30, .int .i64 3, .int .i64 7, .string ⟨#[120]⟩] 24)).heap.size = w.heap.size + 1 := by simp
  have hB0 : Below w.heap.size w (w.alloc (.cells #[.int .i64 30, .int .i64 3, .int .i64 7, .string ⟨#[120]⟩] 24)) := (Below.refl _ _).alloc (Nat.le_refl _) _
  have hh : (w.alloc (.cells #[.int .i64 30, .int .i64 3, .int .i64 7, .string ⟨#[120]⟩] 24)).heap[w.heap.size]? = some (.cells #[.int .i64 30, .int .i64 3, .int .i64 7, .string ⟨#[120]⟩] 24) := heap_alloc_new _ _
  have hc : ∀ i, (w.alloc (.cells #[.int .i64 30, .int .i64 3, .int .i64 7, .string ⟨#[120]⟩] 24)).cell? ⟨w.heap.size, i, none⟩ = (#[.int .i64 30, .int .i64 3, .int .i64 7, .string ⟨#[120]⟩] : Array Value)[i]? := cellOf hh
  clear hcs hh
  have heq : ∀ w, Sem.run Tryd.prog (binOp BinOp.eql 27 (Value.iface 22 (Value.int IntKind.i64 30)) (Value.iface 22 (Value.int IntKind.i64 30))) w = .ok (.bool true) w := fun w => by kernel_rfl
  go_enter Tryd.func3, Tryd.ntmps3
  go_wp2_with fail
  generalize w.alloc (.cells #[.int .i64 30, .int .i64 3, .int .i64 7, .string ⟨#[120]⟩] 24) = W0 at *
  have c0 : W0.cell? ⟨w.heap.size, 0, none⟩ = some (.int .i64 30) := hc 0
  have c1 : W0.cell? ⟨w.heap.size, 1, none⟩ = some (.int .i64 3) := hc 1
  have c2 : W0.cell? ⟨w.heap.size, 2, none⟩ = some (.int .i64 7) := hc 2
  have c3 : W0.cell? ⟨w.heap.size, 3, none⟩ = some (.string ⟨#[120]⟩) := hc 3
  clear hc
  refine (hF.out _ _ c0 c1 c2 c3).mono ?_
  rintro e w1 ⟨rfl, hB1⟩
  have d0 : w1.cell? ⟨w.heap.size, 0, none⟩ = some (.int .i64 30) := (belowCell hB1 (by omega)).trans c0
  have hB2 : Below w.heap.size w w1 := hB0.trans (hB1.mono (by omega))
  clear c0 c1 c2 c3
  go_wp2_with fail
  refine (hE.out _).mono ?_
  rintro e w2 ⟨rfl, rfl⟩
  go_wp2_with fail
  refine (unwrap_of d0).mono ?_
  rintro e w3 ⟨rfl, rfl⟩
  go_wp2
  go_ret
  exact ⟨rfl, hB2⟩
end Go.Proofs.YtlpnmpmogipmnaaDoor
