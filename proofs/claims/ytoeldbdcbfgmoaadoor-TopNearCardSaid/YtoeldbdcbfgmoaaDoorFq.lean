/- WALKS OF FLOATS, 6: a float's value: nought. -/
import Derived.Test.YtoeldbdcbfgmoaaDoorFo
namespace Go.Proofs.YtoeldbdcbfgmoaaDoor
set_option linter.unusedVariables false
set_option linter.unusedSimpArgs false
open Go.ChangeShapes Go.WideShapes Go.ChangeAt Go.RowKit Go.NatP Go.FloatP

theorem run_mul0 (w : World) : (binOp BinOp.mul 28 (.float .f64 0) (.float .f64 4845873199050653696)).run Tryd.prog w = .ok (.float .f64 0) w := by
  have hm : FloatKind.f64.format.mul 0 4845873199050653696 = some 0 := by decide +kernel
  simp [binOp, Op.floatArith, hm]
theorem run_cvz (w : World) : (convert 28 50 (.float .f64 0)).run Tryd.prog w = .ok (.int .u64 0) w := by
  rw [run_cv0]
  kernel_rfl

set_option maxRecDepth 100000 in
set_option maxHeartbeats 8000000 in
theorem nof64z {w : World} (x : Nat) (hx : x < 18446744073709551616) (h0 : fr x = 0) :
    Calls Tryd.prog 13 #[.float .f64 x] w (RetQE w (flV (fs x) 0) 0) := by
  have hf : fr x < 9218868437227405312 := by omega
  have HN : Hid (∀ w, Calls Tryd.prog 29 #[.float .f64 x] w (fun e w' => e = .returned (.bool false) ∧ Below w.heap.size w w')) := fun w => ((show Calls Tryd.prog 29 #[.float .f64 x] w (fun e w' => e = .returned (.bool false) ∧ w' = w) from fin_num hf ▸ isnan_any x)).mono fun e w' ⟨h1, h2⟩ => ⟨h1, by rw [h2]; exact Below.refl _ _⟩
  have HI : Hid (∀ w, Calls Tryd.prog 11 #[.float .f64 x, .int .i64 0] w (fun e w' => e = .returned (.bool false) ∧ Below w.heap.size w w')) := fun w => (isinf_fin hx hf).mono fun e w' ⟨h1, h2⟩ => ⟨h1, by rw [h2]; exact Below.refl _ _⟩
  have HA : Hid (∀ w, Calls Tryd.prog 34 #[.float .f64 x] w (fun e w' => e = .returned (.float .f64 0) ∧ Below w.heap.size w w')) := fun w => ((show Calls Tryd.prog 34 #[.float .f64 x] w (fun e w' => e = .returned (.float .f64 0) ∧ w' = w) from h0 ▸ abs_any x hx)).mono fun e w' ⟨h1, h2⟩ => ⟨h1, by rw [h2]; exact Below.refl _ _⟩
  have HF : Hid (∀ w, Calls Tryd.prog 37 #[.float .f64 0] w (fun e w' => e = .returned (.tuple #[.float .f64 0, .int .i64 0]) ∧ Below w.heap.size w w')) := fun w => ((show Calls Tryd.prog 37 #[.float .f64 0] w (fun e w' => e = .returned (.tuple #[.float .f64 0, .int .i64 0]) ∧ w' = w) from Frexp_any (r := 0) (by decide))).mono fun e w' ⟨h1, h2⟩ => ⟨h1, by rw [h2]; exact Below.refl _ _⟩
  have hmul := run_mul0
  have hu := run_cvz
  have hlt0 := lt_zero hf
  rw [h0] at hlt0
  have hlt9 : (FloatKind.f64.format.order x 0 == some .lt) = false := by rw [hlt0]; simp
  clear hlt0
  have HO := hid (fun w => of_any (w := w) 0 (by omega) (by omega))
  rw [show lm (0 : Int).toNat = [] from rfl] at HO
  have H1 := hid (fun w => of_any (w := w) 1 (by omega) (by omega))
  rw [show (1 : Int).toNat = 1 from rfl] at H1
  clear h0 hf
  have hent := ent1 w #[Value.bool false, Value.slice none 0 0, Value.slice none 0 0] 27
  go_enter Tryd.func13, Tryd.ntmps13
  go_wp2_with fail
  generalize (w.alloc (.cells #[Value.bool false, Value.slice none 0 0, Value.slice none 0 0] 27)) = W0 at hent ⊢
  obtain ⟨R_0, hbel_0, hsz_0⟩ := hent
  have cR_0_0 : _ = some (Value.bool false) := R_0.cell 0
  have fR_0_0 := R_0.free 0
  have cR_0_1 : _ = some (Value.slice none 0 0) := R_0.cell 1
  have fR_0_1 := R_0.free 1
  have cR_0_2 : _ = some (Value.slice none 0 0) := R_0.cell 2
  have fR_0_2 := R_0.free 2
  go_wp2_with fail
  refine (HN.out _).mono ?_
  rintro e w1 ⟨rfl, hB⟩
  have hB_1 : Below W0.heap.size W0 w1 := (bl.next hB)
  have R_1 := R_0.next hB_1
  have cR_1_0 : _ = some (Value.bool false) := R_1.cell 0
  have fR_1_0 := R_1.free 0
  have cR_1_1 : _ = some (Value.slice none 0 0) := R_1.cell 1
  have fR_1_1 := R_1.free 1
  have cR_1_2 : _ = some (Value.slice none 0 0) := R_1.cell 2
  have fR_1_2 := R_1.free 2
  have hbel_1 := hbel_0.next hB_1
  have hsz_1 := hB_1.size
  clear R_0 cR_0_0 fR_0_0 cR_0_1 fR_0_1 cR_0_2 fR_0_2 hbel_0 hB_1
  try clear hB
  go_wp2_with fail
  refine (HI.out _).mono ?_
  rintro e w2 ⟨rfl, hB⟩
  have hB_2 : Below w1.heap.size w1 w2 := (bl.next hB)
  have R_2 := R_1.next hB_2
  have cR_2_0 : _ = some (Value.bool false) := R_2.cell 0
  have fR_2_0 := R_2.free 0
  have cR_2_1 : _ = some (Value.slice none 0 0) := R_2.cell 1
  have fR_2_1 := R_2.free 1
  have cR_2_2 : _ = some (Value.slice none 0 0) := R_2.cell 2
  have fR_2_2 := R_2.free 2
  have hbel_2 := hbel_1.next hB_2
  have hsz_2 := hB_2.size
  clear R_1 cR_1_0 fR_1_0 cR_1_1 fR_1_1 cR_1_2 fR_1_2 hbel_1 hB_2
  try clear hB
  go_wp2_with fail
  refine (HA.out _).mono ?_
  rintro e w3 ⟨rfl, hB⟩
  have hB_3 : Below w2.heap.size w2 w3 := (bl.next hB)
  have R_3 := R_2.next hB_3
  have cR_3_0 : _ = some (Value.bool false) := R_3.cell 0
  have fR_3_0 := R_3.free 0
  have cR_3_1 : _ = some (Value.slice none 0 0) := R_3.cell 1
  have fR_3_1 := R_3.free 1
  have cR_3_2 : _ = some (Value.slice none 0 0) := R_3.cell 2
  have fR_3_2 := R_3.free 2
  have hbel_3 := hbel_2.next hB_3
  have hsz_3 := hB_3.size
  clear R_2 cR_2_0 fR_2_0 cR_2_1 fR_2_1 cR_2_2 fR_2_2 hbel_2 hB_3
  try clear hB
  go_wp2_with fail
  refine (HF.out _).mono ?_
  rintro e w4 ⟨rfl, hB⟩
  have hB_4 : Below w3.heap.size w3 w4 := (bl.next hB)
  have R_4 := R_3.next hB_4
  have cR_4_0 : _ = some (Value.bool false) := R_4.cell 0
  have fR_4_0 := R_4.free 0
  have cR_4_1 : _ = some (Value.slice none 0 0) := R_4.cell 1
  have fR_4_1 := R_4.free 1
  have cR_4_2 : _ = some (Value.slice none 0 0) := R_4.cell 2
  have fR_4_2 := R_4.free 2
  have hbel_4 := hbel_3.next hB_4
  have hsz_4 := hB_4.size
  clear R_3 cR_3_0 fR_3_0 cR_3_1 fR_3_1 cR_3_2 fR_3_2 hbel_3 hB_4
  try clear hB
  go_wp2_with fail
  refine (HO.out _).mono ?_
  rintro e w5 ⟨na, nn, nc, rfl, hO, hB⟩
  have hB_5 : Below w4.heap.size w4 w5 := (bl.next hB)
  have R_5 := R_4.next hB_5
  have cR_5_0 : _ = some (Value.bool false) := R_5.cell 0
  have fR_5_0 := R_5.free 0
  have cR_5_1 : _ = some (Value.slice none 0 0) := R_5.cell 1
  have fR_5_1 := R_5.free 1
  have cR_5_2 : _ = some (Value.slice none 0 0) := R_5.cell 2
  have fR_5_2 := R_5.free 2
  have hbel_5 := hbel_4.next hB_5
  have hsz_5 := hB_5.size
  clear R_4 cR_4_0 fR_4_0 cR_4_1 fR_4_1 cR_4_2 fR_4_2 hbel_4 hB_5
  have N_5 := hO
  have ltN := hO.ltB
  have hn0 : nn = 0 := hO.len.symm
  clear hO
  subst hn0
  try clear hB
  go_wp2_with fail
  refine (H1.out _).mono ?_
  rintro e w6 ⟨da, dn, dc, rfl, hO, hB⟩
  have hB_6 : Below w5.heap.size w5 w6 := (bl.next hB)
  have R_6 := R_5.next hB_6
  have cR_6_0 : _ = some (Value.bool false) := R_6.cell 0
  have fR_6_0 := R_6.free 0
  have cR_6_1 : _ = some (Value.slice none 0 0) := R_6.cell 1
  have fR_6_1 := R_6.free 1
  have cR_6_2 : _ = some (Value.slice none 0 0) := R_6.cell 2
  have fR_6_2 := R_6.free 2
  have N_6 := N_5.below hB_6
  have hbel_6 := hbel_5.next hB_6
  have hsz_6 := hB_6.size
  clear R_5 cR_5_0 fR_5_0 cR_5_1 fR_5_1 cR_5_2 fR_5_2 N_5 hbel_5 hB_6
  have D_6 := hO
  have ltD := hO.ltB
  clear hO
  try clear hB
  have hret : ∀ v0 v1 v2, RetQE w (flV (fs x) 0) 0 (.returned (.tuple #[.agg #[.bool false, .slice na 0 nc, .slice da dn dc], .int .i64 0])) (((w6.setCell ⟨w.heap.size, 0, none⟩ v0).setCell ⟨w.heap.size, 1, none⟩ v1).setCell ⟨w.heap.size, 2, none⟩ v2) := fun v0 v1 v2 => by
    have hz := flV_zero (fs x)
    refine ⟨na, 0, nc, da, dn, dc, by rw [qsg_ok, hz.1]; rfl, ?_, ?_, (ltN.diff D_6 (by omega)).symm, Below.set3 hbel_6 (Nat.le_refl _) _ _ _⟩
    · rw [qnl_ok, hz.1]; exact (N_6.set3 (by omega) _ _ _).mono (by omega)
    · rw [qdl_ok, hz.2]; exact (D_6.set3 (by omega) _ _ _).mono (by omega)
  have hq := hret (.bool false) (.slice na 0 nc) (.slice da dn dc)
  have hRA := (show Blk _ _ #[_, _, _] from ((R_6.setCell (i := 0) (v := .bool false) (by simp)).setCell (i := 1) (v := .slice na 0 nc) (by simp)).setCell (i := 2) (v := .slice da dn dc) (by simp))
  clear hret
  go_wp2_with fail
  obtain ⟨W0, hW0⟩ : ∃ y : World, y = w6 := ⟨_, rfl⟩
  subst hW0
  go_loopw [6, 7] (fun ev nv wr => ev = .int .i64 (-53) ∧ nv = .slice na 0 nc ∧ wr = W0) (fun _ _ _ => 0)
  case atStart => exact ⟨by first | rfl | simp, rfl, rfl⟩
  case round =>
    obtain ⟨rfl, rfl, hwr⟩ := hrel
    subst hwr
    go_wp2_with fail
    generalize (((wr.setCell ⟨w.heap.size, 0, none⟩ (.bool false)).setCell ⟨w.heap.size, 1, none⟩ (.slice na 0 nc)).setCell ⟨w.heap.size, 2, none⟩ (.slice da dn dc)) = wA at *
    have q0 := hRA.cell 0
    have q1 := hRA.cell 1
    have q2 := hRA.cell 2
    refine bodyPost_ret (v := .tuple #[.agg #[.bool false, .slice na 0 nc, .slice da dn dc], .int .i64 0]) (by simp [results, Tryd.results13, go_sem, q0, q1, q2]) rfl ?_
    exact hq

end Go.Proofs.YtoeldbdcbfgmoaaDoor
