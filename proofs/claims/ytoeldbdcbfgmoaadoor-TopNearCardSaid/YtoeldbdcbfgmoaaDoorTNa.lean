/- WALKS OF FLOATS, 7: a float's value: floats of other names, of 32 bits, and what is no number. -/
import Derived.Test.YtoeldbdcbfgmoaaDoorFq
import Derived.Test.YtoeldbdcbfgmoaaDoorNa
import Derived.Test.YtoeldbdcbfgmoaaDoorFL
import Derived.Test.YtoeldbdcbfgmoaaDoorQ2
import Derived.Test.YtoeldbdcbfgmoaaDoorPL
import Derived.Test.YtoeldbdcbfgmoaaDoorQt
import Derived.Test.YtoeldbdcbfgmoaaDoorQ3
namespace Go.Proofs.YtoeldbdcbfgmoaaDoor
set_option linter.unusedVariables false
set_option linter.unusedSimpArgs false
open Go.ChangeShapes Go.WideShapes Go.ChangeAt Go.RowKit Go.NatP Go.FloatP

set_option maxRecDepth 100000 in
set_option maxHeartbeats 8000000 in
theorem nof32 {w : World} (x : Nat) (s0 : Nat) (hcv : ∀ w, (convert 42 28 (.float .f32 s0)).run Tryd.prog w = .ok (.float .f64 x) w) (hx : x < 18446744073709551616) (hf : fr x < 9218868437227405312) (h0 : fr x ≠ 0) :
    Calls Tryd.prog 16 #[.float .f32 s0] w (RetQE w (flV (fs x) (fr x)) 0) := by
  obtain ⟨hk1, hk2⟩ := fK_bd h0
  obtain ⟨hx1, hx2⟩ := fX_bd h0 hf
  have HN : Hid (∀ w, Calls Tryd.prog 29 #[.float .f64 x] w (fun e w' => e = .returned (.bool false) ∧ Below w.heap.size w w')) := fun w => ((show Calls Tryd.prog 29 #[.float .f64 x] w (fun e w' => e = .returned (.bool false) ∧ w' = w) from fin_num hf ▸ isnan_any x)).mono fun e w' ⟨h1, h2⟩ => ⟨h1, by rw [h2]; exact Below.refl _ _⟩
  have HI : Hid (∀ w, Calls Tryd.prog 11 #[.float .f64 x, .int .i64 0] w (fun e w' => e = .returned (.bool false) ∧ Below w.heap.size w w')) := fun w => (isinf_fin hx hf).mono fun e w' ⟨h1, h2⟩ => ⟨h1, by rw [h2]; exact Below.refl _ _⟩
  have HA : Hid (∀ w, Calls Tryd.prog 34 #[.float .f64 x] w (fun e w' => e = .returned (.float .f64 (fr x)) ∧ Below w.heap.size w w')) := fun w => (abs_any x hx).mono fun e w' ⟨h1, h2⟩ => ⟨h1, by rw [h2]; exact Below.refl _ _⟩
  have hE : fxE (fr x) = fX (fr x) := if_neg h0
  have HF : Hid (∀ w, Calls Tryd.prog 37 #[.float .f64 (fr x)] w (fun e w' => e = .returned (.tuple #[.float .f64 (fxM (fr x)), .int .i64 (fX (fr x))]) ∧ Below w.heap.size w w')) := fun w => ((show Calls Tryd.prog 37 #[.float .f64 (fr x)] w (fun e w' => e = .returned (.tuple #[.float .f64 (fxM (fr x)), .int .i64 (fX (fr x))]) ∧ w' = w) from hE ▸ Frexp_any hf)).mono fun e w' ⟨h1, h2⟩ => ⟨h1, by rw [h2]; exact Below.refl _ _⟩
  have hmul := run_mul53 h0
  have hlt0 := lt_zero hf
  have HO := hid (fun w => of_any (w := w) (fK (fr x) : Int) (by omega) (by omega))
  rw [Int.toNat_natCast] at HO
  have H1 := hid (fun w => of_any (w := w) 1 (by omega) (by omega))
  rw [show (1 : Int).toNat = 1 from rfl] at H1
  have hHv := hid (Halved.start h0)
  obtain ⟨M, hM⟩ : ∃ M, fxM (fr x) = M := ⟨_, rfl⟩
  rw [hM] at HF hmul
  clear hM hE
  obtain ⟨Y, hY⟩ : ∃ Y, 1074 * 4503599627370496 + fK (fr x) = Y := ⟨_, rfl⟩
  have hu := run_cv hY hk1 hk2
  rw [hY] at hmul
  clear hY
  have hent := ent1 w #[Value.bool false, Value.slice none 0 0, Value.slice none 0 0] 27
  go_enter Tryd.func16, Tryd.ntmps16
  go_wp2_with fail
  generalize (w.alloc (.cells #[Value.bool false, Value.slice none 0 0, Value.slice none 0 0] 27)) = W0 at hent ⊢
  obtain ⟨R_0, hbel_0, hsz_0⟩ := hent
  have cR_0_0 : _ = some (Value.bool false) := R_0.cell 0
  have fR_0_0 := R_0.free 0
  have cR_0_1 : _ = some (Value.slice none 0 0) := R_0.cell 1
  have fR_0_1 := R_0.free 1
  have cR_0_2 : _ = some (Value.slice none 0 0) := R_0.cell 2
  have fR_0_2 := R_0.free 2
  go_wp2_with fail
  refine (HN.out _).mono ?_
  rintro e w1 ⟨rfl, hB⟩
  have hB_1 : Below W0.heap.size W0 w1 := (bl.next hB)
  have R_1 := R_0.next hB_1
  have cR_1_0 : _ = some (Value.bool false) := R_1.cell 0
  have fR_1_0 := R_1.free 0
  have cR_1_1 : _ = some (Value.slice none 0 0) := R_1.cell 1
  have fR_1_1 := R_1.free 1
  have cR_1_2 : _ = some (Value.slice none 0 0) := R_1.cell 2
  have fR_1_2 := R_1.free 2
  have hbel_1 := hbel_0.next hB_1
  have hsz_1 := hB_1.size
  clear R_0 cR_0_0 fR_0_0 cR_0_1 fR_0_1 cR_0_2 fR_0_2 hbel_0 hB_1
  try clear hB
  go_wp2_with fail
  refine (HI.out _).mono ?_
  rintro e w2 ⟨rfl, hB⟩
  have hB_2 : Below w1.heap.size w1 w2 := (bl.next hB)
  have R_2 := R_1.next hB_2
  have cR_2_0 : _ = some (Value.bool false) := R_2.cell 0
  have fR_2_0 := R_2.free 0
  have cR_2_1 : _ = some (Value.slice none 0 0) := R_2.cell 1
  have fR_2_1 := R_2.free 1
  have cR_2_2 : _ = some (Value.slice none 0 0) := R_2.cell 2
  have fR_2_2 := R_2.free 2
  have hbel_2 := hbel_1.next hB_2
  have hsz_2 := hB_2.size
  clear R_1 cR_1_0 fR_1_0 cR_1_1 fR_1_1 cR_1_2 fR_1_2 hbel_1 hB_2
  try clear hB
  go_wp2_with fail
  refine (HA.out _).mono ?_
  rintro e w3 ⟨rfl, hB⟩
  have hB_3 : Below w2.heap.size w2 w3 := (bl.next hB)
  have R_3 := R_2.next hB_3
  have cR_3_0 : _ = some (Value.bool false) := R_3.cell 0
  have fR_3_0 := R_3.free 0
  have cR_3_1 : _ = some (Value.slice none 0 0) := R_3.cell 1
  have fR_3_1 := R_3.free 1
  have cR_3_2 : _ = some (Value.slice none 0 0) := R_3.cell 2
  have fR_3_2 := R_3.free 2
  have hbel_3 := hbel_2.next hB_3
  have hsz_3 := hB_3.size
  clear R_2 cR_2_0 fR_2_0 cR_2_1 fR_2_1 cR_2_2 fR_2_2 hbel_2 hB_3
  try clear hB
  go_wp2_with fail
  refine (HF.out _).mono ?_
  rintro e w4 ⟨rfl, hB⟩
  have hB_4 : Below w3.heap.size w3 w4 := (bl.next hB)
  have R_4 := R_3.next hB_4
  have cR_4_0 : _ = some (Value.bool false) := R_4.cell 0
  have fR_4_0 := R_4.free 0
  have cR_4_1 : _ = some (Value.slice none 0 0) := R_4.cell 1
  have fR_4_1 := R_4.free 1
  have cR_4_2 : _ = some (Value.slice none 0 0) := R_4.cell 2
  have fR_4_2 := R_4.free 2
  have hbel_4 := hbel_3.next hB_4
  have hsz_4 := hB_4.size
  clear R_3 cR_3_0 fR_3_0 cR_3_1 fR_3_1 cR_3_2 fR_3_2 hbel_3 hB_4
  try clear hB
  go_wp2_with fail
  refine (HO.out _).mono ?_
  rintro e w5 ⟨na, nn, nc, rfl, hO, hB⟩
  have hB_5 : Below w4.heap.size w4 w5 := (bl.next hB)
  have R_5 := R_4.next hB_5
  have cR_5_0 : _ = some (Value.bool false) := R_5.cell 0
  have fR_5_0 := R_5.free 0
  have cR_5_1 : _ = some (Value.slice none 0 0) := R_5.cell 1
  have fR_5_1 := R_5.free 1
  have cR_5_2 : _ = some (Value.slice none 0 0) := R_5.cell 2
  have fR_5_2 := R_5.free 2
  have hbel_5 := hbel_4.next hB_5
  have hsz_5 := hB_5.size
  clear R_4 cR_4_0 fR_4_0 cR_4_1 fR_4_1 cR_4_2 fR_4_2 hbel_4 hB_5
  have N_5 := hO
  have ltN := hO.ltB
  clear hO
  try clear hB
  go_wp2_with fail
  refine (H1.out _).mono ?_
  rintro e w6 ⟨da, dn, dc, rfl, hO, hB⟩
  have hB_6 : Below w5.heap.size w5 w6 := (bl.next hB)
  have R_6 := R_5.next hB_6
  have cR_6_0 : _ = some (Value.bool false) := R_6.cell 0
  have fR_6_0 := R_6.free 0
  have cR_6_1 : _ = some (Value.slice none 0 0) := R_6.cell 1
  have fR_6_1 := R_6.free 1
  have cR_6_2 : _ = some (Value.slice none 0 0) := R_6.cell 2
  have fR_6_2 := R_6.free 2
  have N_6 := N_5.below hB_6
  have hbel_6 := hbel_5.next hB_6
  have hsz_6 := hB_6.size
  clear R_5 cR_5_0 fR_5_0 cR_5_1 fR_5_1 cR_5_2 fR_5_2 N_5 hbel_5 hB_6
  have D_6 := hO
  have ltD := hO.ltB
  clear hO
  try clear hB
  have hKs : Sz (fK (fr x)) 2 := by show _ < 4294967296 ^ 2; omega
  go_wp2_with fail
  obtain ⟨W0, hW0⟩ : ∃ y : World, y = w6 := ⟨_, rfl⟩
  subst hW0
  go_loopw [6, 7] (fun ev nv wr => ∃ (n c m : Nat) (a : Option Addr) (E : Int), ev = .int .i64 E ∧ nv = .slice a n c ∧ -1200 ≤ E ∧ E ≤ 1100 ∧ Own (w.heap.size + 1) wr a n c (lm m) ∧ Hid (Halved (fr x) m E) ∧ Hid (Sz m 2) ∧ Below W0.heap.size W0 wr) (fun ev _ _ => (-(intOf ev)).toNat)
  case atStart => exact ⟨nn, nc, fK (fr x), na, _, rfl, rfl, by omega, by omega, N_6.mono (by omega), hHv, hKs, Below.refl _ _⟩
  case round =>
    obtain ⟨n, c, m, a, E, rfl, rfl, hE1, hE2, hO, hHv, hms, hBr⟩ := hrel
    have hsz := hBr.size
    have hn2 : n ≤ 2 := by have := hO.len; have := hms.out.len; omega
    have hm0 := hHv.out.pos
    have hn0 : 0 < n := by rw [← hO.len]; exact List.length_pos_iff.2 (fun h => hm0 (lm_eq_nil.1 h))
    have hpar : m % 2 = (lm m).getD 0 0 % 2 := by have := val_mod2 (lm m); rwa [val_lm] at this
    rcases hO.cases with ⟨_, h, _⟩ | ⟨g, rfl, _⟩
    · omega
    have hcc := hO.cell hn0
    have hlim : (lm m).getD 0 0 < 4294967296 := hO.lim.getD 0
    obtain ⟨v0, hv0⟩ : ∃ v, (lm m).getD 0 0 = v := ⟨_, rfl⟩
    rw [hv0] at hcc hlim hpar
    have hbit := and_one32 v0 hlim
    by_cases hE : E < 0
    · by_cases hp : m % 2 = 0
      · have hd : ((v0 % 2 : Nat) : Int) = 0 := by omega
        rw [hd] at hbit
        have hH2 := hid (hHv.out.step hp)
        have hms2 : Hid (Sz (m / 2) 2) := hms.out.mono (Nat.div_le_self _ _) (Nat.le_refl _)
        have hsh := hid (half_shift hO (by omega))
        clear hpar hp hd hv0 hlim
        go_wp2_with fail
        refine hsh.out.mono ?_
        rintro e w9 ⟨a9, n9, c9, rfl, hO9, hB9⟩
        go_wp2
        go_roundw
        case rel => exact ⟨n9, c9, m / 2, a9, E + 1, by go_num, rfl, by omega, by omega, hO9.mono (by omega), hH2, hms2, hBr.next hB9⟩
        case measure => simp [intOf]; omega
      · have hd : ((v0 % 2 : Nat) : Int) = 1 := by omega
        rw [hd] at hbit
        obtain ⟨D, rfl⟩ : ∃ D : Nat, E = -(D : Int) := ⟨(-E).toNat, by omega⟩
        have hDk := D_6.below hBr
        have hsh := hid (up_shift (m := 1) hDk (by have := hDk.len; have h1 : (lm 1).length = 1 := rfl; omega) D (by omega))
        have hV := flV_below (s := fs x) (hHv.out.below h0 rfl) (.inl (by omega))
        clear hpar hd hv0 hlim hp
        go_wp2_with fail
        refine hsh.out.mono ?_
        rintro e w9 ⟨a9, n9, c9, rfl, hO9, hB9⟩
        rw [Nat.one_mul] at hO9
        have hN9 := hO.below hB9
        have hR9 := (R_6.next hBr).next hB9
        have hbel9 := (hbel_6.next hBr).next hB9
        have hDf : Diff (some ⟨g, 0, none⟩) a9 := fun g' e e2 => by
          cases e
          have h1 := (hO9.lt' _ e2).1
          have h2 := (hO.lt' _ rfl).2
          omega
        have hlt9 : (FloatKind.f64.format.order x 0 == some .lt) = fs x := by rw [hlt0]; simp [h0]
        have hret := fun v0 v1 v2 => ret_fl (g := w.heap.size) (v0 := v0) (v1 := v1) (v2 := v2) hV hm0 hN9 hO9 hDf hbel9 (Nat.le_refl _) (by omega) (by have := hBr.size; omega)
        have cR0 := hR9.cell 0
        have cR1 := hR9.cell 1
        have cR2 := hR9.cell 2
        have fR0 := hR9.free 0
        have fR1 := hR9.free 1
        have fR2 := hR9.free 2
        clear hV hN9 hO9 hlt0
        generalize fs x = sg at *
        cases sg
        · have hq := hret (.bool false) (.slice (some ⟨g, 0, none⟩) n c) (.slice a9 n9 c9)
          have hRA := (show Blk _ _ #[_, _, _] from ((hR9.setCell (i := 0) (v := .bool false) (by simp)).setCell (i := 1) (v := .slice (some ⟨g, 0, none⟩) n c) (by simp)).setCell (i := 2) (v := .slice a9 n9 c9) (by simp))
          clear hret
          go_wp2_with fail
          generalize (((w9.setCell ⟨w.heap.size, 0, none⟩ (.bool false)).setCell ⟨w.heap.size, 1, none⟩ (.slice (some ⟨g, 0, none⟩) n c)).setCell ⟨w.heap.size, 2, none⟩ (.slice a9 n9 c9)) = wA at *
          have q0 := hRA.cell 0
          have q1 := hRA.cell 1
          have q2 := hRA.cell 2
          refine bodyPost_ret (v := .tuple #[.agg #[.bool false, .slice (some ⟨g, 0, none⟩) n c, .slice a9 n9 c9], .int .i64 0]) (by simp [results, Tryd.results16, go_sem, q0, q1, q2]) rfl ?_
          exact hq
        · have hq := hret (.bool true) (.slice (some ⟨g, 0, none⟩) n c) (.slice a9 n9 c9)
          have hRA := (show Blk _ _ #[_, _, _] from ((hR9.setCell (i := 0) (v := .bool true) (by simp)).setCell (i := 1) (v := .slice (some ⟨g, 0, none⟩) n c) (by simp)).setCell (i := 2) (v := .slice a9 n9 c9) (by simp))
          clear hret
          go_wp2_with fail
          generalize (((w9.setCell ⟨w.heap.size, 0, none⟩ (.bool true)).setCell ⟨w.heap.size, 1, none⟩ (.slice (some ⟨g, 0, none⟩) n c)).setCell ⟨w.heap.size, 2, none⟩ (.slice a9 n9 c9)) = wA at *
          have q0 := hRA.cell 0
          have q1 := hRA.cell 1
          have q2 := hRA.cell 2
          refine bodyPost_ret (v := .tuple #[.agg #[.bool true, .slice (some ⟨g, 0, none⟩) n c, .slice a9 n9 c9], .int .i64 0]) (by simp [results, Tryd.results16, go_sem, q0, q1, q2]) rfl ?_
          exact hq
    · obtain ⟨D, rfl⟩ : ∃ D : Nat, E = (D : Int) := ⟨E.toNat, by omega⟩
      have hDk := D_6.below hBr
      have hsh := hid (up_shift hO (by omega) D (by omega))
      have hV := flV_above (s := fs x) (hHv.out.above h0 rfl)
      have hmD : m * 2 ^ D ≠ 0 := Nat.mul_ne_zero hm0 (two_ne D)
      clear hpar hv0 hlim hbit
      go_wp2_with fail
      refine hsh.out.mono ?_
      rintro e w9 ⟨a9, n9, c9, rfl, hO9, hB9⟩
      have hN9 := hDk.below hB9
      have hR9 := (R_6.next hBr).next hB9
      have hbel9 := (hbel_6.next hBr).next hB9
      have hn9 : 0 < n9 := by rw [← hO9.len]; exact List.length_pos_iff.2 (fun h => hmD (lm_eq_nil.1 h))
      have hDf : Diff a9 da := fun g' e e2 => by
        have h1 := (hO9.lt' _ e).1
        have h2 := (D_6.lt' _ e2).2
        omega
      have hlt9 : (FloatKind.f64.format.order x 0 == some .lt) = fs x := by rw [hlt0]; simp [h0]
      have hret := fun v0 v1 v2 => ret_fl (g := w.heap.size) (v0 := v0) (v1 := v1) (v2 := v2) hV hmD hO9 hN9 hDf hbel9 (Nat.le_refl _) (by have := hBr.size; omega) (by omega)
      have cR0 := hR9.cell 0
      have cR1 := hR9.cell 1
      have cR2 := hR9.cell 2
      have fR0 := hR9.free 0
      have fR1 := hR9.free 1
      have fR2 := hR9.free 2
      clear hV hN9 hO9 hlt0 hmD
      generalize fs x = sg at *
      cases sg
      · have hq := hret (.bool false) (.slice a9 n9 c9) (.slice da dn dc)
        have hRA := (show Blk _ _ #[_, _, _] from ((hR9.setCell (i := 0) (v := .bool false) (by simp)).setCell (i := 1) (v := .slice a9 n9 c9) (by simp)).setCell (i := 2) (v := .slice da dn dc) (by simp))
        clear hret
        go_wp2_with fail
        generalize (((w9.setCell ⟨w.heap.size, 0, none⟩ (.bool false)).setCell ⟨w.heap.size, 1, none⟩ (.slice a9 n9 c9)).setCell ⟨w.heap.size, 2, none⟩ (.slice da dn dc)) = wA at *
        have q0 := hRA.cell 0
        have q1 := hRA.cell 1
        have q2 := hRA.cell 2
        refine bodyPost_ret (v := .tuple #[.agg #[.bool false, .slice a9 n9 c9, .slice da dn dc], .int .i64 0]) (by simp [results, Tryd.results16, go_sem, q0, q1, q2]) rfl ?_
        exact hq
      · have hq := hret (.bool true) (.slice a9 n9 c9) (.slice da dn dc)
        have hRA := (show Blk _ _ #[_, _, _] from ((hR9.setCell (i := 0) (v := .bool true) (by simp)).setCell (i := 1) (v := .slice a9 n9 c9) (by simp)).setCell (i := 2) (v := .slice da dn dc) (by simp))
        clear hret
        go_wp2_with fail
        generalize (((w9.setCell ⟨w.heap.size, 0, none⟩ (.bool true)).setCell ⟨w.heap.size, 1, none⟩ (.slice a9 n9 c9)).setCell ⟨w.heap.size, 2, none⟩ (.slice da dn dc)) = wA at *
        have q0 := hRA.cell 0
        have q1 := hRA.cell 1
        have q2 := hRA.cell 2
        refine bodyPost_ret (v := .tuple #[.agg #[.bool true, .slice a9 n9 c9, .slice da dn dc], .int .i64 0]) (by simp [results, Tryd.results16, go_sem, q0, q1, q2]) rfl ?_
        exact hq


set_option maxRecDepth 100000 in
set_option maxHeartbeats 8000000 in
theorem nof32z {w : World} (x : Nat) (s0 : Nat) (hcv : ∀ w, (convert 42 28 (.float .f32 s0)).run Tryd.prog w = .ok (.float .f64 x) w) (hx : x < 18446744073709551616) (h0 : fr x = 0) :
    Calls Tryd.prog 16 #[.float .f32 s0] w (RetQE w (flV (fs x) 0) 0) := by
  have hf : fr x < 9218868437227405312 := by omega
  have HN : Hid (∀ w, Calls Tryd.prog 29 #[.float .f64 x] w (fun e w' => e = .returned (.bool false) ∧ Below w.heap.size w w')) := fun w => ((show Calls Tryd.prog 29 #[.float .f64 x] w (fun e w' => e = .returned (.bool false) ∧ w' = w) from fin_num hf ▸ isnan_any x)).mono fun e w' ⟨h1, h2⟩ => ⟨h1, by rw [h2]; exact Below.refl _ _⟩
  have HI : Hid (∀ w, Calls Tryd.prog 11 #[.float .f64 x, .int .i64 0] w (fun e w' => e = .returned (.bool false) ∧ Below w.heap.size w w')) := fun w => (isinf_fin hx hf).mono fun e w' ⟨h1, h2⟩ => ⟨h1, by rw [h2]; exact Below.refl _ _⟩
  have HA : Hid (∀ w, Calls Tryd.prog 34 #[.float .f64 x] w (fun e w' => e = .returned (.float .f64 0) ∧ Below w.heap.size w w')) := fun w => ((show Calls Tryd.prog 34 #[.float .f64 x] w (fun e w' => e = .returned (.float .f64 0) ∧ w' = w) from h0 ▸ abs_any x hx)).mono fun e w' ⟨h1, h2⟩ => ⟨h1, by rw [h2]; exact Below.refl _ _⟩
  have HF : Hid (∀ w, Calls Tryd.prog 37 #[.float .f64 0] w (fun e w' => e = .returned (.tuple #[.float .f64 0, .int .i64 0]) ∧ Below w.heap.size w w')) := fun w => ((show Calls Tryd.prog 37 #[.float .f64 0] w (fun e w' => e = .returned (.tuple #[.float .f64 0, .int .i64 0]) ∧ w' = w) from Frexp_any (r := 0) (by decide))).mono fun e w' ⟨h1, h2⟩ => ⟨h1, by rw [h2]; exact Below.refl _ _⟩
  have hmul := run_mul0
  have hu := run_cvz
  have hlt0 := lt_zero hf
  rw [h0] at hlt0
  have hlt9 : (FloatKind.f64.format.order x 0 == some .lt) = false := by rw [hlt0]; simp
  clear hlt0
  have HO := hid (fun w => of_any (w := w) 0 (by omega) (by omega))
  rw [show lm (0 : Int).toNat = [] from rfl] at HO
  have H1 := hid (fun w => of_any (w := w) 1 (by omega) (by omega))
  rw [show (1 : Int).toNat = 1 from rfl] at H1
  clear h0 hf
  have hent := ent1 w #[Value.bool false, Value.slice none 0 0, Value.slice none 0 0] 27
  go_enter Tryd.func16, Tryd.ntmps16
  go_wp2_with fail
  generalize (w.alloc (.cells #[Value.bool false, Value.slice none 0 0, Value.slice none 0 0] 27)) = W0 at hent ⊢
  obtain ⟨R_0, hbel_0, hsz_0⟩ := hent
  have cR_0_0 : _ = some (Value.bool false) := R_0.cell 0
  have fR_0_0 := R_0.free 0
  have cR_0_1 : _ = some (Value.slice none 0 0) := R_0.cell 1
  have fR_0_1 := R_0.free 1
  have cR_0_2 : _ = some (Value.slice none 0 0) := R_0.cell 2
  have fR_0_2 := R_0.free 2
  go_wp2_with fail
  refine (HN.out _).mono ?_
  rintro e w1 ⟨rfl, hB⟩
  have hB_1 : Below W0.heap.size W0 w1 := (bl.next hB)
  have R_1 := R_0.next hB_1
  have cR_1_0 : _ = some (Value.bool false) := R_1.cell 0
  have fR_1_0 := R_1.free 0
  have cR_1_1 : _ = some (Value.slice none 0 0) := R_1.cell 1
  have fR_1_1 := R_1.free 1
  have cR_1_2 : _ = some (Value.slice none 0 0) := R_1.cell 2
  have fR_1_2 := R_1.free 2
  have hbel_1 := hbel_0.next hB_1
  have hsz_1 := hB_1.size
  clear R_0 cR_0_0 fR_0_0 cR_0_1 fR_0_1 cR_0_2 fR_0_2 hbel_0 hB_1
  try clear hB
  go_wp2_with fail
  refine (HI.out _).mono ?_
  rintro e w2 ⟨rfl, hB⟩
  have hB_2 : Below w1.heap.size w1 w2 := (bl.next hB)
  have R_2 := R_1.next hB_2
  have cR_2_0 : _ = some (Value.bool false) := R_2.cell 0
  have fR_2_0 := R_2.free 0
  have cR_2_1 : _ = some (Value.slice none 0 0) := R_2.cell 1
  have fR_2_1 := R_2.free 1
  have cR_2_2 : _ = some (Value.slice none 0 0) := R_2.cell 2
  have fR_2_2 := R_2.free 2
  have hbel_2 := hbel_1.next hB_2
  have hsz_2 := hB_2.size
  clear R_1 cR_1_0 fR_1_0 cR_1_1 fR_1_1 cR_1_2 fR_1_2 hbel_1 hB_2
  try clear hB
  go_wp2_with fail
  refine (HA.out _).mono ?_
  rintro e w3 ⟨rfl, hB⟩
  have hB_3 : Below w2.heap.size w2 w3 := (bl.next hB)
  have R_3 := R_2.next hB_3
  have cR_3_0 : _ = some (Value.bool false) := R_3.cell 0
  have fR_3_0 := R_3.free 0
  have cR_3_1 : _ = some (Value.slice none 0 0) := R_3.cell 1
  have fR_3_1 := R_3.free 1
  have cR_3_2 : _ = some (Value.slice none 0 0) := R_3.cell 2
  have fR_3_2 := R_3.free 2
  have hbel_3 := hbel_2.next hB_3
  have hsz_3 := hB_3.size
  clear R_2 cR_2_0 fR_2_0 cR_2_1 fR_2_1 cR_2_2 fR_2_2 hbel_2 hB_3
  try clear hB
  go_wp2_with fail
  refine (HF.out _).mono ?_
  rintro e w4 ⟨rfl, hB⟩
  have hB_4 : Below w3.heap.size w3 w4 := (bl.next hB)
  have R_4 := R_3.next hB_4
  have cR_4_0 : _ = some (Value.bool false) := R_4.cell 0
  have fR_4_0 := R_4.free 0
  have cR_4_1 : _ = some (Value.slice none 0 0) := R_4.cell 1
  have fR_4_1 := R_4.free 1
  have cR_4_2 : _ = some (Value.slice none 0 0) := R_4.cell 2
  have fR_4_2 := R_4.free 2
  have hbel_4 := hbel_3.next hB_4
  have hsz_4 := hB_4.size
  clear R_3 cR_3_0 fR_3_0 cR_3_1 fR_3_1 cR_3_2 fR_3_2 hbel_3 hB_4
  try clear hB
  go_wp2_with fail
  refine (HO.out _).mono ?_
  rintro e w5 ⟨na, nn, nc, rfl, hO, hB⟩
  have hB_5 : Below w4.heap.size w4 w5 := (bl.next hB)
  have R_5 := R_4.next hB_5
  have cR_5_0 : _ = some (Value.bool false) := R_5.cell 0
  have fR_5_0 := R_5.free 0
  have cR_5_1 : _ = some (Value.slice none 0 0) := R_5.cell 1
  have fR_5_1 := R_5.free 1
  have cR_5_2 : _ = some (Value.slice none 0 0) := R_5.cell 2
  have fR_5_2 := R_5.free 2
  have hbel_5 := hbel_4.next hB_5
  have hsz_5 := hB_5.size
  clear R_4 cR_4_0 fR_4_0 cR_4_1 fR_4_1 cR_4_2 fR_4_2 hbel_4 hB_5
  have N_5 := hO
  have ltN := hO.ltB
  have hn0 : nn = 0 := hO.len.symm
  clear hO
  subst hn0
  try clear hB
  go_wp2_with fail
  refine (H1.out _).mono ?_
  rintro e w6 ⟨da, dn, dc, rfl, hO, hB⟩
  have hB_6 : Below w5.heap.size w5 w6 := (bl.next hB)
  have R_6 := R_5.next hB_6
  have cR_6_0 : _ = some (Value.bool false) := R_6.cell 0
  have fR_6_0 := R_6.free 0
  have cR_6_1 : _ = some (Value.slice none 0 0) := R_6.cell 1
  have fR_6_1 := R_6.free 1
  have cR_6_2 : _ = some (Value.slice none 0 0) := R_6.cell 2
  have fR_6_2 := R_6.free 2
  have N_6 := N_5.below hB_6
  have hbel_6 := hbel_5.next hB_6
  have hsz_6 := hB_6.size
  clear R_5 cR_5_0 fR_5_0 cR_5_1 fR_5_1 cR_5_2 fR_5_2 N_5 hbel_5 hB_6
  have D_6 := hO
  have ltD := hO.ltB
  clear hO
  try clear hB
  have hret : ∀ v0 v1 v2, RetQE w (flV (fs x) 0) 0 (.returned (.tuple #[.agg #[.bool false, .slice na 0 nc, .slice da dn dc], .int .i64 0])) (((w6.setCell ⟨w.heap.size, 0, none⟩ v0).setCell ⟨w.heap.size, 1, none⟩ v1).setCell ⟨w.heap.size, 2, none⟩ v2) := fun v0 v1 v2 => by
    have hz := flV_zero (fs x)
    refine ⟨na, 0, nc, da, dn, dc, by rw [qsg_ok, hz.1]; rfl, ?_, ?_, (ltN.diff D_6 (by omega)).symm, Below.set3 hbel_6 (Nat.le_refl _) _ _ _⟩
    · rw [qnl_ok, hz.1]; exact (N_6.set3 (by omega) _ _ _).mono (by omega)
    · rw [qdl_ok, hz.2]; exact (D_6.set3 (by omega) _ _ _).mono (by omega)
  have hq := hret (.bool false) (.slice na 0 nc) (.slice da dn dc)
  have hRA := (show Blk _ _ #[_, _, _] from ((R_6.setCell (i := 0) (v := .bool false) (by simp)).setCell (i := 1) (v := .slice na 0 nc) (by simp)).setCell (i := 2) (v := .slice da dn dc) (by simp))
  clear hret
  go_wp2_with fail
  obtain ⟨W0, hW0⟩ : ∃ y : World, y = w6 := ⟨_, rfl⟩
  subst hW0
  go_loopw [6, 7] (fun ev nv wr => ev = .int .i64 (-53) ∧ nv = .slice na 0 nc ∧ wr = W0) (fun _ _ _ => 0)
  case atStart => exact ⟨by first | rfl | simp, rfl, rfl⟩
  case round =>
    obtain ⟨rfl, rfl, hwr⟩ := hrel
    subst hwr
    go_wp2_with fail
    generalize (((wr.setCell ⟨w.heap.size, 0, none⟩ (.bool false)).setCell ⟨w.heap.size, 1, none⟩ (.slice na 0 nc)).setCell ⟨w.heap.size, 2, none⟩ (.slice da dn dc)) = wA at *
    have q0 := hRA.cell 0
    have q1 := hRA.cell 1
    have q2 := hRA.cell 2
    refine bodyPost_ret (v := .tuple #[.agg #[.bool false, .slice na 0 nc, .slice da dn dc], .int .i64 0]) (by simp [results, Tryd.results16, go_sem, q0, q1, q2]) rfl ?_
    exact hq


def cN (s : Nat) (w : World) : Nat := (Question.nanConv .f64 s).cut (w.tape w.drawn (.nanConv .f64 s))
theorem cN_nan (s : Nat) (w : World) : fnan (cN s w) = true ∧ cN s w < 18446744073709551616 := by
  unfold cN Question.cut
  generalize w.tape w.drawn (.nanConv .f64 s) = t
  show decide (9218868437227405312 < fr (t % 2 * 2 ^ 63 + 0x7ff0000000000000 + 1 + t / 2 % (2 ^ 52 - 1))) = true ∧ t % 2 * 2 ^ 63 + 0x7ff0000000000000 + 1 + t / 2 % (2 ^ 52 - 1) < 18446744073709551616
  have h1 : t / 2 % (2 ^ 52 - 1) < 4503599627370495 := Nat.mod_lt _ (by decide)
  generalize t / 2 % (2 ^ 52 - 1) = m at *
  have h2 : t % 2 < 2 := Nat.mod_lt _ (by decide)
  generalize t % 2 = k at *
  unfold fr
  exact ⟨decide_eq_true (by omega), by omega⟩
theorem run_conv_nan {src dst : TypeId} (s : Nat) (hn : nan32 s = true) (hs : (Tryd.prog.underlying src).isSome = true) (hd : Tryd.prog.underlying dst = some (.float .f64)) (w : World) :
    (convert src dst (.float .f32 s)).run Tryd.prog w = .ok (.float .f64 (cN s w)) w.drew := by
  obtain ⟨u, hs'⟩ := Option.isSome_iff_exists.1 hs
  obtain ⟨sg, t, he⟩ : ∃ sg t, FloatKind.f32.decode s = .nan sg t := by
    rcases read32 s with ⟨_, sg, t, h⟩ | ⟨h, _⟩ | ⟨h, _⟩
    · exact ⟨sg, t, h⟩
    · rw [hn] at h; cases h
    · rw [hn] at h; cases h
  have hq : (Question.nanConv FloatKind.f64 s).forced = false := rfl
  cases u <;> simp [convert, run_underlying hs', run_underlying hd, Conv.floatToFloat, he, hq] <;> rfl

theorem ord_inf {r : Nat} (h : r = 9218868437227405312) : (FloatKind.f64.format.order r 9218868437227405311 == some .gt) = true := by
  subst h; decide +kernel
set_option maxRecDepth 100000 in
theorem isinf_inf {w : World} {x : Nat} (hx : x < 18446744073709551616) (h : fr x = 9218868437227405312) : Calls Tryd.prog 11 #[.float .f64 x, .int .i64 0] w fun e w' => e = .returned (.bool true) ∧ w' = w := by
  have ha := hid (fun w => abs_any (w := w) x hx)
  have ho := ord_inf h
  generalize fr x = r at *
  clear h hx
  go_enter Tryd.func11, Tryd.ntmps11
  go_wp2_with fail
  refine (ha.out _).mono ?_
  rintro e w1 ⟨rfl, rfl⟩
  go_wp2
  go_ret
  exact ⟨rfl, rfl⟩

set_option maxRecDepth 100000 in
set_option maxHeartbeats 4000000 in
theorem nofe64n {w : World} (x : Nat) (hx : x < 18446744073709551616) (hf : fnan x = true) :
    Calls Tryd.prog 13 #[.float .f64 x] w (RetQE w 0 13) := by
  have HN : Hid (∀ w, Calls Tryd.prog 29 #[.float .f64 x] w (fun e w' => e = .returned (.bool true) ∧ Below w.heap.size w w')) := fun w => ((show Calls Tryd.prog 29 #[.float .f64 x] w (fun e w' => e = .returned (.bool true) ∧ w' = w) from hf ▸ isnan_any x)).mono fun e w' ⟨h1, h2⟩ => ⟨h1, by rw [h2]; exact Below.refl _ _⟩
  clear hf
  have hent := ent1 w #[Value.bool false, Value.slice none 0 0, Value.slice none 0 0] 27
  go_enter Tryd.func13, Tryd.ntmps13
  go_wp2_with fail
  generalize (w.alloc (.cells #[Value.bool false, Value.slice none 0 0, Value.slice none 0 0] 27)) = W0 at hent ⊢
  obtain ⟨R_0, hbel_0, hsz_0⟩ := hent
  have cR_0_0 : _ = some (Value.bool false) := R_0.cell 0
  have fR_0_0 := R_0.free 0
  have cR_0_1 : _ = some (Value.slice none 0 0) := R_0.cell 1
  have fR_0_1 := R_0.free 1
  have cR_0_2 : _ = some (Value.slice none 0 0) := R_0.cell 2
  have fR_0_2 := R_0.free 2
  go_wp2_with fail
  refine (HN.out _).mono ?_
  rintro e w1 ⟨rfl, hB⟩
  have hB_1 : Below W0.heap.size W0 w1 := (bl.next hB)
  have R_1 := R_0.next hB_1
  have cR_1_0 : _ = some (Value.bool false) := R_1.cell 0
  have fR_1_0 := R_1.free 0
  have cR_1_1 : _ = some (Value.slice none 0 0) := R_1.cell 1
  have fR_1_1 := R_1.free 1
  have cR_1_2 : _ = some (Value.slice none 0 0) := R_1.cell 2
  have fR_1_2 := R_1.free 2
  have hbel_1 := hbel_0.next hB_1
  have hsz_1 := hB_1.size
  clear R_0 cR_0_0 fR_0_0 cR_0_1 fR_0_1 cR_0_2 fR_0_2 hbel_0 hB_1
  try clear hB
  go_wp2
  refine bodyPost_ret (v := .tuple #[.agg #[.bool false, .slice none 0 0, .slice none 0 0], .int .i64 13]) (by simp [results, Tryd.results13, go_sem, cR_1_0, cR_1_1, cR_1_2]) rfl ?_
  exact retqe_nil (by decide) hbel_1 (by omega)

set_option maxRecDepth 100000 in
set_option maxHeartbeats 4000000 in
theorem nofe64i {w : World} (x : Nat) (hx : x < 18446744073709551616) (hf : fr x = 9218868437227405312) :
    Calls Tryd.prog 13 #[.float .f64 x] w (RetQE w 0 13) := by
  have hn0 : fnan x = false := by unfold fnan; rw [hf]; rfl
  have HN : Hid (∀ w, Calls Tryd.prog 29 #[.float .f64 x] w (fun e w' => e = .returned (.bool false) ∧ Below w.heap.size w w')) := fun w => ((show Calls Tryd.prog 29 #[.float .f64 x] w (fun e w' => e = .returned (.bool false) ∧ w' = w) from hn0 ▸ isnan_any x)).mono fun e w' ⟨h1, h2⟩ => ⟨h1, by rw [h2]; exact Below.refl _ _⟩
  have HI : Hid (∀ w, Calls Tryd.prog 11 #[.float .f64 x, .int .i64 0] w (fun e w' => e = .returned (.bool true) ∧ Below w.heap.size w w')) := fun w => (isinf_inf hx hf).mono fun e w' ⟨h1, h2⟩ => ⟨h1, by rw [h2]; exact Below.refl _ _⟩
  clear hf hn0
  have hent := ent1 w #[Value.bool false, Value.slice none 0 0, Value.slice none 0 0] 27
  go_enter Tryd.func13, Tryd.ntmps13
  go_wp2_with fail
  generalize (w.alloc (.cells #[Value.bool false, Value.slice none 0 0, Value.slice none 0 0] 27)) = W0 at hent ⊢
  obtain ⟨R_0, hbel_0, hsz_0⟩ := hent
  have cR_0_0 : _ = some (Value.bool false) := R_0.cell 0
  have fR_0_0 := R_0.free 0
  have cR_0_1 : _ = some (Value.slice none 0 0) := R_0.cell 1
  have fR_0_1 := R_0.free 1
  have cR_0_2 : _ = some (Value.slice none 0 0) := R_0.cell 2
  have fR_0_2 := R_0.free 2
  go_wp2_with fail
  refine (HN.out _).mono ?_
  rintro e w1 ⟨rfl, hB⟩
  have hB_1 : Below W0.heap.size W0 w1 := (bl.next hB)
  have R_1 := R_0.next hB_1
  have cR_1_0 : _ = some (Value.bool false) := R_1.cell 0
  have fR_1_0 := R_1.free 0
  have cR_1_1 : _ = some (Value.slice none 0 0) := R_1.cell 1
  have fR_1_1 := R_1.free 1
  have cR_1_2 : _ = some (Value.slice none 0 0) := R_1.cell 2
  have fR_1_2 := R_1.free 2
  have hbel_1 := hbel_0.next hB_1
  have hsz_1 := hB_1.size
  clear R_0 cR_0_0 fR_0_0 cR_0_1 fR_0_1 cR_0_2 fR_0_2 hbel_0 hB_1
  try clear hB
  go_wp2_with fail
  refine (HI.out _).mono ?_
  rintro e w2 ⟨rfl, hB⟩
  have hB_2 : Below w1.heap.size w1 w2 := (bl.next hB)
  have R_2 := R_1.next hB_2
  have cR_2_0 : _ = some (Value.bool false) := R_2.cell 0
  have fR_2_0 := R_2.free 0
  have cR_2_1 : _ = some (Value.slice none 0 0) := R_2.cell 1
  have fR_2_1 := R_2.free 1
  have cR_2_2 : _ = some (Value.slice none 0 0) := R_2.cell 2
  have fR_2_2 := R_2.free 2
  have hbel_2 := hbel_1.next hB_2
  have hsz_2 := hB_2.size
  clear R_1 cR_1_0 fR_1_0 cR_1_1 fR_1_1 cR_1_2 fR_1_2 hbel_1 hB_2
  try clear hB
  go_wp2
  refine bodyPost_ret (v := .tuple #[.agg #[.bool false, .slice none 0 0, .slice none 0 0], .int .i64 13]) (by simp [results, Tryd.results13, go_sem, cR_2_0, cR_2_1, cR_2_2]) rfl ?_
  exact retqe_nil (by decide) hbel_2 (by omega)

set_option maxRecDepth 100000 in
set_option maxHeartbeats 4000000 in
theorem nofe32n {w : World}  (s0 : Nat) (cs : World → Nat) (ds : World → World) (hcv : ∀ w, (convert 42 28 (.float .f32 s0)).run Tryd.prog w = .ok (.float .f64 (cs w)) (ds w)) (hds : ∀ w, Below w.heap.size w (ds w)) (hnan : ∀ w, fnan (cs w) = true) :
    Calls Tryd.prog 16 #[.float .f32 s0] w (RetQE w 0 13) := by
  have HN : Hid (∀ w v, Calls Tryd.prog 29 #[.float .f64 (cs v)] w (fun e w' => e = .returned (.bool true) ∧ Below w.heap.size w w')) := fun w v => (show Calls Tryd.prog 29 #[.float .f64 (cs v)] w (fun e w' => e = .returned (.bool true) ∧ w' = w) from hnan v ▸ isnan_any (cs v)).mono fun e w' ⟨h1, h2⟩ => ⟨h1, by rw [h2]; exact Below.refl _ _⟩
  have hdd := hid hds
  clear hnan hds
  have hent := ent1 w #[Value.bool false, Value.slice none 0 0, Value.slice none 0 0] 27
  go_enter Tryd.func16, Tryd.ntmps16
  go_wp2_with fail
  generalize (w.alloc (.cells #[Value.bool false, Value.slice none 0 0, Value.slice none 0 0] 27)) = W0 at hent ⊢
  obtain ⟨R_0, hbel_0, hsz_0⟩ := hent
  have cR_0_0 : _ = some (Value.bool false) := R_0.cell 0
  have fR_0_0 := R_0.free 0
  have cR_0_1 : _ = some (Value.slice none 0 0) := R_0.cell 1
  have fR_0_1 := R_0.free 1
  have cR_0_2 : _ = some (Value.slice none 0 0) := R_0.cell 2
  have fR_0_2 := R_0.free 2
  go_wp2_with fail
  have hB0 := hdd.out W0
  have R_1 := R_0.next hB0
  have hbel_1 := hbel_0.next hB0
  have hsz_1 := hB0.size
  refine (HN.out _ _).mono ?_
  rintro e w2 ⟨rfl, hB⟩
  have R_2 := R_1.next hB
  have hbel_2 := hbel_1.next hB
  have hsz_2 := hB.size
  clear R_0 cR_0_0 cR_0_1 cR_0_2 fR_0_0 fR_0_1 fR_0_2 R_1
  have cR_2_0 : _ = some (Value.bool false) := R_2.cell 0
  have fR_2_0 := R_2.free 0
  have cR_2_1 : _ = some (Value.slice none 0 0) := R_2.cell 1
  have fR_2_1 := R_2.free 1
  have cR_2_2 : _ = some (Value.slice none 0 0) := R_2.cell 2
  have fR_2_2 := R_2.free 2
  go_wp2
  refine bodyPost_ret (v := .tuple #[.agg #[.bool false, .slice none 0 0, .slice none 0 0], .int .i64 13]) (by simp [results, Tryd.results16, go_sem, cR_2_0, cR_2_1, cR_2_2]) rfl ?_
  exact retqe_nil (by decide) hbel_2 (by omega)

set_option maxRecDepth 100000 in
set_option maxHeartbeats 4000000 in
theorem nofe32i {w : World} (x : Nat) (s0 : Nat) (hcv : ∀ w, (convert 42 28 (.float .f32 s0)).run Tryd.prog w = .ok (.float .f64 x) w) (hx : x < 18446744073709551616) (hf : fr x = 9218868437227405312) :
    Calls Tryd.prog 16 #[.float .f32 s0] w (RetQE w 0 13) := by
  have hn0 : fnan x = false := by unfold fnan; rw [hf]; rfl
  have HN : Hid (∀ w, Calls Tryd.prog 29 #[.float .f64 x] w (fun e w' => e = .returned (.bool false) ∧ Below w.heap.size w w')) := fun w => ((show Calls Tryd.prog 29 #[.float .f64 x] w (fun e w' => e = .returned (.bool false) ∧ w' = w) from hn0 ▸ isnan_any x)).mono fun e w' ⟨h1, h2⟩ => ⟨h1, by rw [h2]; exact Below.refl _ _⟩
  have HI : Hid (∀ w, Calls Tryd.prog 11 #[.float .f64 x, .int .i64 0] w (fun e w' => e = .returned (.bool true) ∧ Below w.heap.size w w')) := fun w => (isinf_inf hx hf).mono fun e w' ⟨h1, h2⟩ => ⟨h1, by rw [h2]; exact Below.refl _ _⟩
  clear hf hn0
  have hent := ent1 w #[Value.bool false, Value.slice none 0 0, Value.slice none 0 0] 27
  go_enter Tryd.func16, Tryd.ntmps16
  go_wp2_with fail
  generalize (w.alloc (.cells #[Value.bool false, Value.slice none 0 0, Value.slice none 0 0] 27)) = W0 at hent ⊢
  obtain ⟨R_0, hbel_0, hsz_0⟩ := hent
  have cR_0_0 : _ = some (Value.bool false) := R_0.cell 0
  have fR_0_0 := R_0.free 0
  have cR_0_1 : _ = some (Value.slice none 0 0) := R_0.cell 1
  have fR_0_1 := R_0.free 1
  have cR_0_2 : _ = some (Value.slice none 0 0) := R_0.cell 2
  have fR_0_2 := R_0.free 2
  go_wp2_with fail
  refine (HN.out _).mono ?_
  rintro e w1 ⟨rfl, hB⟩
  have hB_1 : Below W0.heap.size W0 w1 := (bl.next hB)
  have R_1 := R_0.next hB_1
  have cR_1_0 : _ = some (Value.bool false) := R_1.cell 0
  have fR_1_0 := R_1.free 0
  have cR_1_1 : _ = some (Value.slice none 0 0) := R_1.cell 1
  have fR_1_1 := R_1.free 1
  have cR_1_2 : _ = some (Value.slice none 0 0) := R_1.cell 2
  have fR_1_2 := R_1.free 2
  have hbel_1 := hbel_0.next hB_1
  have hsz_1 := hB_1.size
  clear R_0 cR_0_0 fR_0_0 cR_0_1 fR_0_1 cR_0_2 fR_0_2 hbel_0 hB_1
  try clear hB
  go_wp2_with fail
  refine (HI.out _).mono ?_
  rintro e w2 ⟨rfl, hB⟩
  have hB_2 : Below w1.heap.size w1 w2 := (bl.next hB)
  have R_2 := R_1.next hB_2
  have cR_2_0 : _ = some (Value.bool false) := R_2.cell 0
  have fR_2_0 := R_2.free 0
  have cR_2_1 : _ = some (Value.slice none 0 0) := R_2.cell 1
  have fR_2_1 := R_2.free 1
  have cR_2_2 : _ = some (Value.slice none 0 0) := R_2.cell 2
  have fR_2_2 := R_2.free 2
  have hbel_2 := hbel_1.next hB_2
  have hsz_2 := hB_2.size
  clear R_1 cR_1_0 fR_1_0 cR_1_1 fR_1_1 cR_1_2 fR_1_2 hbel_1 hB_2
  try clear hB
  go_wp2
  refine bodyPost_ret (v := .tuple #[.agg #[.bool false, .slice none 0 0, .slice none 0 0], .int .i64 13]) (by simp [results, Tryd.results16, go_sem, cR_2_0, cR_2_1, cR_2_2]) rfl ?_
  exact retqe_nil (by decide) hbel_2 (by omega)

/-- the value of a float, and its error -/
def fq (x : Nat) : Rat := if fr x < 9218868437227405312 then flV (fs x) (fr x) else 0
def fe (x : Nat) : Int := if fr x < 9218868437227405312 then 0 else 13
theorem fnan_of {x : Nat} (h : ¬ fr x < 9218868437227405312) (h2 : fr x ≠ 9218868437227405312) : fnan x = true := decide_eq_true (by omega)
theorem f_nan {x : Nat} (h : fnan x = true) : fq x = 0 ∧ fe x = 13 := by
  have h2 : ¬ fr x < 9218868437227405312 := by have := of_decide_eq_true h; omega
  exact ⟨if_neg h2, if_neg h2⟩
/-- the value of a float of 32 bits, and its error -/
def fq32 (s : Nat) : Rat := if nan32 s then 0 else fq (c32 s)
def fe32 (s : Nat) : Int := if nan32 s then 13 else fe (c32 s)

theorem near64 {w : World} (x : Nat) (hx : x < 18446744073709551616) : Calls Tryd.prog 13 #[.float .f64 x] w (RetQE w (fq x) (fe x)) := by
  unfold fq fe
  by_cases h : fr x < 9218868437227405312
  · rw [if_pos h, if_pos h]
    by_cases h0 : fr x = 0
    · rw [h0]; exact nof64z x hx h0
    · exact nof64 x hx h h0
  · rw [if_neg h, if_neg h]
    by_cases h2 : fr x = 9218868437227405312
    · exact nofe64i x hx h2
    · exact nofe64n x hx (fnan_of h h2)

set_option maxRecDepth 100000 in
theorem near32 {w : World} (s : Nat) : Calls Tryd.prog 16 #[.float .f32 s] w (RetQE w (fq32 s) (fe32 s)) := by
  unfold fq32 fe32
  cases hn : nan32 s
  · have hcv : ∀ w, (convert 42 28 (.float .f32 s)).run Tryd.prog w = .ok (.float .f64 (c32 s)) w := fun w => run_convert_float_float w _ _ .f32 .f64 s _ rfl rfl (conv32 hn)
    have hx := c32_lt s
    simp only [Bool.false_eq_true, if_false]
    generalize c32 s = x at *
    unfold fq fe
    by_cases h : fr x < 9218868437227405312
    · rw [if_pos h, if_pos h]
      by_cases h0 : fr x = 0
      · rw [h0]; exact nof32z x s hcv hx h0
      · exact nof32 x s hcv hx h h0
    · rw [if_neg h, if_neg h]
      by_cases h2 : fr x = 9218868437227405312
      · exact nofe32i x s hcv hx h2
      · exact nofe32n s (fun _ => x) (fun w => w) hcv (fun w => Below.refl _ _) (fun _ => fnan_of h h2)
  · simp only [if_true]
    exact nofe32n s (cN s) World.drew (run_conv_nan s hn rfl rfl) (fun w => (Below.refl _ _).drew) (fun w => (cN_nan s w).1)

end Go.Proofs.YtoeldbdcbfgmoaaDoor
/- WALKS OF FLOATS: credencelaw05.alive. -/
namespace Go.Proofs.YtoeldbdcbfgmoaaDoor
set_option linter.unusedVariables false
set_option linter.unusedSimpArgs false
open Go.ChangeShapes Go.WideShapes Go.ChangeAt Go.RowKit Go.NatP Go.FloatP

theorem two_sz {k j : Nat} (h : k < 32 * j) : Sz (2 ^ k) j := by
  show 2 ^ k < 4294967296 ^ j
  rw [show (4294967296 : Nat) = 2 ^ 32 from rfl, ← Nat.pow_mul]
  exact Nat.pow_lt_pow_right (by decide) h
theorem fg_sz {r : Nat} (h : r < 9218868437227405312) : Sz (fg r) 66 := by
  unfold fg
  split
  · rename_i h1
    exact (show Sz r 2 by show r < 4294967296 ^ 2; omega).mono (Nat.le_refl _) (by omega)
  · obtain ⟨k, hk⟩ : ∃ k, r / 4503599627370496 - 1 = k := ⟨_, rfl⟩
    have h1 : Sz (4503599627370496 + r % 4503599627370496) 2 := by
      show _ < 4294967296 ^ 2
      have := Nat.mod_lt r (show 0 < 4503599627370496 by decide); omega
    rw [hk]
    exact h1.mul (two_sz (k := k) (j := 64) (by omega))
theorem e74_sz : Sz (2 ^ E74) 66 := two_sz (by show 1074 < 32 * 66; decide)

theorem flV_qs (s : Bool) {r : Nat} (h : r < 9218868437227405312) : QS (flV s r) 66 := QS.mk (two_ne E74) (by rw [zv_abs]; exact fg_sz h) e74_sz
theorem qs_zero66 : QS (0 : Rat) 66 := ⟨(sz_one (k := 66) (by omega)).mono (by decide) (Nat.le_refl _), sz_one (by omega)⟩
theorem fq_qs (x : Nat) : QS (fq x) 66 := by
  unfold fq
  split
  · rename_i h; exact flV_qs _ h
  · exact qs_zero66

/-- a fraction of one limb over one limb, beside no error -/
def RetR1 (w : World) (s : Bool) (u v : Nat) (e : Ending) (w' : World) : Prop :=
  ∃ a c b d, e = .returned (.tuple #[.agg #[.bool s, .slice a 1 c, .slice b 1 d], .int .i64 0]) ∧ Own w.heap.size w' a 1 c [u] ∧ Own w.heap.size w' b 1 d [v] ∧ Below w.heap.size w w'
theorem retr1 {w w' : World} {q : Rat} {s : Bool} {u v : Nat} {e : Ending} (h1 : qsg q 0 = s) (h2 : qnl q 0 = [u]) (h3 : qdl q 0 = [v]) (h : RetQE w q 0 e w') : RetR1 w s u v e w' := by
  obtain ⟨a, n, c, b, m, d, rfl, hO, hO', hD, hB⟩ := h
  rw [h2] at hO; rw [h3] at hO'
  obtain rfl : 1 = n := hO.len
  obtain rfl : 1 = m := hO'.len
  exact ⟨a, c, b, d, by rw [h1], hO, hO', hB⟩
theorem fg_hi {r : Nat} (h : 4503599627370496 ≤ r) : fg r = (4503599627370496 + r % 4503599627370496) * 2 ^ (r / 4503599627370496 - 1) := if_neg (by omega)
theorem q34 : fq 4604930618986332160 = mkRat 3 4 := by
  have hfr : fr 4604930618986332160 = 4604930618986332160 := by decide
  have hs : fs 4604930618986332160 = false := by decide
  unfold fq
  rw [if_pos (by decide), hs, hfr]
  obtain ⟨r, hr⟩ : ∃ r : Nat, r = 4604930618986332160 := ⟨_, rfl⟩
  rw [← hr]
  have hg := fg_hi (r := r) (by omega)
  obtain ⟨K, hK⟩ : ∃ K, r / 4503599627370496 - 1 = K := ⟨_, rfl⟩
  have hK2 : K = 1021 := by omega
  have hm : r % 4503599627370496 = 2251799813685248 := by omega
  rw [hK, hm] at hg
  have h := flV_below (s := false) (r := r) (num := 3) (D := 2) (by
    rw [hg]
    have hE : E74 = 53 + K := by show 1074 = 53 + K; omega
    rw [hE, Nat.pow_add]
    generalize 2 ^ K = Z
    rw [show (2 : Nat) ^ 53 = 9007199254740992 by decide]
    omega) (.inl (by decide))
  exact Rat.ext (h.1.trans (by decide)) (h.2.trans (by decide))
theorem t34 : qtx (mkRat 3 4) = ⟨#[51, 47, 52]⟩ := by decide +kernel

set_option maxRecDepth 100000 in
set_option maxHeartbeats 8000000 in
theorem alive05 {w : World} (GL : Lng w) (GS : Sht w) :
    Calls Tryd.prog 15 #[] w (fun e w' => e = .returned (.bool true) ∧ Below w.heap.size w w') := by
  have H12 := hid (fun w => (qof (w := w) 1 2 (by omega) (by omega) (by omega) (by omega)).mono fun e w' h => retr1 (s := false) (u := 1) (v := 2) (by decide +kernel) (by decide +kernel) (by decide +kernel) h)
  have H13 := hid (fun w => (qof (w := w) (-1) 3 (by omega) (by omega) (by omega) (by omega)).mono fun e w' h => retr1 (s := true) (u := 1) (v := 3) (by decide +kernel) (by decide +kernel) (by decide +kernel) h)
  have hfe : fe 4604930618986332160 = 0 := by decide
  have H34 := hid (fun w => (show Calls Tryd.prog 13 #[.float .f64 4604930618986332160] w (RetQE w (mkRat 3 4) 0) from hfe ▸ q34 ▸ near64 (w := w) 4604930618986332160 (by decide)))
  have hqs : Hid (QS (mkRat 3 4) 1) := ⟨(show Sz _ 1 by show _ < 4294967296 ^ 1; decide), (show Sz _ 1 by show _ < 4294967296 ^ 1; decide)⟩
  have HT : Hid (∀ W s a n c b m d, RdQ 1 W s a n c b m d (mkRat 3 4) → Calls Tryd.prog 45 #[.agg #[.bool s, .slice a n c, .slice b m d]] W (RetT W ⟨#[51, 47, 52]⟩)) := fun W s a n c b m d h => t34 ▸ qtext h (by omega)
  generalize mkRat 3 4 = q at *
  clear hfe
  have e1 : (FloatKind.f64.format.order 4602678819172646912 4602678819172646912 == some .eq) = true := by decide +kernel
  have e2 : (FloatKind.f64.format.order 13823048456275842390 13823048456275842390 == some .eq) = true := by decide +kernel
  have e3 : (FloatKind.f64.format.order 13823048456275842389 13823048456275842389 == some .eq) = true := by decide +kernel
  have e4 : (FloatKind.f32.format.order 1056964608 1056964608 == some .eq) = true := by decide +kernel
  go_enter Tryd.func15, Tryd.ntmps15
  have hbel_0 : Below w.heap.size w w := Below.refl _ _
  have GL_0 := GL.below hbel_0
  clear GL
  have GS_0 := GS.below hbel_0
  clear GS
  go_wp2_with fail
  refine (H12.out _).mono ?_
  rintro e w1 ⟨ha, hc, hb, hd, rfl, hO, hO', hB⟩
  have hB_1 : Below w.heap.size w w1 := (bl.next hB)
  have GL_1 := GL_0.below hB_1
  have GS_1 := GS_0.below hB_1
  have hbel_1 := hbel_0.next hB_1
  have hsz_1 := hB_1.size
  clear GL_0 GS_0 hbel_0 hB_1
  have Oh_1 := hO
  have ltOh := hO.ltB
  have Ph_1 := hO'
  have ltPh := hO'.ltB
  clear hO hO'
  try clear hB
  have hbx := blk_new w1 #[Value.bool false, Value.slice ha 1 hc, Value.slice hb 1 hd] 27
  have hbB := (Below.refl w1.heap.size w1).alloc (Nat.le_refl _) (.cells #[Value.bool false, Value.slice ha 1 hc, Value.slice hb 1 hd] 27)
  have hltA := hbx.lt
  have hB_2 : Below w1.heap.size w1 (w1.alloc (.cells #[Value.bool false, Value.slice ha 1 hc, Value.slice hb 1 hd] 27)) := hbB
  have GL_2 := GL_1.below hB_2
  have GS_2 := GS_1.below hB_2
  have Oh_2 := Oh_1.below hB_2
  have Ph_2 := Ph_1.below hB_2
  have hbel_2 := hbel_1.next hB_2
  have hsz_2 := hB_2.size
  clear hB_2
  have A_2 := hbx
  clear hbx hbB
  have cA_2_0 : _ = some (Value.bool false) := A_2.cell 0
  have cA_2_1 : _ = some (Value.slice ha 1 hc) := A_2.cell 1
  have cA_2_2 : _ = some (Value.slice hb 1 hd) := A_2.cell 2
  go_wp2_with fail
  clear GL_1 GS_1 Oh_1 Ph_1 hbel_1
  generalize (w1.alloc (.cells #[Value.bool false, Value.slice ha 1 hc, Value.slice hb 1 hd] 27)) = v2 at *
  go_wp2_with fail
  refine (H13.out _).mono ?_
  rintro e w3 ⟨ta, tc, tb, td, rfl, hO, hO', hB⟩
  have hB_3 : Below v2.heap.size v2 w3 := (bl.next hB)
  have A_3 := A_2.next hB_3
  have cA_3_0 : _ = some (Value.bool false) := A_3.cell 0
  have cA_3_1 : _ = some (Value.slice ha 1 hc) := A_3.cell 1
  have cA_3_2 : _ = some (Value.slice hb 1 hd) := A_3.cell 2
  have GL_3 := GL_2.below hB_3
  have GS_3 := GS_2.below hB_3
  have Oh_3 := Oh_2.below hB_3
  have Ph_3 := Ph_2.below hB_3
  have hbel_3 := hbel_2.next hB_3
  have hsz_3 := hB_3.size
  clear A_2 cA_2_0 cA_2_1 cA_2_2 GL_2 GS_2 Oh_2 Ph_2 hbel_2 hB_3
  have Ot_3 := hO
  have ltOt := hO.ltB
  have Pt_3 := hO'
  have ltPt := hO'.ltB
  clear hO hO'
  try clear hB
  have hbx := blk_new w3 #[Value.bool true, Value.slice ta 1 tc, Value.slice tb 1 td] 27
  have hbB := (Below.refl w3.heap.size w3).alloc (Nat.le_refl _) (.cells #[Value.bool true, Value.slice ta 1 tc, Value.slice tb 1 td] 27)
  have hltB := hbx.lt
  have hB_4 : Below w3.heap.size w3 (w3.alloc (.cells #[Value.bool true, Value.slice ta 1 tc, Value.slice tb 1 td] 27)) := hbB
  have A_4 := A_3.next hB_4
  have cA_4_0 : _ = some (Value.bool false) := A_4.cell 0
  have cA_4_1 : _ = some (Value.slice ha 1 hc) := A_4.cell 1
  have cA_4_2 : _ = some (Value.slice hb 1 hd) := A_4.cell 2
  have GL_4 := GL_3.below hB_4
  have GS_4 := GS_3.below hB_4
  have Oh_4 := Oh_3.below hB_4
  have Ph_4 := Ph_3.below hB_4
  have Ot_4 := Ot_3.below hB_4
  have Pt_4 := Pt_3.below hB_4
  have hbel_4 := hbel_3.next hB_4
  have hsz_4 := hB_4.size
  clear hB_4
  have B_4 := hbx
  clear hbx hbB
  have cB_4_0 : _ = some (Value.bool true) := B_4.cell 0
  have cB_4_1 : _ = some (Value.slice ta 1 tc) := B_4.cell 1
  have cB_4_2 : _ = some (Value.slice tb 1 td) := B_4.cell 2
  go_wp2_with fail
  clear A_3 cA_3_0 cA_3_1 cA_3_2 GL_3 GS_3 Oh_3 Ph_3 Ot_3 Pt_3 hbel_3
  generalize (w3.alloc (.cells #[Value.bool true, Value.slice ta 1 tc, Value.slice tb 1 td] 27)) = v4 at *
  go_wp2_with fail
  refine (around3 GL_4.a GL_4.b GL_4.c Ot_4.rd Pt_4.rd).mono ?_
  rintro e w5 ⟨rfl, hB⟩
  have hB_5 : Below v4.heap.size v4 w5 := (bl.next hB)
  have A_5 := A_4.next hB_5
  have cA_5_0 : _ = some (Value.bool false) := A_5.cell 0
  have cA_5_1 : _ = some (Value.slice ha 1 hc) := A_5.cell 1
  have cA_5_2 : _ = some (Value.slice hb 1 hd) := A_5.cell 2
  have B_5 := B_4.next hB_5
  have cB_5_0 : _ = some (Value.bool true) := B_5.cell 0
  have cB_5_1 : _ = some (Value.slice ta 1 tc) := B_5.cell 1
  have cB_5_2 : _ = some (Value.slice tb 1 td) := B_5.cell 2
  have GL_5 := GL_4.below hB_5
  have GS_5 := GS_4.below hB_5
  have Oh_5 := Oh_4.below hB_5
  have Ph_5 := Ph_4.below hB_5
  have Ot_5 := Ot_4.below hB_5
  have Pt_5 := Pt_4.below hB_5
  have hbel_5 := hbel_4.next hB_5
  have hsz_5 := hB_5.size
  clear A_4 cA_4_0 cA_4_1 cA_4_2 B_4 cB_4_0 cB_4_1 cB_4_2 GL_4 GS_4 Oh_4 Ph_4 Ot_4 Pt_4 hbel_4 hB_5
  try clear hB
  go_wp2_with fail
  refine (H34.out _).mono ?_
  rintro e w6 ⟨xa, xn, xc, xb, xm, xd, rfl, hO, hO', hD, hB⟩
  have hB_6 : Below w5.heap.size w5 w6 := (bl.next hB)
  have A_6 := A_5.next hB_6
  have cA_6_0 : _ = some (Value.bool false) := A_6.cell 0
  have cA_6_1 : _ = some (Value.slice ha 1 hc) := A_6.cell 1
  have cA_6_2 : _ = some (Value.slice hb 1 hd) := A_6.cell 2
  have B_6 := B_5.next hB_6
  have cB_6_0 : _ = some (Value.bool true) := B_6.cell 0
  have cB_6_1 : _ = some (Value.slice ta 1 tc) := B_6.cell 1
  have cB_6_2 : _ = some (Value.slice tb 1 td) := B_6.cell 2
  have GL_6 := GL_5.below hB_6
  have GS_6 := GS_5.below hB_6
  have Oh_6 := Oh_5.below hB_6
  have Ph_6 := Ph_5.below hB_6
  have Ot_6 := Ot_5.below hB_6
  have Pt_6 := Pt_5.below hB_6
  have hbel_6 := hbel_5.next hB_6
  have hsz_6 := hB_6.size
  clear A_5 cA_5_0 cA_5_1 cA_5_2 B_5 cB_5_0 cB_5_1 cB_5_2 GL_5 GS_5 Oh_5 Ph_5 Ot_5 Pt_5 hbel_5 hB_6
  have Ox_6 := hO
  have ltOx := hO.ltB
  have Px_6 := hO'
  have ltPx := hO'.ltB
  clear hO hO'
  clear hD
  try clear hB
  have hbx := blk_new w6 #[Value.bool (qsg q 0), Value.slice xa xn xc, Value.slice xb xm xd] 27
  have hbB := (Below.refl w6.heap.size w6).alloc (Nat.le_refl _) (.cells #[Value.bool (qsg q 0), Value.slice xa xn xc, Value.slice xb xm xd] 27)
  have hltX := hbx.lt
  have hB_7 : Below w6.heap.size w6 (w6.alloc (.cells #[Value.bool (qsg q 0), Value.slice xa xn xc, Value.slice xb xm xd] 27)) := hbB
  have A_7 := A_6.next hB_7
  have cA_7_0 : _ = some (Value.bool false) := A_7.cell 0
  have cA_7_1 : _ = some (Value.slice ha 1 hc) := A_7.cell 1
  have cA_7_2 : _ = some (Value.slice hb 1 hd) := A_7.cell 2
  have B_7 := B_6.next hB_7
  have cB_7_0 : _ = some (Value.bool true) := B_7.cell 0
  have cB_7_1 : _ = some (Value.slice ta 1 tc) := B_7.cell 1
  have cB_7_2 : _ = some (Value.slice tb 1 td) := B_7.cell 2
  have GL_7 := GL_6.below hB_7
  have GS_7 := GS_6.below hB_7
  have Oh_7 := Oh_6.below hB_7
  have Ph_7 := Ph_6.below hB_7
  have Ot_7 := Ot_6.below hB_7
  have Pt_7 := Pt_6.below hB_7
  have Ox_7 := Ox_6.below hB_7
  have Px_7 := Px_6.below hB_7
  have hbel_7 := hbel_6.next hB_7
  have hsz_7 := hB_7.size
  clear hB_7
  have X_7 := hbx
  clear hbx hbB
  have cX_7_0 : _ = some (Value.bool (qsg q 0)) := X_7.cell 0
  have cX_7_1 : _ = some (Value.slice xa xn xc) := X_7.cell 1
  have cX_7_2 : _ = some (Value.slice xb xm xd) := X_7.cell 2
  go_wp2_with fail
  clear A_6 cA_6_0 cA_6_1 cA_6_2 B_6 cB_6_0 cB_6_1 cB_6_2 GL_6 GS_6 Oh_6 Ph_6 Ot_6 Pt_6 Ox_6 Px_6 hbel_6
  generalize (w6.alloc (.cells #[Value.bool (qsg q 0), Value.slice xa xn xc, Value.slice xb xm xd] 27)) = v7 at *
  go_wp2_with fail
  refine (HT.out _ _ _ _ _ _ _ _ (Ox_7.rdQ Px_7 hqs.out)).mono ?_
  rintro e w8 ⟨rfl, hB⟩
  have hB_8 : Below v7.heap.size v7 w8 := (bl.next hB)
  have A_8 := A_7.next hB_8
  have cA_8_0 : _ = some (Value.bool false) := A_8.cell 0
  have cA_8_1 : _ = some (Value.slice ha 1 hc) := A_8.cell 1
  have cA_8_2 : _ = some (Value.slice hb 1 hd) := A_8.cell 2
  have B_8 := B_7.next hB_8
  have cB_8_0 : _ = some (Value.bool true) := B_8.cell 0
  have cB_8_1 : _ = some (Value.slice ta 1 tc) := B_8.cell 1
  have cB_8_2 : _ = some (Value.slice tb 1 td) := B_8.cell 2
  have X_8 := X_7.next hB_8
  have cX_8_0 : _ = some (Value.bool (qsg q 0)) := X_8.cell 0
  have cX_8_1 : _ = some (Value.slice xa xn xc) := X_8.cell 1
  have cX_8_2 : _ = some (Value.slice xb xm xd) := X_8.cell 2
  have GL_8 := GL_7.below hB_8
  have GS_8 := GS_7.below hB_8
  have Oh_8 := Oh_7.below hB_8
  have Ph_8 := Ph_7.below hB_8
  have Ot_8 := Ot_7.below hB_8
  have Pt_8 := Pt_7.below hB_8
  have Ox_8 := Ox_7.below hB_8
  have Px_8 := Px_7.below hB_8
  have hbel_8 := hbel_7.next hB_8
  have hsz_8 := hB_8.size
  clear A_7 cA_7_0 cA_7_1 cA_7_2 B_7 cB_7_0 cB_7_1 cB_7_2 X_7 cX_7_0 cX_7_1 cX_7_2 GL_7 GS_7 Oh_7 Ph_7 Ot_7 Pt_7 Ox_7 Px_7 hbel_7 hB_8
  try clear hB
  go_wp2_with fail
  refine (nearest2 GL_8.a GL_8.b GL_8.c Oh_8.rd Ph_8.rd).mono ?_
  rintro e w9 ⟨rfl, hB⟩
  have hB_9 : Below w8.heap.size w8 w9 := (bl.next hB)
  have A_9 := A_8.next hB_9
  have cA_9_0 : _ = some (Value.bool false) := A_9.cell 0
  have cA_9_1 : _ = some (Value.slice ha 1 hc) := A_9.cell 1
  have cA_9_2 : _ = some (Value.slice hb 1 hd) := A_9.cell 2
  have B_9 := B_8.next hB_9
  have cB_9_0 : _ = some (Value.bool true) := B_9.cell 0
  have cB_9_1 : _ = some (Value.slice ta 1 tc) := B_9.cell 1
  have cB_9_2 : _ = some (Value.slice tb 1 td) := B_9.cell 2
  have X_9 := X_8.next hB_9
  have cX_9_0 : _ = some (Value.bool (qsg q 0)) := X_9.cell 0
  have cX_9_1 : _ = some (Value.slice xa xn xc) := X_9.cell 1
  have cX_9_2 : _ = some (Value.slice xb xm xd) := X_9.cell 2
  have GL_9 := GL_8.below hB_9
  have GS_9 := GS_8.below hB_9
  have Oh_9 := Oh_8.below hB_9
  have Ph_9 := Ph_8.below hB_9
  have Ot_9 := Ot_8.below hB_9
  have Pt_9 := Pt_8.below hB_9
  have Ox_9 := Ox_8.below hB_9
  have Px_9 := Px_8.below hB_9
  have hbel_9 := hbel_8.next hB_9
  have hsz_9 := hB_9.size
  clear A_8 cA_8_0 cA_8_1 cA_8_2 B_8 cB_8_0 cB_8_1 cB_8_2 X_8 cX_8_0 cX_8_1 cX_8_2 GL_8 GS_8 Oh_8 Ph_8 Ot_8 Pt_8 Ox_8 Px_8 hbel_8 hB_9
  try clear hB
  go_wp2_with fail
  refine (single2 GS_9.a GS_9.b GS_9.c Oh_9.rd Ph_9.rd).mono ?_
  rintro e w10 ⟨rfl, hB⟩
  have hB_10 : Below w9.heap.size w9 w10 := (bl.next hB)
  have A_10 := A_9.next hB_10
  have cA_10_0 : _ = some (Value.bool false) := A_10.cell 0
  have cA_10_1 : _ = some (Value.slice ha 1 hc) := A_10.cell 1
  have cA_10_2 : _ = some (Value.slice hb 1 hd) := A_10.cell 2
  have B_10 := B_9.next hB_10
  have cB_10_0 : _ = some (Value.bool true) := B_10.cell 0
  have cB_10_1 : _ = some (Value.slice ta 1 tc) := B_10.cell 1
  have cB_10_2 : _ = some (Value.slice tb 1 td) := B_10.cell 2
  have X_10 := X_9.next hB_10
  have cX_10_0 : _ = some (Value.bool (qsg q 0)) := X_10.cell 0
  have cX_10_1 : _ = some (Value.slice xa xn xc) := X_10.cell 1
  have cX_10_2 : _ = some (Value.slice xb xm xd) := X_10.cell 2
  have GL_10 := GL_9.below hB_10
  have GS_10 := GS_9.below hB_10
  have Oh_10 := Oh_9.below hB_10
  have Ph_10 := Ph_9.below hB_10
  have Ot_10 := Ot_9.below hB_10
  have Pt_10 := Pt_9.below hB_10
  have Ox_10 := Ox_9.below hB_10
  have Px_10 := Px_9.below hB_10
  have hbel_10 := hbel_9.next hB_10
  have hsz_10 := hB_10.size
  clear A_9 cA_9_0 cA_9_1 cA_9_2 B_9 cB_9_0 cB_9_1 cB_9_2 X_9 cX_9_0 cX_9_1 cX_9_2 GL_9 GS_9 Oh_9 Ph_9 Ot_9 Pt_9 Ox_9 Px_9 hbel_9 hB_10
  try clear hB
  go_wp2
  go_ret
  exact ⟨rfl, hbel_10⟩

end Go.Proofs.YtoeldbdcbfgmoaaDoor
/- PLAIN LAW: the two floats round a fraction: side by side, the fraction between; the nearest is one of them. No program in sight. -/
namespace Go.NatP
open Go.FloatP
set_option linter.unusedVariables false

theorem dv_und (n : Nat) : dv n = und n := rfl
/-- a float's number, in units of the least place -/
def wv (x : Nat) : Int := sgd (fs x) (fg (fr x))
theorem sb_f {r : Nat} (h : r ≤ 9218868437227405312) : fs r = false ∧ fr r = r := by
  unfold fs fr
  have : r / 9223372036854775808 = 0 := by omega
  rw [this]
  exact ⟨rfl, by omega⟩
theorem sb_t {t : Nat} (h : t ≤ 9218868437227405312) : fr (sb true t) = t ∧ fk (sb true t) = -(t : Int) ∧ wv (sb true t) = -(fg t : Int) := by
  by_cases h0 : t = 0
  · subst h0
    have e : sb true 0 = 0 := by unfold sb; exact if_neg (by simp)
    rw [e]
    decide
  · have e : sb true t = 9223372036854775808 + t := by unfold sb; exact if_pos ⟨rfl, h0⟩
    have h1 : fs (9223372036854775808 + t) = true := by
      unfold fs
      have : (9223372036854775808 + t) / 9223372036854775808 = 1 := by omega
      rw [this]; rfl
    have h2 : fr (9223372036854775808 + t) = t := by unfold fr; omega
    rw [e]
    refine ⟨h2, ?_, ?_⟩
    · unfold fk; rw [h1, h2]; rfl
    · unfold wv sgd; rw [h1, h2]; rfl
theorem sb_fk {r : Nat} (h : r ≤ 9218868437227405312) : fk r = r ∧ wv r = fg r := by
  obtain ⟨h1, h2⟩ := sb_f h
  constructor
  · unfold fk; rw [h1, h2]; rfl
  · unfold wv sgd; rw [h1, h2]; rfl
/-- how a float's value stands to a fraction -/
theorem cmp_wv {s : Bool} {u v0 x : Nat} : cmpQ (flV (fs x) (fr x)) (qv s u v0) = cmpZ (wv x * (dv v0 : Nat)) (zv s u * ((2 ^ E74 : Nat) : Int)) := by
  unfold flV qv
  rw [← dv_und, ← cmpQ_mk (two_ne E74) (Nat.ne_of_gt (dv_pos v0))]
  rfl
theorem cmpZ_le {a b : Int} : cmpZ a b ≤ 0 ↔ a ≤ b := by unfold cmpZ; split <;> (try split) <;> omega
theorem cmpZ_ge {a b : Int} : 0 ≤ cmpZ a b ↔ b ≤ a := by unfold cmpZ; split <;> (try split) <;> omega
theorem cmpZ_z {a b : Int} : cmpZ a b = 0 ↔ a = b := by unfold cmpZ; split <;> (try split) <;> omega
structure NA (s : Bool) (u v0 lo hi x : Nat) : Prop where
  nl : fr lo ≤ 9218868437227405312
  nh : fr hi ≤ 9218868437227405312
  nx : fr x ≤ 9218868437227405312
  ll : lo < 18446744073709551616
  lh : hi < 18446744073709551616
  lx : x < 18446744073709551616
  le : fk lo ≤ fk hi
  one : fk x = fk lo ∨ fk x = fk hi
  low : fr lo < 9218868437227405312 → cmpQ (flV (fs lo) (fr lo)) (qv s u v0) ≤ 0
  high : fr hi < 9218868437227405312 → 0 ≤ cmpQ (flV (fs hi) (fr hi)) (qv s u v0)
  li : ¬ fr lo < 9218868437227405312 → lo = 18442240474082181120
  hi' : ¬ fr hi < 9218868437227405312 → hi = 9218868437227405312
  ex : fk lo = fk hi → fr lo < 9218868437227405312 ∧ fr hi < 9218868437227405312 ∧ cmpQ (flV (fs lo) (fr lo)) (qv s u v0) = 0
  nxt : fk lo < fk hi → (lo = 0 ∧ hi = 1) ∨ (∃ r, 0 < r ∧ r < 9218868437227405312 ∧ lo = r ∧ hi = r + 1) ∨ (∃ t, 0 < t ∧ t ≤ 9218868437227405312 ∧ lo = 9223372036854775808 + t ∧ fk hi = -((t - 1 : Nat) : Int))
theorem fr_le_lt {x : Nat} (h : fr x = x ∧ x ≤ 9218868437227405312 ∨ ∃ t, x = sb true t ∧ t ≤ 9218868437227405312) : x < 18446744073709551616 := by
  rcases h with h | ⟨t, rfl, h⟩
  · omega
  · unfold sb; split <;> omega
theorem na_of {s : Bool} {u v0 r t p : Nat} (hA : Arnd (u * 2 ^ E74) (dv v0) r t) (hN : Near (u * 2 ^ E74) (dv v0) p) :
    NA s u v0 (if s = true then sb true t else r) (if s = true then sb true r else t) (sb s p) := by
  have hv := Nat.ne_of_gt (dv_pos v0)
  have hp := near_in hv hN hA
  have hrt : r ≤ t ∧ t ≤ 9218868437227405312 ∧ r < 9218868437227405312 ∧ (t = r ∨ t = r + 1) := by
    rcases hA with ⟨rfl, h, _⟩ | ⟨rfl, h, _⟩ <;> omega
  obtain ⟨h1, h2, h3, h4⟩ := hrt
  have hp2 : p ≤ 9218868437227405312 := by omega
  have z1 : fg r * dv v0 ≤ u * 2 ^ E74 := by
    rcases hA with ⟨_, _, h⟩ | ⟨_, _, h, _⟩ <;> omega
  have z2 : t < 9218868437227405312 → u * 2 ^ E74 ≤ fg t * dv v0 := fun ht => by
    rcases hA with ⟨rfl, _, h⟩ | ⟨_, _, h, h5⟩ <;> omega
  have z3 : t = r → fg r * dv v0 = u * 2 ^ E74 := fun ht => by
    rcases hA with ⟨_, _, h⟩ | ⟨h, _⟩ <;> omega
  generalize hAA : u * 2 ^ E74 = A at *
  have cA : ((u : Int)) * ((2 ^ E74 : Nat) : Int) = (A : Int) := by rw [← hAA]; simp
  have c1 : (fg r : Int) * (dv v0 : Nat) = ((fg r * dv v0 : Nat) : Int) := by simp
  have c2 : (fg t : Int) * (dv v0 : Nat) = ((fg t * dv v0 : Nat) : Int) := by simp
  clear hA hN hAA
  cases s
  · obtain ⟨r1, r2⟩ := sb_f (r := r) (by omega)
    obtain ⟨t1, t2⟩ := sb_f (r := t) h2
    obtain ⟨r3, r4⟩ := sb_fk (r := r) (by omega)
    obtain ⟨t3, t4⟩ := sb_fk (r := t) h2
    have ep : sb false p = p := by unfold sb; exact if_neg (by simp)
    obtain ⟨p1, p2⟩ := sb_f (r := p) hp2
    obtain ⟨p3, _⟩ := sb_fk (r := p) hp2
    rw [if_neg (by decide), if_neg (by decide), ep]
    have zA : zv false u * ((2 ^ E74 : Nat) : Int) = A := cA
    refine ⟨by omega, by omega, by omega, by omega, by omega, by omega, by omega, by omega, ?_, ?_, by omega, by omega, ?_, ?_⟩
    · intro _; rw [cmp_wv, zA, r4, cmpZ_le, c1]; omega
    · intro h; rw [t2] at h; rw [cmp_wv, zA, t4, cmpZ_ge, c2]; have := z2 h; omega
    · intro h
      have ht : t = r := by omega
      refine ⟨by omega, by omega, ?_⟩
      rw [cmp_wv, zA, r4, cmpZ_z, c1]
      have := z3 ht; omega
    · intro h
      by_cases h0 : r = 0
      · exact .inl ⟨h0, by omega⟩
      · exact .inr (.inl ⟨r, by omega, h3, rfl, by omega⟩)
  · obtain ⟨t1, t2, t3⟩ := sb_t h2
    obtain ⟨r1, r2, r3⟩ := sb_t (t := r) (by omega)
    obtain ⟨p1, p2, _⟩ := sb_t hp2
    rw [if_pos rfl, if_pos rfl]
    have zA : zv true u * ((2 ^ E74 : Nat) : Int) = -(A : Int) := by
      show -(u : Int) * _ = _
      rw [Int.neg_mul, cA]
    refine ⟨by omega, by omega, by omega, fr_le_lt (.inr ⟨t, rfl, h2⟩), fr_le_lt (.inr ⟨r, rfl, by omega⟩), fr_le_lt (.inr ⟨p, rfl, hp2⟩), by omega, by omega, ?_, ?_, ?_, by omega, ?_, ?_⟩
    · intro h; rw [t1] at h; rw [cmp_wv, zA, t3, cmpZ_le, Int.neg_mul, c2]; have := z2 h; omega
    · intro _; rw [cmp_wv, zA, r3, cmpZ_ge, Int.neg_mul, c1]; omega
    · intro h; rw [t1] at h
      have ht : t = 9218868437227405312 := by omega
      rw [ht]; unfold sb; exact if_pos ⟨rfl, by omega⟩
    · intro h
      have ht : t = r := by omega
      refine ⟨by omega, by omega, ?_⟩
      rw [cmp_wv, zA, t3, cmpZ_z, Int.neg_mul, c2, ht]
      have := z3 ht; omega
    · intro h
      have ht : t = r + 1 := by omega
      refine .inr (.inr ⟨t, by omega, h2, ?_, by omega⟩)
      unfold sb; exact if_pos ⟨rfl, by omega⟩
end Go.NatP
/- PLAIN LAW: how far the two floats round a fraction are: the nearest one is no farther than the other. No program in sight. -/
namespace Go.NatP
open Go.FloatP
set_option linter.unusedVariables false

/-- how far -/
def aq (z : Rat) : Rat := if z < 0 then -z else z
theorem mk_neg_iff {n : Int} {d : Nat} (hd : d ≠ 0) : mkRat n d < 0 ↔ n < 0 := by
  have h := mkRat_lt_iff (n1 := n) (n2 := 0) hd (show (1 : Nat) ≠ 0 by decide)
  rw [show mkRat 0 1 = 0 from rfl] at h
  rw [h]
  simp
theorem aq_mk {n : Int} {d : Nat} (hd : d ≠ 0) : aq (mkRat n d) = mkRat (n.natAbs : Nat) d := by
  unfold aq
  by_cases h : n < 0
  · rw [if_pos ((mk_neg_iff hd).2 h), Rat.neg_mkRat]
    congr 1
    omega
  · rw [if_neg (fun h2 => h ((mk_neg_iff hd).1 h2))]
    congr 1
    omega
theorem sub_mk {n1 n2 : Int} {d1 d2 : Nat} (h1 : d1 ≠ 0) (h2 : d2 ≠ 0) : mkRat n1 d1 - mkRat n2 d2 = mkRat (n1 * d2 - n2 * d1) (d1 * d2) := by
  rw [Rat.sub_eq_add_neg, Rat.neg_mkRat, Rat.mkRat_add_mkRat _ _ h1 h2]
  congr 1
  rw [Int.neg_mul]
  omega
theorem aq_le {s : Bool} {u v0 x y : Nat} (h : (zv s u * ((2 ^ E74 : Nat) : Int) - wv x * (dv v0 : Nat)).natAbs ≤ (zv s u * ((2 ^ E74 : Nat) : Int) - wv y * (dv v0 : Nat)).natAbs) :
    cmpQ (aq (qv s u v0 - flV (fs x) (fr x))) (aq (qv s u v0 - flV (fs y) (fr y))) ≤ 0 := by
  have hv := Nat.ne_of_gt (dv_pos v0)
  have ht := two_ne E74
  have e : ∀ x : Nat, aq (qv s u v0 - flV (fs x) (fr x)) = mkRat ((zv s u * ((2 ^ E74 : Nat) : Int) - wv x * (dv v0 : Nat)).natAbs : Nat) (dv v0 * 2 ^ E74) := fun x => by
    unfold qv flV
    rw [← dv_und, sub_mk hv ht, aq_mk (Nat.mul_ne_zero hv ht)]
    rfl
  rw [e, e, ← cmpQ_mk (Nat.mul_ne_zero hv ht) (Nat.mul_ne_zero hv ht), cmpZ_le]
  exact Int.mul_le_mul_of_nonneg_right (by omega) (by omega)
structure ND (s : Bool) (u v0 lo hi x : Nat) : Prop where
  dl : fr lo < 9218868437227405312 → fr hi < 9218868437227405312 → fk x = fk lo → cmpQ (aq (qv s u v0 - flV (fs lo) (fr lo))) (aq (qv s u v0 - flV (fs hi) (fr hi))) ≤ 0
  dh : fr lo < 9218868437227405312 → fr hi < 9218868437227405312 → fk x = fk hi → cmpQ (aq (qv s u v0 - flV (fs hi) (fr hi))) (aq (qv s u v0 - flV (fs lo) (fr lo))) ≤ 0
theorem nd_of {s : Bool} {u v0 r t p : Nat} (hA : Arnd (u * 2 ^ E74) (dv v0) r t) (hN : Near (u * 2 ^ E74) (dv v0) p) :
    ND s u v0 (if s = true then sb true t else r) (if s = true then sb true r else t) (sb s p) := by
  have hv := Nat.ne_of_gt (dv_pos v0)
  have hp := near_in hv hN hA
  have hrt : r ≤ t ∧ t ≤ 9218868437227405312 ∧ r < 9218868437227405312 ∧ (t = r ∨ t = r + 1) := by
    rcases hA with ⟨rfl, h, _⟩ | ⟨rfl, h, _⟩ <;> omega
  obtain ⟨h1, h2, h3, h4⟩ := hrt
  have hp2 : p ≤ 9218868437227405312 := by omega
  have key : t < 9218868437227405312 → (p = r → u * 2 ^ E74 * 2 ≤ (fg r + fg t) * dv v0) ∧ (p = t → (fg r + fg t) * dv v0 ≤ u * 2 ^ E74 * 2) := fun ht => by
    rcases hA with ⟨rfl, _, h⟩ | ⟨h5, _, h, h6⟩
    · rw [Nat.add_mul]; constructor <;> intro _ <;> omega
    · subst h5
      have h7 : u * 2 ^ E74 < fg (r + 1) * dv v0 := by rcases h6 with h6 | h6 <;> omega
      rcases hN with ⟨h8, _⟩ | ⟨r', _, a1, a2, a3⟩
      · constructor <;> intro _ <;> omega
      · have e := fl_one (Nat.le_of_lt h) h7 a1 a2
        subst e
        rcases a3 with ⟨a3, a4⟩ | ⟨a3, a4⟩
        · exact ⟨fun _ => a4, fun h => by omega⟩
        · exact ⟨fun h => by omega, fun _ => a4⟩
  have z1 : fg r * dv v0 ≤ u * 2 ^ E74 := by
    rcases hA with ⟨_, _, h⟩ | ⟨_, _, h, _⟩ <;> omega
  have z2 : t < 9218868437227405312 → u * 2 ^ E74 ≤ fg t * dv v0 := fun ht => by
    rcases hA with ⟨rfl, _, h⟩ | ⟨_, _, h, h5⟩ <;> omega
  have cA : ((u : Int)) * ((2 ^ E74 : Nat) : Int) = ((u * 2 ^ E74 : Nat) : Int) := by simp
  have c1 : (fg r : Int) * (dv v0 : Nat) = ((fg r * dv v0 : Nat) : Int) := by simp
  have c2 : (fg t : Int) * (dv v0 : Nat) = ((fg t * dv v0 : Nat) : Int) := by simp
  rw [Nat.add_mul] at key
  clear hA hN
  generalize u * 2 ^ E74 = A at *
  generalize fg r * dv v0 = R at *
  generalize fg t * dv v0 = T at *
  cases s
  · obtain ⟨r1, r2⟩ := sb_f (r := r) (by omega)
    obtain ⟨t1, t2⟩ := sb_f (r := t) h2
    obtain ⟨r3, r4⟩ := sb_fk (r := r) (by omega)
    obtain ⟨t3, t4⟩ := sb_fk (r := t) h2
    have ep : sb false p = p := by unfold sb; exact if_neg (by simp)
    obtain ⟨p3, _⟩ := sb_fk (r := p) hp2
    rw [if_neg (by decide), if_neg (by decide), ep]
    have zA : zv false u * ((2 ^ E74 : Nat) : Int) = A := cA
    refine ⟨fun _ h6 h7 => aq_le ?_, fun _ h6 h7 => aq_le ?_⟩
    · rw [zA, r4, t4, c1, c2]; rw [t2] at h6; have := z2 h6; have := (key h6).1 (by omega); omega
    · rw [zA, r4, t4, c1, c2]; rw [t2] at h6; have := z2 h6; have := (key h6).2 (by omega); omega
  · obtain ⟨t1, t2, t3⟩ := sb_t h2
    obtain ⟨r1, r2, r3⟩ := sb_t (t := r) (by omega)
    obtain ⟨p1, p2, _⟩ := sb_t hp2
    rw [if_pos rfl, if_pos rfl]
    have zA : zv true u * ((2 ^ E74 : Nat) : Int) = -(A : Int) := by
      show -(u : Int) * _ = _
      rw [Int.neg_mul, cA]
    refine ⟨fun h6 _ h7 => aq_le ?_, fun h6 _ h7 => aq_le ?_⟩
    · rw [zA, r3, t3, Int.neg_mul, Int.neg_mul, c1, c2]; rw [t1] at h6; have := z2 h6; have := (key h6).2 (by omega); omega
    · rw [zA, r3, t3, Int.neg_mul, Int.neg_mul, c1, c2]; rw [t1] at h6; have := z2 h6; have := (key h6).1 (by omega); omega
end Go.NatP
/- WALKS: credencetop's copies, a half, how far a float is. -/
namespace Go.Proofs.YtoeldbdcbfgmoaaDoor
set_option linter.unusedVariables false
set_option linter.unusedSimpArgs false
open Go.ChangeShapes Go.WideShapes Go.ChangeAt Go.RowKit Go.NatP Go.FloatP

theorem take_snoc {l : List Nat} {k : Nat} (h : k < l.length) : l.take k ++ [l.getD k 0] = l.take (k + 1) := by
  rw [List.take_add_one, List.getD_eq_getElem?_getD, List.getElem?_eq_getElem h]; rfl
set_option maxRecDepth 100000 in
set_option maxHeartbeats 4000000 in
theorem twinnat {w : World} {a : Option Addr} {n c : Nat} {l : List Nat} (hR : Rd w a n c l) (hn : n ≤ 1000) : Calls Tryd.prog 27 #[.slice a n c] w (Ret1 w l) := by
  have hlen := hid hR.len
  have hRh := hid hR
  have hlim := hid hR.lim
  clear hR
  go_enter Tryd.func27, Tryd.ntmps27
  go_wp2_with fail
  go_loopw [3, 4] (fun v i wr => ∃ (k c1 : Nat) (a1 : Option Addr), k ≤ n ∧ i = .int .i64 k ∧ v = .slice a1 k c1 ∧ Own w.heap.size wr a1 k c1 (l.take k) ∧ Below w.heap.size w wr) (fun _ i _ => n - (intOf i).toNat)
  case atStart => exact ⟨0, 0, none, by omega, rfl, rfl, own_nil _ _, Below.refl _ _⟩
  case round =>
    obtain ⟨k, c1, a1, hk, rfl, rfl, hO, hB⟩ := hrel
    have hsz := hB.size
    have hcb := hO.bnd
    by_cases hlt : k < n
    · obtain ⟨bb, o, rfl⟩ := hRh.out.head (by omega)
      have hc := (hRh.out.below hB).cell hlt
      obtain ⟨y, hy⟩ : ∃ y, l.getD k 0 = y := ⟨_, rfl⟩
      have hyl : y < 4294967296 := by rw [← hy]; exact hlim.out.getD k
      rw [hy] at hc
      have hyh := hid hy
      clear hy
      go_wp2_with (at_builtin; refine wpList_app1 (y := y) rfl _ _ rfl rfl (hO.alloc _) _ 1 rfl hyl (by go_simp) (by simp; omega) (by omega) ?_; intro a2 c2 w2 hO2 hK2 _)
      go_roundw
      case rel => exact ⟨k + 1, c2, a2, by omega, by go_num, rfl, by rw [← take_snoc (by rw [hlen.out]; exact hlt), hyh.out]; exact hO2, (hB.alloc hsz _).kp hK2 (by simp; omega) (own_ne hO hsz)⟩
      case measure => simp [intOf]; omega
    · obtain rfl : k = n := by omega
      go_wp2
      go_ret
      exact ⟨a1, _, c1, rfl, by rw [List.take_of_length_le (by rw [hlen.out]; exact Nat.le_refl _)] at hO; exact hO, hB⟩

/-- a fraction's copy: its limbs as they were -/
def RetTw (w : World) (s : Bool) (la lb : List Nat) (e : Ending) (w' : World) : Prop :=
  ∃ a n c b m d, e = .returned (.agg #[.bool s, .slice a n c, .slice b m d]) ∧ Own w.heap.size w' a n c la ∧ Own w.heap.size w' b m d lb ∧ Below w.heap.size w w'
theorem rettw_set {w w2 : World} {s : Bool} {la lb : List Nat} {B C g : Nat} {a b : Option Addr} {n c m d : Nat} {v0 v1 v2 : Value} (hO : Own B w2 a n c la) (hO2 : Own C w2 b m d lb) (hB : Below w.heap.size w w2) (hg : w.heap.size ≤ g) (hgB : g < B) (hgC : g < C) :
    RetTw w s la lb (.returned (.agg #[.bool s, .slice a n c, .slice b m d])) (((w2.setCell ⟨g, 0, none⟩ v0).setCell ⟨g, 1, none⟩ v1).setCell ⟨g, 2, none⟩ v2) :=
  ⟨a, n, c, b, m, d, rfl, (hO.set3 hgB _ _ _).mono (by omega), (hO2.set3 hgC _ _ _).mono (by omega), Below.set3 hB hg _ _ _⟩

set_option maxRecDepth 100000 in
set_option maxHeartbeats 4000000 in
theorem twinrat {w : World} {s : Bool} {a b : Option Addr} {n c m d : Nat} {la lb : List Nat} (ha : Rd w a n c la) (hb : Rd w b m d lb) (hn : n ≤ 1000) (hm : m ≤ 1000) :
    Calls Tryd.prog 8 #[.agg #[.bool s, .slice a n c, .slice b m d]] w (RetTw w s la lb) := by
  have hnh := hid hn
  have hmh := hid hm
  have TA := hid (fun W (h : Rd W a n c la) => twinnat h hn)
  have TB := hid (fun W (h : Rd W b m d lb) => twinnat h hm)
  clear hn hm
  have hent := ent2 w #[Value.bool s, Value.slice a n c, Value.slice b m d] #[Value.bool false, Value.slice none 0 0, Value.slice none 0 0] 27 27
  go_enter Tryd.func8, Tryd.ntmps8
  go_wp2_with fail
  generalize ((w.alloc (.cells #[Value.bool s, Value.slice a n c, Value.slice b m d] 27)).alloc (.cells #[Value.bool false, Value.slice none 0 0, Value.slice none 0 0] 27)) = W0 at hent ⊢
  obtain ⟨X_0, R0_0, hbel_0, hsz_0⟩ := hent
  have cX_0_0 : _ = some (Value.bool s) := X_0.cell 0
  have cX_0_1 : _ = some (Value.slice a n c) := X_0.cell 1
  have cX_0_2 : _ = some (Value.slice b m d) := X_0.cell 2
  have cR0_0_0 : _ = some (Value.bool false) := R0_0.cell 0
  have fR0_0_0 := R0_0.free 0
  have cR0_0_1 : _ = some (Value.slice none 0 0) := R0_0.cell 1
  have fR0_0_1 := R0_0.free 1
  have cR0_0_2 : _ = some (Value.slice none 0 0) := R0_0.cell 2
  have fR0_0_2 := R0_0.free 2
  have ha_0 := ha.below hbel_0
  clear ha
  have hb_0 := hb.below hbel_0
  clear hb
  go_wp2_with fail
  go_region_held3 (fun w' => w'.cell? ⟨w.heap.size, 0, none⟩ = some (Value.bool s) ∧ w'.cell? ⟨w.heap.size, 1, none⟩ = some (Value.slice a n c) ∧ w'.cell? ⟨w.heap.size, 2, none⟩ = some (Value.slice b m d))
    (first | exact ⟨cX_0_0, cX_0_1, cX_0_2⟩ | exact ⟨cX_1_0, cX_1_1, cX_1_2⟩ | exact ⟨cX_2_0, cX_2_1, cX_2_2⟩ | exact ⟨(cell_set3 (by omega) _ _ _).trans (cX_2_0), (cell_set3 (by omega) _ _ _).trans (cX_2_1), (cell_set3 (by omega) _ _ _).trans (cX_2_2)⟩ | go_keep)
    (first
      | (go_at_call 27; ((with_reducible refine (TA.out _ (ha_0.below bl)).mono ?_); (rintro e w1 ⟨qa, qn, qc, rfl, hO, hB⟩; have hB_1 : Below W0.heap.size W0 w1 := (bl.next hB); have X_1 := X_0.next hB_1; have cX_1_0 : _ = some (Value.bool s) := X_1.cell 0; have cX_1_1 : _ = some (Value.slice a n c) := X_1.cell 1; have cX_1_2 : _ = some (Value.slice b m d) := X_1.cell 2; have R0_1 := R0_0.next hB_1; have cR0_1_0 : _ = some (Value.bool false) := R0_1.cell 0; have fR0_1_0 := R0_1.free 0; have cR0_1_1 : _ = some (Value.slice none 0 0) := R0_1.cell 1; have fR0_1_1 := R0_1.free 1; have cR0_1_2 : _ = some (Value.slice none 0 0) := R0_1.cell 2; have fR0_1_2 := R0_1.free 2; have ha_1 := ha_0.below hB_1; have hb_1 := hb_0.below hB_1; have hbel_1 := hbel_0.next hB_1; have hsz_1 := hB_1.size; clear X_0 cX_0_0 cX_0_1 cX_0_2 R0_0 cR0_0_0 fR0_0_0 cR0_0_1 fR0_0_1 cR0_0_2 fR0_0_2 ha_0 hb_0 hbel_0 hB_1; have OQ_1 := hO; have ltOQ := hO.ltB; clear hO; try clear hB)))
      | (go_at_call 27; ((with_reducible refine (TB.out _ (hb_1.below bl)).mono ?_); (rintro e w2 ⟨da, dn, dc, rfl, hO, hB⟩; have hB_2 : Below w1.heap.size w1 w2 := (bl.next hB); have X_2 := X_1.next hB_2; have cX_2_0 : _ = some (Value.bool s) := X_2.cell 0; have cX_2_1 : _ = some (Value.slice a n c) := X_2.cell 1; have cX_2_2 : _ = some (Value.slice b m d) := X_2.cell 2; have R0_2 := R0_1.next hB_2; have cR0_2_0 : _ = some (Value.bool false) := R0_2.cell 0; have fR0_2_0 := R0_2.free 0; have cR0_2_1 : _ = some (Value.slice none 0 0) := R0_2.cell 1; have fR0_2_1 := R0_2.free 1; have cR0_2_2 : _ = some (Value.slice none 0 0) := R0_2.cell 2; have fR0_2_2 := R0_2.free 2; have ha_2 := ha_1.below hB_2; have hb_2 := hb_1.below hB_2; have OQ_2 := OQ_1.below hB_2; have hbel_2 := hbel_1.next hB_2; have hsz_2 := hB_2.size; clear X_1 cX_1_0 cX_1_1 cX_1_2 R0_1 cR0_1_0 fR0_1_0 cR0_1_1 fR0_1_1 cR0_1_2 fR0_1_2 ha_1 hb_1 OQ_1 hbel_1 hB_2; have OD_2 := hO; have ltOD := hO.ltB; clear hO; try clear hB))))
  go_wp2
  refine bodyPost_ret (v := .agg #[.bool s, .slice qa qn qc, .slice da dn dc]) (by simp [results, Tryd.results8, go_sem, cR0_2_0, cR0_2_1, cR0_2_2]) rfl ?_
  exact rettw_set OQ_2 OD_2 hbel_2 (by first | omega | (simp; omega)) (by first | omega | (simp; omega)) (by first | omega | (simp; omega))

theorem cmp_r {w : World} {a1 b1 : Option Addr} {n1 c1 m1 d1 : Nat} {s : Bool} {x : Rat} {a2 b2 : Option Addr} {n2 c2 m2 d2 : Nat} {t : Bool} {y : Rat} {J K : Nat} {k : Int} (hk : cmpQ x y = k) (hx : RdQ J w s a1 n1 c1 b1 m1 d1 x) (hJ : J ≤ 1000000) (hy : RdQ K w t a2 n2 c2 b2 m2 d2 y) (hK : K ≤ 1000000) :
    Calls Tryd.prog 14 #[.agg #[.bool s, .slice a1 n1 c1, .slice b1 m1 d1], .agg #[.bool t, .slice a2 n2 c2, .slice b2 m2 d2]] w (RetIb w k) := hk ▸ rqcmp hx hJ hy hK
theorem aq_qs {z : Rat} {k : Nat} (h : QS z k) : QS (aq z) k := by unfold aq; split; exact h.neg; exact h
theorem cmpQ_zero (z : Rat) : decide (cmpQ z 0 < 0) = decide (z < 0) := by
  refine decide_eq_decide.2 ?_
  unfold cmpQ
  split
  · simp_all
  · split <;> simp_all
theorem rdq_zero (W : World) : RdQ 1 W false none 0 0 none 0 0 0 := ⟨0, 0, ⟨[], rd_nil _ _ _ (by simp [maxLen]), rfl, by omega⟩, ⟨[], rd_nil _ _ _ (by simp [maxLen]), rfl, by omega⟩, by decide +kernel⟩
theorem aq_sub_qs {p q : Rat} {j k : Nat} (hp : QS p j) (hq : QS q k) : QS (p - q) (j + k + 1) := by
  rw [Rat.sub_eq_add_neg]
  exact (hp.add hq.neg).mono (by omega)

set_option maxRecDepth 100000 in
set_option maxHeartbeats 4000000 in
theorem off1 {w : World} {s : Bool} {a b : Option Addr} {n c m d : Nat} {q : Rat} (hq : RdQ 500 w s a n c b m d q) (f : Nat) (hf : f < 18446744073709551616) (hfin : fr f < 9218868437227405312) (hs : q - fq f < 0) :
    Calls Tryd.prog 12 #[.agg #[.bool s, .slice a n c, .slice b m d], .float .f64 f] w (RetQ w (aq (q - fq f))) := by
  rw [show aq (q - fq f) = -(q - fq f) from if_pos hs]
  have HP := hid (fun w => near64 (w := w) f hf)
  rw [show fe f = 0 from if_pos hfin] at HP
  have hpq := hid (fq_qs f)
  have hds := hid (aq_sub_qs (hq.qs (by omega)) hpq.out)
  have hSU : Hid (∀ W a2 n2 c2 b2 m2 d2 t, RdQ 500 W s a n c b m d q → RdQ 66 W t a2 n2 c2 b2 m2 d2 (fq f) → Calls Tryd.prog 35 #[.agg #[.bool s, .slice a n c, .slice b m d], .agg #[.bool t, .slice a2 n2 c2, .slice b2 m2 d2]] W (RetQ W (q - fq f))) := fun W a2 n2 c2 b2 m2 d2 t h h' => rqsub h (by omega) h' (by omega)
  obtain ⟨z, hz⟩ : ∃ z, q - fq f = z := ⟨_, rfl⟩
  rw [hz] at hds hs hSU ⊢
  have hc0 : Hid (cmpQ z 0 = cmpQ z 0) := rfl
  obtain ⟨k, hk⟩ : ∃ k, cmpQ z 0 = k := ⟨_, rfl⟩
  have hkh := hid hk
  have dk : decide (k < 0) = true := by rw [← hk, cmpQ_zero]; exact decide_eq_true hs
  clear hk hc0 hz hs hf hfin
  have hent := ent2 w #[Value.bool s, Value.slice a n c, Value.slice b m d] #[Value.bool false, Value.slice none 0 0, Value.slice none 0 0] 27 27
  go_enter Tryd.func12, Tryd.ntmps12
  go_wp2_with fail
  generalize ((w.alloc (.cells #[Value.bool s, Value.slice a n c, Value.slice b m d] 27)).alloc (.cells #[Value.bool false, Value.slice none 0 0, Value.slice none 0 0] 27)) = W0 at hent ⊢
  obtain ⟨X_0, R0_0, hbel_0, hsz_0⟩ := hent
  have cX_0_0 : _ = some (Value.bool s) := X_0.cell 0
  have cX_0_1 : _ = some (Value.slice a n c) := X_0.cell 1
  have cX_0_2 : _ = some (Value.slice b m d) := X_0.cell 2
  have cR0_0_0 : _ = some (Value.bool false) := R0_0.cell 0
  have fR0_0_0 := R0_0.free 0
  have cR0_0_1 : _ = some (Value.slice none 0 0) := R0_0.cell 1
  have fR0_0_1 := R0_0.free 1
  have cR0_0_2 : _ = some (Value.slice none 0 0) := R0_0.cell 2
  have fR0_0_2 := R0_0.free 2
  have hq_0 := hq.below hbel_0
  clear hq
  go_wp2_with fail
  refine (HP.out _).mono ?_
  rintro e w1 ⟨pa, pn, pc, pb, pm, pd, rfl, hO, hO', hD, hB⟩
  have hB_1 : Below W0.heap.size W0 w1 := (bl.next hB)
  have X_1 := X_0.next hB_1
  have cX_1_0 : _ = some (Value.bool s) := X_1.cell 0
  have cX_1_1 : _ = some (Value.slice a n c) := X_1.cell 1
  have cX_1_2 : _ = some (Value.slice b m d) := X_1.cell 2
  have R0_1 := R0_0.next hB_1
  have cR0_1_0 : _ = some (Value.bool false) := R0_1.cell 0
  have fR0_1_0 := R0_1.free 0
  have cR0_1_1 : _ = some (Value.slice none 0 0) := R0_1.cell 1
  have fR0_1_1 := R0_1.free 1
  have cR0_1_2 : _ = some (Value.slice none 0 0) := R0_1.cell 2
  have fR0_1_2 := R0_1.free 2
  have hq_1 := hq_0.below hB_1
  have hbel_1 := hbel_0.next hB_1
  have hsz_1 := hB_1.size
  clear X_0 cX_0_0 cX_0_1 cX_0_2 R0_0 cR0_0_0 fR0_0_0 cR0_0_1 fR0_0_1 cR0_0_2 fR0_0_2 hq_0 hbel_0 hB_1
  have Op_1 := hO
  have ltOp := hO.ltB
  have Pp_1 := hO'
  have ltPp := hO'.ltB
  clear hO hO' hD
  try clear hB
  have hbx := blk_new w1 #[Value.bool (qsg (fq f) 0), Value.slice pa pn pc, Value.slice pb pm pd] 27
  have hbB := (Below.refl w1.heap.size w1).alloc (Nat.le_refl _) (.cells #[Value.bool (qsg (fq f) 0), Value.slice pa pn pc, Value.slice pb pm pd] 27)
  have hltA := hbx.lt
  have hB_2 : Below w1.heap.size w1 (w1.alloc (.cells #[Value.bool (qsg (fq f) 0), Value.slice pa pn pc, Value.slice pb pm pd] 27)) := hbB
  have X_2 := X_1.next hB_2
  have cX_2_0 : _ = some (Value.bool s) := X_2.cell 0
  have cX_2_1 : _ = some (Value.slice a n c) := X_2.cell 1
  have cX_2_2 : _ = some (Value.slice b m d) := X_2.cell 2
  have R0_2 := R0_1.next hB_2
  have cR0_2_0 : _ = some (Value.bool false) := R0_2.cell 0
  have fR0_2_0 := R0_2.free 0
  have cR0_2_1 : _ = some (Value.slice none 0 0) := R0_2.cell 1
  have fR0_2_1 := R0_2.free 1
  have cR0_2_2 : _ = some (Value.slice none 0 0) := R0_2.cell 2
  have fR0_2_2 := R0_2.free 2
  have hq_2 := hq_1.below hB_2
  have Op_2 := Op_1.below hB_2
  have Pp_2 := Pp_1.below hB_2
  have hbel_2 := hbel_1.next hB_2
  have hsz_2 := hB_2.size
  clear hB_2
  have A_2 := hbx
  clear hbx hbB
  have cA_2_0 : _ = some (Value.bool (qsg (fq f) 0)) := A_2.cell 0
  have cA_2_1 : _ = some (Value.slice pa pn pc) := A_2.cell 1
  have cA_2_2 : _ = some (Value.slice pb pm pd) := A_2.cell 2
  go_wp2_with fail
  clear X_1 cX_1_0 cX_1_1 cX_1_2 R0_1 cR0_1_0 fR0_1_0 cR0_1_1 fR0_1_1 cR0_1_2 fR0_1_2 hq_1 Op_1 Pp_1 hbel_1
  generalize (w1.alloc (.cells #[Value.bool (qsg (fq f) 0), Value.slice pa pn pc, Value.slice pb pm pd] 27)) = v2 at *
  go_wp2_with fail
  refine (hSU.out _ _ _ _ _ _ _ _ hq_2 (Op_2.rdQ Pp_2 hpq.out)).mono ?_
  rintro e w3 ⟨za, zn, zc, zb, zm, zd, rfl, hO, hO', hD, hB⟩
  have hB_3 : Below v2.heap.size v2 w3 := (bl.next hB)
  have X_3 := X_2.next hB_3
  have cX_3_0 : _ = some (Value.bool s) := X_3.cell 0
  have cX_3_1 : _ = some (Value.slice a n c) := X_3.cell 1
  have cX_3_2 : _ = some (Value.slice b m d) := X_3.cell 2
  have R0_3 := R0_2.next hB_3
  have cR0_3_0 : _ = some (Value.bool false) := R0_3.cell 0
  have fR0_3_0 := R0_3.free 0
  have cR0_3_1 : _ = some (Value.slice none 0 0) := R0_3.cell 1
  have fR0_3_1 := R0_3.free 1
  have cR0_3_2 : _ = some (Value.slice none 0 0) := R0_3.cell 2
  have fR0_3_2 := R0_3.free 2
  have A_3 := A_2.next hB_3
  have cA_3_0 : _ = some (Value.bool (qsg (fq f) 0)) := A_3.cell 0
  have cA_3_1 : _ = some (Value.slice pa pn pc) := A_3.cell 1
  have cA_3_2 : _ = some (Value.slice pb pm pd) := A_3.cell 2
  have hq_3 := hq_2.below hB_3
  have Op_3 := Op_2.below hB_3
  have Pp_3 := Pp_2.below hB_3
  have hbel_3 := hbel_2.next hB_3
  have hsz_3 := hB_3.size
  clear X_2 cX_2_0 cX_2_1 cX_2_2 R0_2 cR0_2_0 fR0_2_0 cR0_2_1 fR0_2_1 cR0_2_2 fR0_2_2 A_2 cA_2_0 cA_2_1 cA_2_2 hq_2 Op_2 Pp_2 hbel_2 hB_3
  have Oz_3 := hO
  have ltOz := hO.ltB
  have Pz_3 := hO'
  have ltPz := hO'.ltB
  have hDz := hid hD
  clear hO hO' hD
  try clear hB
  have hbx := blk_new w3 #[Value.bool (decide (z.num < 0)), Value.slice za zn zc, Value.slice zb zm zd] 27
  have hbB := (Below.refl w3.heap.size w3).alloc (Nat.le_refl _) (.cells #[Value.bool (decide (z.num < 0)), Value.slice za zn zc, Value.slice zb zm zd] 27)
  have hltD := hbx.lt
  have hB_4 : Below w3.heap.size w3 (w3.alloc (.cells #[Value.bool (decide (z.num < 0)), Value.slice za zn zc, Value.slice zb zm zd] 27)) := hbB
  have X_4 := X_3.next hB_4
  have cX_4_0 : _ = some (Value.bool s) := X_4.cell 0
  have cX_4_1 : _ = some (Value.slice a n c) := X_4.cell 1
  have cX_4_2 : _ = some (Value.slice b m d) := X_4.cell 2
  have R0_4 := R0_3.next hB_4
  have cR0_4_0 : _ = some (Value.bool false) := R0_4.cell 0
  have fR0_4_0 := R0_4.free 0
  have cR0_4_1 : _ = some (Value.slice none 0 0) := R0_4.cell 1
  have fR0_4_1 := R0_4.free 1
  have cR0_4_2 : _ = some (Value.slice none 0 0) := R0_4.cell 2
  have fR0_4_2 := R0_4.free 2
  have A_4 := A_3.next hB_4
  have cA_4_0 : _ = some (Value.bool (qsg (fq f) 0)) := A_4.cell 0
  have cA_4_1 : _ = some (Value.slice pa pn pc) := A_4.cell 1
  have cA_4_2 : _ = some (Value.slice pb pm pd) := A_4.cell 2
  have hq_4 := hq_3.below hB_4
  have Op_4 := Op_3.below hB_4
  have Pp_4 := Pp_3.below hB_4
  have Oz_4 := Oz_3.below hB_4
  have Pz_4 := Pz_3.below hB_4
  have hbel_4 := hbel_3.next hB_4
  have hsz_4 := hB_4.size
  clear hB_4
  have D_4 := hbx
  clear hbx hbB
  have cD_4_0 : _ = some (Value.bool (decide (z.num < 0))) := D_4.cell 0
  have cD_4_1 : _ = some (Value.slice za zn zc) := D_4.cell 1
  have cD_4_2 : _ = some (Value.slice zb zm zd) := D_4.cell 2
  go_wp2_with fail
  clear X_3 cX_3_0 cX_3_1 cX_3_2 R0_3 cR0_3_0 fR0_3_0 cR0_3_1 fR0_3_1 cR0_3_2 fR0_3_2 A_3 cA_3_0 cA_3_1 cA_3_2 hq_3 Op_3 Pp_3 Oz_3 Pz_3 hbel_3
  generalize (w3.alloc (.cells #[Value.bool (decide (z.num < 0)), Value.slice za zn zc, Value.slice zb zm zd] 27)) = v4 at *
  go_wp2_with fail
  refine (cmp_r hkh.out (Oz_4.rdQ Pz_4 hds.out) (by omega) (rdq_zero _) (by omega)).mono ?_
  rintro e w5 ⟨rfl, hB⟩
  have hB_5 : Below v4.heap.size v4 w5 := (bl.next hB)
  have X_5 := X_4.next hB_5
  have cX_5_0 : _ = some (Value.bool s) := X_5.cell 0
  have cX_5_1 : _ = some (Value.slice a n c) := X_5.cell 1
  have cX_5_2 : _ = some (Value.slice b m d) := X_5.cell 2
  have R0_5 := R0_4.next hB_5
  have cR0_5_0 : _ = some (Value.bool false) := R0_5.cell 0
  have fR0_5_0 := R0_5.free 0
  have cR0_5_1 : _ = some (Value.slice none 0 0) := R0_5.cell 1
  have fR0_5_1 := R0_5.free 1
  have cR0_5_2 : _ = some (Value.slice none 0 0) := R0_5.cell 2
  have fR0_5_2 := R0_5.free 2
  have A_5 := A_4.next hB_5
  have cA_5_0 : _ = some (Value.bool (qsg (fq f) 0)) := A_5.cell 0
  have cA_5_1 : _ = some (Value.slice pa pn pc) := A_5.cell 1
  have cA_5_2 : _ = some (Value.slice pb pm pd) := A_5.cell 2
  have D_5 := D_4.next hB_5
  have cD_5_0 : _ = some (Value.bool (decide (z.num < 0))) := D_5.cell 0
  have cD_5_1 : _ = some (Value.slice za zn zc) := D_5.cell 1
  have cD_5_2 : _ = some (Value.slice zb zm zd) := D_5.cell 2
  have hq_5 := hq_4.below hB_5
  have Op_5 := Op_4.below hB_5
  have Pp_5 := Pp_4.below hB_5
  have Oz_5 := Oz_4.below hB_5
  have Pz_5 := Pz_4.below hB_5
  have hbel_5 := hbel_4.next hB_5
  have hsz_5 := hB_5.size
  clear X_4 cX_4_0 cX_4_1 cX_4_2 R0_4 cR0_4_0 fR0_4_0 cR0_4_1 fR0_4_1 cR0_4_2 fR0_4_2 A_4 cA_4_0 cA_4_1 cA_4_2 D_4 cD_4_0 cD_4_1 cD_4_2 hq_4 Op_4 Pp_4 Oz_4 Pz_4 hbel_4 hB_5
  try clear hB
  go_wp2_with fail
  refine (rqneg (Oz_5.rdQ Pz_5 hds.out) (by omega)).mono ?_
  rintro e w6 ⟨qa, qn, qc, da, dn, dc, rfl, hO, hO', hD, hB⟩
  have hB_6 : Below w5.heap.size w5 w6 := (bl.next hB)
  have X_6 := X_5.next hB_6
  have cX_6_0 : _ = some (Value.bool s) := X_6.cell 0
  have cX_6_1 : _ = some (Value.slice a n c) := X_6.cell 1
  have cX_6_2 : _ = some (Value.slice b m d) := X_6.cell 2
  have R0_6 := R0_5.next hB_6
  have cR0_6_0 : _ = some (Value.bool false) := R0_6.cell 0
  have fR0_6_0 := R0_6.free 0
  have cR0_6_1 : _ = some (Value.slice none 0 0) := R0_6.cell 1
  have fR0_6_1 := R0_6.free 1
  have cR0_6_2 : _ = some (Value.slice none 0 0) := R0_6.cell 2
  have fR0_6_2 := R0_6.free 2
  have A_6 := A_5.next hB_6
  have cA_6_0 : _ = some (Value.bool (qsg (fq f) 0)) := A_6.cell 0
  have cA_6_1 : _ = some (Value.slice pa pn pc) := A_6.cell 1
  have cA_6_2 : _ = some (Value.slice pb pm pd) := A_6.cell 2
  have D_6 := D_5.next hB_6
  have cD_6_0 : _ = some (Value.bool (decide (z.num < 0))) := D_6.cell 0
  have cD_6_1 : _ = some (Value.slice za zn zc) := D_6.cell 1
  have cD_6_2 : _ = some (Value.slice zb zm zd) := D_6.cell 2
  have hq_6 := hq_5.below hB_6
  have Op_6 := Op_5.below hB_6
  have Pp_6 := Pp_5.below hB_6
  have Oz_6 := Oz_5.below hB_6
  have Pz_6 := Pz_5.below hB_6
  have hbel_6 := hbel_5.next hB_6
  have hsz_6 := hB_6.size
  clear X_5 cX_5_0 cX_5_1 cX_5_2 R0_5 cR0_5_0 fR0_5_0 cR0_5_1 fR0_5_1 cR0_5_2 fR0_5_2 A_5 cA_5_0 cA_5_1 cA_5_2 D_5 cD_5_0 cD_5_1 cD_5_2 hq_5 Op_5 Pp_5 Oz_5 Pz_5 hbel_5 hB_6
  have OQ_6 := hO
  have ltOQ := hO.ltB
  have OD_6 := hO'
  have ltOD := hO'.ltB
  clear hO hO'
  try clear hB
  go_wp2
  refine bodyPost_ret (v := .agg #[.bool (decide ((-z).num < 0)), .slice qa qn qc, .slice da dn dc]) (by simp [results, Tryd.results12, go_sem, cR0_6_0, cR0_6_1, cR0_6_2]) rfl ?_
  exact retq_set OQ_6 OD_6 hD hbel_6 (by omega) (by omega)

set_option maxRecDepth 100000 in
set_option maxHeartbeats 4000000 in
theorem off0 {w : World} {s : Bool} {a b : Option Addr} {n c m d : Nat} {q : Rat} (hq : RdQ 500 w s a n c b m d q) (f : Nat) (hf : f < 18446744073709551616) (hfin : fr f < 9218868437227405312) (hs : ¬ q - fq f < 0) :
    Calls Tryd.prog 12 #[.agg #[.bool s, .slice a n c, .slice b m d], .float .f64 f] w (RetQ w (aq (q - fq f))) := by
  rw [show aq (q - fq f) = q - fq f from if_neg hs]
  have HP := hid (fun w => near64 (w := w) f hf)
  rw [show fe f = 0 from if_pos hfin] at HP
  have hpq := hid (fq_qs f)
  have hds := hid (aq_sub_qs (hq.qs (by omega)) hpq.out)
  have hSU : Hid (∀ W a2 n2 c2 b2 m2 d2 t, RdQ 500 W s a n c b m d q → RdQ 66 W t a2 n2 c2 b2 m2 d2 (fq f) → Calls Tryd.prog 35 #[.agg #[.bool s, .slice a n c, .slice b m d], .agg #[.bool t, .slice a2 n2 c2, .slice b2 m2 d2]] W (RetQ W (q - fq f))) := fun W a2 n2 c2 b2 m2 d2 t h h' => rqsub h (by omega) h' (by omega)
  obtain ⟨z, hz⟩ : ∃ z, q - fq f = z := ⟨_, rfl⟩
  rw [hz] at hds hs hSU ⊢
  have hc0 : Hid (cmpQ z 0 = cmpQ z 0) := rfl
  obtain ⟨k, hk⟩ : ∃ k, cmpQ z 0 = k := ⟨_, rfl⟩
  have hkh := hid hk
  have dk : decide (k < 0) = false := by rw [← hk, cmpQ_zero]; exact decide_eq_false hs
  clear hk hc0 hz hs hf hfin
  have hent := ent2 w #[Value.bool s, Value.slice a n c, Value.slice b m d] #[Value.bool false, Value.slice none 0 0, Value.slice none 0 0] 27 27
  go_enter Tryd.func12, Tryd.ntmps12
  go_wp2_with fail
  generalize ((w.alloc (.cells #[Value.bool s, Value.slice a n c, Value.slice b m d] 27)).alloc (.cells #[Value.bool false, Value.slice none 0 0, Value.slice none 0 0] 27)) = W0 at hent ⊢
  obtain ⟨X_0, R0_0, hbel_0, hsz_0⟩ := hent
  have cX_0_0 : _ = some (Value.bool s) := X_0.cell 0
  have cX_0_1 : _ = some (Value.slice a n c) := X_0.cell 1
  have cX_0_2 : _ = some (Value.slice b m d) := X_0.cell 2
  have cR0_0_0 : _ = some (Value.bool false) := R0_0.cell 0
  have fR0_0_0 := R0_0.free 0
  have cR0_0_1 : _ = some (Value.slice none 0 0) := R0_0.cell 1
  have fR0_0_1 := R0_0.free 1
  have cR0_0_2 : _ = some (Value.slice none 0 0) := R0_0.cell 2
  have fR0_0_2 := R0_0.free 2
  have hq_0 := hq.below hbel_0
  clear hq
  go_wp2_with fail
  refine (HP.out _).mono ?_
  rintro e w1 ⟨pa, pn, pc, pb, pm, pd, rfl, hO, hO', hD, hB⟩
  have hB_1 : Below W0.heap.size W0 w1 := (bl.next hB)
  have X_1 := X_0.next hB_1
  have cX_1_0 : _ = some (Value.bool s) := X_1.cell 0
  have cX_1_1 : _ = some (Value.slice a n c) := X_1.cell 1
  have cX_1_2 : _ = some (Value.slice b m d) := X_1.cell 2
  have R0_1 := R0_0.next hB_1
  have cR0_1_0 : _ = some (Value.bool false) := R0_1.cell 0
  have fR0_1_0 := R0_1.free 0
  have cR0_1_1 : _ = some (Value.slice none 0 0) := R0_1.cell 1
  have fR0_1_1 := R0_1.free 1
  have cR0_1_2 : _ = some (Value.slice none 0 0) := R0_1.cell 2
  have fR0_1_2 := R0_1.free 2
  have hq_1 := hq_0.below hB_1
  have hbel_1 := hbel_0.next hB_1
  have hsz_1 := hB_1.size
  clear X_0 cX_0_0 cX_0_1 cX_0_2 R0_0 cR0_0_0 fR0_0_0 cR0_0_1 fR0_0_1 cR0_0_2 fR0_0_2 hq_0 hbel_0 hB_1
  have Op_1 := hO
  have ltOp := hO.ltB
  have Pp_1 := hO'
  have ltPp := hO'.ltB
  clear hO hO' hD
  try clear hB
  have hbx := blk_new w1 #[Value.bool (qsg (fq f) 0), Value.slice pa pn pc, Value.slice pb pm pd] 27
  have hbB := (Below.refl w1.heap.size w1).alloc (Nat.le_refl _) (.cells #[Value.bool (qsg (fq f) 0), Value.slice pa pn pc, Value.slice pb pm pd] 27)
  have hltA := hbx.lt
  have hB_2 : Below w1.heap.size w1 (w1.alloc (.cells #[Value.bool (qsg (fq f) 0), Value.slice pa pn pc, Value.slice pb pm pd] 27)) := hbB
  have X_2 := X_1.next hB_2
  have cX_2_0 : _ = some (Value.bool s) := X_2.cell 0
  have cX_2_1 : _ = some (Value.slice a n c) := X_2.cell 1
  have cX_2_2 : _ = some (Value.slice b m d) := X_2.cell 2
  have R0_2 := R0_1.next hB_2
  have cR0_2_0 : _ = some (Value.bool false) := R0_2.cell 0
  have fR0_2_0 := R0_2.free 0
  have cR0_2_1 : _ = some (Value.slice none 0 0) := R0_2.cell 1
  have fR0_2_1 := R0_2.free 1
  have cR0_2_2 : _ = some (Value.slice none 0 0) := R0_2.cell 2
  have fR0_2_2 := R0_2.free 2
  have hq_2 := hq_1.below hB_2
  have Op_2 := Op_1.below hB_2
  have Pp_2 := Pp_1.below hB_2
  have hbel_2 := hbel_1.next hB_2
  have hsz_2 := hB_2.size
  clear hB_2
  have A_2 := hbx
  clear hbx hbB
  have cA_2_0 : _ = some (Value.bool (qsg (fq f) 0)) := A_2.cell 0
  have cA_2_1 : _ = some (Value.slice pa pn pc) := A_2.cell 1
  have cA_2_2 : _ = some (Value.slice pb pm pd) := A_2.cell 2
  go_wp2_with fail
  clear X_1 cX_1_0 cX_1_1 cX_1_2 R0_1 cR0_1_0 fR0_1_0 cR0_1_1 fR0_1_1 cR0_1_2 fR0_1_2 hq_1 Op_1 Pp_1 hbel_1
  generalize (w1.alloc (.cells #[Value.bool (qsg (fq f) 0), Value.slice pa pn pc, Value.slice pb pm pd] 27)) = v2 at *
  go_wp2_with fail
  refine (hSU.out _ _ _ _ _ _ _ _ hq_2 (Op_2.rdQ Pp_2 hpq.out)).mono ?_
  rintro e w3 ⟨za, zn, zc, zb, zm, zd, rfl, hO, hO', hD, hB⟩
  have hB_3 : Below v2.heap.size v2 w3 := (bl.next hB)
  have X_3 := X_2.next hB_3
  have cX_3_0 : _ = some (Value.bool s) := X_3.cell 0
  have cX_3_1 : _ = some (Value.slice a n c) := X_3.cell 1
  have cX_3_2 : _ = some (Value.slice b m d) := X_3.cell 2
  have R0_3 := R0_2.next hB_3
  have cR0_3_0 : _ = some (Value.bool false) := R0_3.cell 0
  have fR0_3_0 := R0_3.free 0
  have cR0_3_1 : _ = some (Value.slice none 0 0) := R0_3.cell 1
  have fR0_3_1 := R0_3.free 1
  have cR0_3_2 : _ = some (Value.slice none 0 0) := R0_3.cell 2
  have fR0_3_2 := R0_3.free 2
  have A_3 := A_2.next hB_3
  have cA_3_0 : _ = some (Value.bool (qsg (fq f) 0)) := A_3.cell 0
  have cA_3_1 : _ = some (Value.slice pa pn pc) := A_3.cell 1
  have cA_3_2 : _ = some (Value.slice pb pm pd) := A_3.cell 2
  have hq_3 := hq_2.below hB_3
  have Op_3 := Op_2.below hB_3
  have Pp_3 := Pp_2.below hB_3
  have hbel_3 := hbel_2.next hB_3
  have hsz_3 := hB_3.size
  clear X_2 cX_2_0 cX_2_1 cX_2_2 R0_2 cR0_2_0 fR0_2_0 cR0_2_1 fR0_2_1 cR0_2_2 fR0_2_2 A_2 cA_2_0 cA_2_1 cA_2_2 hq_2 Op_2 Pp_2 hbel_2 hB_3
  have Oz_3 := hO
  have ltOz := hO.ltB
  have Pz_3 := hO'
  have ltPz := hO'.ltB
  have hDz := hid hD
  clear hO hO' hD
  try clear hB
  have hbx := blk_new w3 #[Value.bool (decide (z.num < 0)), Value.slice za zn zc, Value.slice zb zm zd] 27
  have hbB := (Below.refl w3.heap.size w3).alloc (Nat.le_refl _) (.cells #[Value.bool (decide (z.num < 0)), Value.slice za zn zc, Value.slice zb zm zd] 27)
  have hltD := hbx.lt
  have hB_4 : Below w3.heap.size w3 (w3.alloc (.cells #[Value.bool (decide (z.num < 0)), Value.slice za zn zc, Value.slice zb zm zd] 27)) := hbB
  have X_4 := X_3.next hB_4
  have cX_4_0 : _ = some (Value.bool s) := X_4.cell 0
  have cX_4_1 : _ = some (Value.slice a n c) := X_4.cell 1
  have cX_4_2 : _ = some (Value.slice b m d) := X_4.cell 2
  have R0_4 := R0_3.next hB_4
  have cR0_4_0 : _ = some (Value.bool false) := R0_4.cell 0
  have fR0_4_0 := R0_4.free 0
  have cR0_4_1 : _ = some (Value.slice none 0 0) := R0_4.cell 1
  have fR0_4_1 := R0_4.free 1
  have cR0_4_2 : _ = some (Value.slice none 0 0) := R0_4.cell 2
  have fR0_4_2 := R0_4.free 2
  have A_4 := A_3.next hB_4
  have cA_4_0 : _ = some (Value.bool (qsg (fq f) 0)) := A_4.cell 0
  have cA_4_1 : _ = some (Value.slice pa pn pc) := A_4.cell 1
  have cA_4_2 : _ = some (Value.slice pb pm pd) := A_4.cell 2
  have hq_4 := hq_3.below hB_4
  have Op_4 := Op_3.below hB_4
  have Pp_4 := Pp_3.below hB_4
  have Oz_4 := Oz_3.below hB_4
  have Pz_4 := Pz_3.below hB_4
  have hbel_4 := hbel_3.next hB_4
  have hsz_4 := hB_4.size
  clear hB_4
  have D_4 := hbx
  clear hbx hbB
  have cD_4_0 : _ = some (Value.bool (decide (z.num < 0))) := D_4.cell 0
  have cD_4_1 : _ = some (Value.slice za zn zc) := D_4.cell 1
  have cD_4_2 : _ = some (Value.slice zb zm zd) := D_4.cell 2
  go_wp2_with fail
  clear X_3 cX_3_0 cX_3_1 cX_3_2 R0_3 cR0_3_0 fR0_3_0 cR0_3_1 fR0_3_1 cR0_3_2 fR0_3_2 A_3 cA_3_0 cA_3_1 cA_3_2 hq_3 Op_3 Pp_3 Oz_3 Pz_3 hbel_3
  generalize (w3.alloc (.cells #[Value.bool (decide (z.num < 0)), Value.slice za zn zc, Value.slice zb zm zd] 27)) = v4 at *
  go_wp2_with fail
  refine (cmp_r hkh.out (Oz_4.rdQ Pz_4 hds.out) (by omega) (rdq_zero _) (by omega)).mono ?_
  rintro e w5 ⟨rfl, hB⟩
  have hB_5 : Below v4.heap.size v4 w5 := (bl.next hB)
  have X_5 := X_4.next hB_5
  have cX_5_0 : _ = some (Value.bool s) := X_5.cell 0
  have cX_5_1 : _ = some (Value.slice a n c) := X_5.cell 1
  have cX_5_2 : _ = some (Value.slice b m d) := X_5.cell 2
  have R0_5 := R0_4.next hB_5
  have cR0_5_0 : _ = some (Value.bool false) := R0_5.cell 0
  have fR0_5_0 := R0_5.free 0
  have cR0_5_1 : _ = some (Value.slice none 0 0) := R0_5.cell 1
  have fR0_5_1 := R0_5.free 1
  have cR0_5_2 : _ = some (Value.slice none 0 0) := R0_5.cell 2
  have fR0_5_2 := R0_5.free 2
  have A_5 := A_4.next hB_5
  have cA_5_0 : _ = some (Value.bool (qsg (fq f) 0)) := A_5.cell 0
  have cA_5_1 : _ = some (Value.slice pa pn pc) := A_5.cell 1
  have cA_5_2 : _ = some (Value.slice pb pm pd) := A_5.cell 2
  have D_5 := D_4.next hB_5
  have cD_5_0 : _ = some (Value.bool (decide (z.num < 0))) := D_5.cell 0
  have cD_5_1 : _ = some (Value.slice za zn zc) := D_5.cell 1
  have cD_5_2 : _ = some (Value.slice zb zm zd) := D_5.cell 2
  have hq_5 := hq_4.below hB_5
  have Op_5 := Op_4.below hB_5
  have Pp_5 := Pp_4.below hB_5
  have Oz_5 := Oz_4.below hB_5
  have Pz_5 := Pz_4.below hB_5
  have hbel_5 := hbel_4.next hB_5
  have hsz_5 := hB_5.size
  clear X_4 cX_4_0 cX_4_1 cX_4_2 R0_4 cR0_4_0 fR0_4_0 cR0_4_1 fR0_4_1 cR0_4_2 fR0_4_2 A_4 cA_4_0 cA_4_1 cA_4_2 D_4 cD_4_0 cD_4_1 cD_4_2 hq_4 Op_4 Pp_4 Oz_4 Pz_4 hbel_4 hB_5
  try clear hB
  go_wp2
  refine bodyPost_ret (v := .agg #[.bool (decide (z.num < 0)), .slice za zn zc, .slice zb zm zd]) (by simp [results, Tryd.results12, go_sem, cR0_5_0, cR0_5_1, cR0_5_2]) rfl ?_
  exact retq_set Oz_5 Pz_5 hDz.out hbel_5 (by omega) (by omega)

theorem off_any {w : World} {s : Bool} {a b : Option Addr} {n c m d : Nat} {q : Rat} (hq : RdQ 500 w s a n c b m d q) (f : Nat) (hf : f < 18446744073709551616) (hfin : fr f < 9218868437227405312) : Calls Tryd.prog 12 #[.agg #[.bool s, .slice a n c, .slice b m d], .float .f64 f] w (RetQ w (aq (q - fq f))) := by
  by_cases hs : q - fq f < 0
  · exact off1 hq f hf hfin hs
  · exact off0 hq f hf hfin hs

theorem rd12 {W : World} {a b : Option Addr} {c d : Nat} (ha : Rd W a 1 c [1]) (hb : Rd W b 1 d [2]) : RdQ 1 W false a 1 c b 1 d (qv false 1 2) := ⟨1, 2, ⟨[1], ha, by decide, by omega⟩, ⟨[2], hb, by decide, by omega⟩, rfl⟩
theorem q12 : fq 4602678819172646912 = mkRat 1 2 := by
  have hfr : fr 4602678819172646912 = 4602678819172646912 := by decide
  have hs : fs 4602678819172646912 = false := by decide
  unfold fq
  rw [if_pos (by decide), hs, hfr]
  obtain ⟨r, hr⟩ : ∃ r : Nat, r = 4602678819172646912 := ⟨_, rfl⟩
  rw [← hr]
  have hg := fg_hi (r := r) (by omega)
  obtain ⟨K, hK⟩ : ∃ K, r / 4503599627370496 - 1 = K := ⟨_, rfl⟩
  have hK2 : K = 1021 := by omega
  have hm : r % 4503599627370496 = 0 := by omega
  rw [hK, hm] at hg
  have h := flV_below (s := false) (r := r) (num := 1) (D := 1) (by
    rw [hg]
    have hE : E74 = 53 + K := by show 1074 = 53 + K; omega
    rw [hE, Nat.pow_add]
    generalize 2 ^ K = Z
    rw [show (2 : Nat) ^ 53 = 9007199254740992 by decide]
    omega) (.inl (by decide))
  exact Rat.ext (h.1.trans (by decide)) (h.2.trans (by decide))

set_option maxRecDepth 100000 in
set_option maxHeartbeats 4000000 in
theorem number12 {w : World}  :
    Calls Tryd.prog 21 #[.int .i64 1, .int .i64 2] w (fun e w' => ∃ a c b d, e = .returned (.agg #[.bool false, .slice a 1 c, .slice b 1 d]) ∧ Own w.heap.size w' a 1 c [1] ∧ Own w.heap.size w' b 1 d [2] ∧ Below w.heap.size w w') := by
  have H12 := hid (fun w => (rqof (w := w) 1 2 (by omega) (by omega) (by omega) (by omega)).mono fun e w' h => retr1 (s := false) (u := 1) (v := 2) (by decide +kernel) (by decide +kernel) (by decide +kernel) h)
  have hent := ent1 w #[Value.bool false, Value.slice none 0 0, Value.slice none 0 0] 27
  go_enter Tryd.func21, Tryd.ntmps21
  go_wp2_with fail
  generalize (w.alloc (.cells #[Value.bool false, Value.slice none 0 0, Value.slice none 0 0] 27)) = W0 at hent ⊢
  obtain ⟨R0_0, hbel_0, hsz_0⟩ := hent
  have cR0_0_0 : _ = some (Value.bool false) := R0_0.cell 0
  have fR0_0_0 := R0_0.free 0
  have cR0_0_1 : _ = some (Value.slice none 0 0) := R0_0.cell 1
  have fR0_0_1 := R0_0.free 1
  have cR0_0_2 : _ = some (Value.slice none 0 0) := R0_0.cell 2
  have fR0_0_2 := R0_0.free 2
  go_wp2_with fail
  refine (H12.out _).mono ?_
  rintro e w1 ⟨ha, hc, hb, hd, rfl, hO, hO', hB⟩
  have hB_1 : Below W0.heap.size W0 w1 := (bl.next hB)
  have R0_1 := R0_0.next hB_1
  have cR0_1_0 : _ = some (Value.bool false) := R0_1.cell 0
  have fR0_1_0 := R0_1.free 0
  have cR0_1_1 : _ = some (Value.slice none 0 0) := R0_1.cell 1
  have fR0_1_1 := R0_1.free 1
  have cR0_1_2 : _ = some (Value.slice none 0 0) := R0_1.cell 2
  have fR0_1_2 := R0_1.free 2
  have hbel_1 := hbel_0.next hB_1
  have hsz_1 := hB_1.size
  clear R0_0 cR0_0_0 fR0_0_0 cR0_0_1 fR0_0_1 cR0_0_2 fR0_0_2 hbel_0 hB_1
  have Oh_1 := hO
  have ltOh := hO.ltB
  have Ph_1 := hO'
  have ltPh := hO'.ltB
  clear hO hO'
  try clear hB
  have hbx := blk_new w1 #[Value.bool false, Value.slice ha 1 hc, Value.slice hb 1 hd] 27
  have hbB := (Below.refl w1.heap.size w1).alloc (Nat.le_refl _) (.cells #[Value.bool false, Value.slice ha 1 hc, Value.slice hb 1 hd] 27)
  have hltA := hbx.lt
  have hB_2 : Below w1.heap.size w1 (w1.alloc (.cells #[Value.bool false, Value.slice ha 1 hc, Value.slice hb 1 hd] 27)) := hbB
  have R0_2 := R0_1.next hB_2
  have cR0_2_0 : _ = some (Value.bool false) := R0_2.cell 0
  have fR0_2_0 := R0_2.free 0
  have cR0_2_1 : _ = some (Value.slice none 0 0) := R0_2.cell 1
  have fR0_2_1 := R0_2.free 1
  have cR0_2_2 : _ = some (Value.slice none 0 0) := R0_2.cell 2
  have fR0_2_2 := R0_2.free 2
  have Oh_2 := Oh_1.below hB_2
  have Ph_2 := Ph_1.below hB_2
  have hbel_2 := hbel_1.next hB_2
  have hsz_2 := hB_2.size
  clear hB_2
  have A_2 := hbx
  clear hbx hbB
  have cA_2_0 : _ = some (Value.bool false) := A_2.cell 0
  have cA_2_1 : _ = some (Value.slice ha 1 hc) := A_2.cell 1
  have cA_2_2 : _ = some (Value.slice hb 1 hd) := A_2.cell 2
  go_wp2_with fail
  clear R0_1 cR0_1_0 fR0_1_0 cR0_1_1 fR0_1_1 cR0_1_2 fR0_1_2 Oh_1 Ph_1 hbel_1
  generalize (w1.alloc (.cells #[Value.bool false, Value.slice ha 1 hc, Value.slice hb 1 hd] 27)) = v2 at *
  go_wp2
  refine bodyPost_ret (v := .agg #[.bool false, .slice ha 1 hc, .slice hb 1 hd]) (by simp [results, Tryd.results21, go_sem, cR0_2_0, cR0_2_1, cR0_2_2]) rfl ?_
  exact ⟨_, _, _, _, rfl, (Oh_2.set3 (by omega) _ _ _).mono (by omega), (Ph_2.set3 (by omega) _ _ _).mono (by omega), Below.set3 hbel_2 (by omega) _ _ _⟩

set_option maxRecDepth 100000 in
set_option maxHeartbeats 4000000 in
theorem alike_eq {w : World} {a1 b1 : Option Addr} {n1 c1 m1 d1 : Nat} {s : Bool} {x : Rat} {a2 b2 : Option Addr} {n2 c2 m2 d2 : Nat} {t : Bool} (hx : RdQ 66 w s a1 n1 c1 b1 m1 d1 x) (hy : RdQ 66 w t a2 n2 c2 b2 m2 d2 x) :
    Calls Tryd.prog 22 #[.agg #[.bool s, .slice a1 n1 c1, .slice b1 m1 d1], .agg #[.bool t, .slice a2 n2 c2, .slice b2 m2 d2]] w (fun e w' => e = .returned (.bool true) ∧ Below w.heap.size w w') := by
  have hC : Hid (∀ W, RdQ 66 W s a1 n1 c1 b1 m1 d1 x → RdQ 66 W t a2 n2 c2 b2 m2 d2 x → Calls Tryd.prog 14 #[.agg #[.bool s, .slice a1 n1 c1, .slice b1 m1 d1], .agg #[.bool t, .slice a2 n2 c2, .slice b2 m2 d2]] W (RetIb W 0)) := fun W h h' => cmp_r (cmpQ_self x) h (by omega) h' (by omega)
  have hent := ent2 w #[Value.bool s, Value.slice a1 n1 c1, Value.slice b1 m1 d1] #[Value.bool t, Value.slice a2 n2 c2, Value.slice b2 m2 d2] 27 27
  go_enter Tryd.func22, Tryd.ntmps22
  go_wp2_with fail
  generalize ((w.alloc (.cells #[Value.bool s, Value.slice a1 n1 c1, Value.slice b1 m1 d1] 27)).alloc (.cells #[Value.bool t, Value.slice a2 n2 c2, Value.slice b2 m2 d2] 27)) = W0 at hent ⊢
  obtain ⟨X_0, Y_0, hbel_0, hsz_0⟩ := hent
  have cX_0_0 : _ = some (Value.bool s) := X_0.cell 0
  have cX_0_1 : _ = some (Value.slice a1 n1 c1) := X_0.cell 1
  have cX_0_2 : _ = some (Value.slice b1 m1 d1) := X_0.cell 2
  have cY_0_0 : _ = some (Value.bool t) := Y_0.cell 0
  have cY_0_1 : _ = some (Value.slice a2 n2 c2) := Y_0.cell 1
  have cY_0_2 : _ = some (Value.slice b2 m2 d2) := Y_0.cell 2
  have hx_0 := hx.below hbel_0
  clear hx
  have hy_0 := hy.below hbel_0
  clear hy
  go_wp2_with fail
  refine (hC.out _ hx_0 hy_0).mono ?_
  rintro e w1 ⟨rfl, hB⟩
  have hB_1 : Below W0.heap.size W0 w1 := (bl.next hB)
  have X_1 := X_0.next hB_1
  have cX_1_0 : _ = some (Value.bool s) := X_1.cell 0
  have cX_1_1 : _ = some (Value.slice a1 n1 c1) := X_1.cell 1
  have cX_1_2 : _ = some (Value.slice b1 m1 d1) := X_1.cell 2
  have Y_1 := Y_0.next hB_1
  have cY_1_0 : _ = some (Value.bool t) := Y_1.cell 0
  have cY_1_1 : _ = some (Value.slice a2 n2 c2) := Y_1.cell 1
  have cY_1_2 : _ = some (Value.slice b2 m2 d2) := Y_1.cell 2
  have hx_1 := hx_0.below hB_1
  have hy_1 := hy_0.below hB_1
  have hbel_1 := hbel_0.next hB_1
  have hsz_1 := hB_1.size
  clear X_0 cX_0_0 cX_0_1 cX_0_2 Y_0 cY_0_0 cY_0_1 cY_0_2 hx_0 hy_0 hbel_0 hB_1
  try clear hB
  go_wp2
  go_ret
  exact ⟨rfl, hbel_1⟩

set_option maxRecDepth 100000 in
set_option maxHeartbeats 4000000 in
theorem halfT {w : World} (GL : Lng w) :
    Calls Tryd.prog 6 #[] w (fun e w' => e = .returned (.bool true) ∧ Below w.heap.size w w') := by
  have H12 := hid (fun w => number12 (w := w))
  have H05 := hid (fun w => (show Calls Tryd.prog 13 #[.float .f64 4602678819172646912] w (RetR1 w false 1 2) from (near64 (w := w) 4602678819172646912 (by decide)).mono fun e w' h => retr1 (s := false) (u := 1) (v := 2) (by rw [q12]; decide +kernel) (by rw [q12]; decide +kernel) (by rw [q12]; decide +kernel) ((show fe 4602678819172646912 = 0 by decide) ▸ h)))
  have e1 : (FloatKind.f64.format.order 4602678819172646912 4602678819172646912 == some .eq) = true := by decide +kernel
  go_enter Tryd.func6, Tryd.ntmps6
  have hbel_0 : Below w.heap.size w w := Below.refl _ _
  have GL_0 := GL.below hbel_0
  clear GL
  go_wp2_with fail
  refine (H12.out _).mono ?_
  rintro e w1 ⟨ha, hc, hb, hd, rfl, hO, hO', hB⟩
  have hB_1 : Below w.heap.size w w1 := (bl.next hB)
  have GL_1 := GL_0.below hB_1
  have hbel_1 := hbel_0.next hB_1
  have hsz_1 := hB_1.size
  clear GL_0 hbel_0 hB_1
  have Oh_1 := hO
  have ltOh := hO.ltB
  have Ph_1 := hO'
  have ltPh := hO'.ltB
  clear hO hO'
  try clear hB
  go_wp2_with fail
  refine (nearest2 GL_1.a GL_1.b GL_1.c Oh_1.rd Ph_1.rd).mono ?_
  rintro e w2 ⟨rfl, hB⟩
  have hB_2 : Below w1.heap.size w1 w2 := (bl.next hB)
  have GL_2 := GL_1.below hB_2
  have Oh_2 := Oh_1.below hB_2
  have Ph_2 := Ph_1.below hB_2
  have hbel_2 := hbel_1.next hB_2
  have hsz_2 := hB_2.size
  clear GL_1 Oh_1 Ph_1 hbel_1 hB_2
  try clear hB
  go_wp2_with fail
  refine (H05.out _).mono ?_
  rintro e w3 ⟨xa, xc, xb, xd, rfl, hO, hO', hB⟩
  have hB_3 : Below w2.heap.size w2 w3 := (bl.next hB)
  have GL_3 := GL_2.below hB_3
  have Oh_3 := Oh_2.below hB_3
  have Ph_3 := Ph_2.below hB_3
  have hbel_3 := hbel_2.next hB_3
  have hsz_3 := hB_3.size
  clear GL_2 Oh_2 Ph_2 hbel_2 hB_3
  have Ox_3 := hO
  have ltOx := hO.ltB
  have Px_3 := hO'
  have ltPx := hO'.ltB
  clear hO hO'
  try clear hB
  have hbx := blk_new w3 #[Value.bool false, Value.slice xa 1 xc, Value.slice xb 1 xd] 27
  have hbB := (Below.refl w3.heap.size w3).alloc (Nat.le_refl _) (.cells #[Value.bool false, Value.slice xa 1 xc, Value.slice xb 1 xd] 27)
  have hltA := hbx.lt
  have hB_4 : Below w3.heap.size w3 (w3.alloc (.cells #[Value.bool false, Value.slice xa 1 xc, Value.slice xb 1 xd] 27)) := hbB
  have GL_4 := GL_3.below hB_4
  have Oh_4 := Oh_3.below hB_4
  have Ph_4 := Ph_3.below hB_4
  have Ox_4 := Ox_3.below hB_4
  have Px_4 := Px_3.below hB_4
  have hbel_4 := hbel_3.next hB_4
  have hsz_4 := hB_4.size
  clear hB_4
  have A_4 := hbx
  clear hbx hbB
  have cA_4_0 : _ = some (Value.bool false) := A_4.cell 0
  have cA_4_1 : _ = some (Value.slice xa 1 xc) := A_4.cell 1
  have cA_4_2 : _ = some (Value.slice xb 1 xd) := A_4.cell 2
  go_wp2_with fail
  clear GL_3 Oh_3 Ph_3 Ox_3 Px_3 hbel_3
  generalize (w3.alloc (.cells #[Value.bool false, Value.slice xa 1 xc, Value.slice xb 1 xd] 27)) = v4 at *
  go_wp2_with fail
  go_region_held3 (fun w' => w'.cell? ⟨w3.heap.size, 0, none⟩ = some (Value.bool false) ∧ w'.cell? ⟨w3.heap.size, 1, none⟩ = some (Value.slice xa 1 xc) ∧ w'.cell? ⟨w3.heap.size, 2, none⟩ = some (Value.slice xb 1 xd))
    (first | exact ⟨cA_4_0, cA_4_1, cA_4_2⟩ | exact ⟨cA_5_0, cA_5_1, cA_5_2⟩ | exact ⟨cA_6_0, cA_6_1, cA_6_2⟩ | go_keep)
    (first
      | (go_at_call 21; ((with_reducible refine (H12.out _).mono ?_); (rintro e w5 ⟨ya, yc, yb, yd, rfl, hO, hO', hB⟩; have hB_5 : Below v4.heap.size v4 w5 := (bl.next hB); have A_5 := A_4.next hB_5; have cA_5_0 : _ = some (Value.bool false) := A_5.cell 0; have cA_5_1 : _ = some (Value.slice xa 1 xc) := A_5.cell 1; have cA_5_2 : _ = some (Value.slice xb 1 xd) := A_5.cell 2; have GL_5 := GL_4.below hB_5; have Oh_5 := Oh_4.below hB_5; have Ph_5 := Ph_4.below hB_5; have Ox_5 := Ox_4.below hB_5; have Px_5 := Px_4.below hB_5; have hbel_5 := hbel_4.next hB_5; have hsz_5 := hB_5.size; clear A_4 cA_4_0 cA_4_1 cA_4_2 GL_4 Oh_4 Ph_4 Ox_4 Px_4 hbel_4 hB_5; have Oy_5 := hO; have ltOy := hO.ltB; have Py_5 := hO'; have ltPy := hO'.ltB; clear hO hO'; try clear hB)))
      | (go_at_call 22; ((with_reducible refine (alike_eq ((rd12 (Ox_5.below bl).rd (Px_5.below bl).rd).mono (by omega)) ((rd12 (Oy_5.below bl).rd (Py_5.below bl).rd).mono (by omega))).mono ?_); (rintro e w6 ⟨rfl, hB⟩; have hB_6 : Below w5.heap.size w5 w6 := (bl.next hB); have A_6 := A_5.next hB_6; have cA_6_0 : _ = some (Value.bool false) := A_6.cell 0; have cA_6_1 : _ = some (Value.slice xa 1 xc) := A_6.cell 1; have cA_6_2 : _ = some (Value.slice xb 1 xd) := A_6.cell 2; have GL_6 := GL_5.below hB_6; have Oh_6 := Oh_5.below hB_6; have Ph_6 := Ph_5.below hB_6; have Ox_6 := Ox_5.below hB_6; have Px_6 := Px_5.below hB_6; have Oy_6 := Oy_5.below hB_6; have Py_6 := Py_5.below hB_6; have hbel_6 := hbel_5.next hB_6; have hsz_6 := hB_6.size; clear A_5 cA_5_0 cA_5_1 cA_5_2 GL_5 Oh_5 Ph_5 Ox_5 Px_5 Oy_5 Py_5 hbel_5 hB_6; try clear hB))))
  go_wp2
  go_ret
  exact ⟨rfl, by first | exact hbel_6 | exact hbel_6.drew⟩

end Go.Proofs.YtoeldbdcbfgmoaaDoor
