/- WALKS OF FLOATS, 7: a float's value: floats of other names, of 32 bits, and what is no number. -/
import Derived.Test.YtoeldbdcbfgmoaaDoorFq
namespace Go.Proofs.YtoeldbdcbfgmoaaDoor
set_option linter.unusedVariables false
set_option linter.unusedSimpArgs false
open Go.ChangeShapes Go.WideShapes Go.ChangeAt Go.RowKit Go.NatP Go.FloatP

set_option maxRecDepth 100000 in
set_option maxHeartbeats 8000000 in
theorem nof32 {w : World} (x : Nat) (s0 : Nat) (hcv : ∀ w, (convert 42 28 (.float .f32 s0)).run Tryd.prog w = .ok (.float .f64 x) w) (hx : x < 18446744073709551616) (hf : fr x < 9218868437227405312) (h0 : fr x ≠ 0) :
    Calls Tryd.prog 16 #[.float .f32 s0] w (RetQE w (flV (fs x) (fr x)) 0) := by
  obtain ⟨hk1, hk2⟩ := fK_bd h0
  obtain ⟨hx1, hx2⟩ := fX_bd h0 hf
  have HN : Hid (∀ w, Calls Tryd.prog 29 #[.float .f64 x] w (fun e w' => e = .returned (.bool false) ∧ Below w.heap.size w w')) := fun w => ((show Calls Tryd.prog 29 #[.float .f64 x] w (fun e w' => e = .returned (.bool false) ∧ w' = w) from fin_num hf ▸ isnan_any x)).mono fun e w' ⟨h1, h2⟩ => ⟨h1, by rw [h2]; exact Below.refl _ _⟩
  have HI : Hid (∀ w, Calls Tryd.prog 11 #[.float .f64 x, .int .i64 0] w (fun e w' => e = .returned (.bool false) ∧ Below w.heap.size w w')) := fun w => (isinf_fin hx hf).mono fun e w' ⟨h1, h2⟩ => ⟨h1, by rw [h2]; exact Below.refl _ _⟩
  have HA : Hid (∀ w, Calls Tryd.prog 34 #[.float .f64 x] w (fun e w' => e = .returned (.float .f64 (fr x)) ∧ Below w.heap.size w w')) := fun w => (abs_any x hx).mono fun e w' ⟨h1, h2⟩ => ⟨h1, by rw [h2]; exact Below.refl _ _⟩
  have hE : fxE (fr x) = fX (fr x) := if_neg h0
  have HF : Hid (∀ w, Calls Tryd.prog 37 #[.float .f64 (fr x)] w (fun e w' => e = .returned (.tuple #[.float .f64 (fxM (fr x)), .int .i64 (fX (fr x))]) ∧ Below w.heap.size w w')) := fun w => ((show Calls Tryd.prog 37 #[.float .f64 (fr x)] w (fun e w' => e = .returned (.tuple #[.float .f64 (fxM (fr x)), .int .i64 (fX (fr x))]) ∧ w' = w) from hE ▸ Frexp_any hf)).mono fun e w' ⟨h1, h2⟩ => ⟨h1, by rw [h2]; exact Below.refl _ _⟩
  have hmul := run_mul53 h0
  have hlt0 := lt_zero hf
  have HO := hid (fun w => of_any (w := w) (fK (fr x) : Int) (by omega) (by omega))
  rw [Int.toNat_natCast] at HO
  have H1 := hid (fun w => of_any (w := w) 1 (by omega) (by omega))
  rw [show (1 : Int).toNat = 1 from rfl] at H1
  have hHv := hid (Halved.start h0)
  obtain ⟨M, hM⟩ : ∃ M, fxM (fr x) = M := ⟨_, rfl⟩
  rw [hM] at HF hmul
  clear hM hE
  obtain ⟨Y, hY⟩ : ∃ Y, 1074 * 4503599627370496 + fK (fr x) = Y := ⟨_, rfl⟩
  have hu := run_cv hY hk1 hk2
  rw [hY] at hmul
  clear hY
  have hent := ent1 w #[Value.bool false, Value.slice none 0 0, Value.slice none 0 0] 27
  go_enter Tryd.func16, Tryd.ntmps16
  go_wp2_with fail
  generalize (w.alloc (.cells #[Value.bool false, Value.slice none 0 0, Value.slice none 0 0] 27)) = W0 at hent ⊢
  obtain ⟨R_0, hbel_0, hsz_0⟩ := hent
  have cR_0_0 : _ = some (Value.bool false) := R_0.cell 0
  have fR_0_0 := R_0.free 0
  have cR_0_1 : _ = some (Value.slice none 0 0) := R_0.cell 1
  have fR_0_1 := R_0.free 1
  have cR_0_2 : _ = some (Value.slice none 0 0) := R_0.cell 2
  have fR_0_2 := R_0.free 2
  go_wp2_with fail
  refine (HN.out _).mono ?_
  rintro e w1 ⟨rfl, hB⟩
  have hB_1 : Below W0.heap.size W0 w1 := (bl.next hB)
  have R_1 := R_0.next hB_1
  have cR_1_0 : _ = some (Value.bool false) := R_1.cell 0
  have fR_1_0 := R_1.free 0
  have cR_1_1 : _ = some (Value.slice none 0 0) := R_1.cell 1
  have fR_1_1 := R_1.free 1
  have cR_1_2 : _ = some (Value.slice none 0 0) := R_1.cell 2
  have fR_1_2 := R_1.free 2
  have hbel_1 := hbel_0.next hB_1
  have hsz_1 := hB_1.size
  clear R_0 cR_0_0 fR_0_0 cR_0_1 fR_0_1 cR_0_2 fR_0_2 hbel_0 hB_1
  try clear hB
  go_wp2_with fail
  refine (HI.out _).mono ?_
  rintro e w2 ⟨rfl, hB⟩
  have hB_2 : Below w1.heap.size w1 w2 := (bl.next hB)
  have R_2 := R_1.next hB_2
  have cR_2_0 : _ = some (Value.bool false) := R_2.cell 0
  have fR_2_0 := R_2.free 0
  have cR_2_1 : _ = some (Value.slice none 0 0) := R_2.cell 1
  have fR_2_1 := R_2.free 1
  have cR_2_2 : _ = some (Value.slice none 0 0) := R_2.cell 2
  have fR_2_2 := R_2.free 2
  have hbel_2 := hbel_1.next hB_2
  have hsz_2 := hB_2.size
  clear R_1 cR_1_0 fR_1_0 cR_1_1 fR_1_1 cR_1_2 fR_1_2 hbel_1 hB_2
  try clear hB
  go_wp2_with fail
  refine (HA.out _).mono ?_
  rintro e w3 ⟨rfl, hB⟩
  have hB_3 : Below w2.heap.size w2 w3 := (bl.next hB)
  have R_3 := R_2.next hB_3
  have cR_3_0 : _ = some (Value.bool false) := R_3.cell 0
  have fR_3_0 := R_3.free 0
  have cR_3_1 : _ = some (Value.slice none 0 0) := R_3.cell 1
  have fR_3_1 := R_3.free 1
  have cR_3_2 : _ = some (Value.slice none 0 0) := R_3.cell 2
  have fR_3_2 := R_3.free 2
  have hbel_3 := hbel_2.next hB_3
  have hsz_3 := hB_3.size
  clear R_2 cR_2_0 fR_2_0 cR_2_1 fR_2_1 cR_2_2 fR_2_2 hbel_2 hB_3
  try clear hB
  go_wp2_with fail
  refine (HF.out _).mono ?_
  rintro e w4 ⟨rfl, hB⟩
  have hB_4 : Below w3.heap.size w3 w4 := (bl.next hB)
  have R_4 := R_3.next hB_4
  have cR_4_0 : _ = some (Value.bool false) := R_4.cell 0
  have fR_4_0 := R_4.free 0
  have cR_4_1 : _ = some (Value.slice none 0 0) := R_4.cell 1
  have fR_4_1 := R_4.free 1
  have cR_4_2 : _ = some (Value.slice none 0 0) := R_4.cell 2
  have fR_4_2 := R_4.free 2
  have hbel_4 := hbel_3.next hB_4
  have hsz_4 := hB_4.size
  clear R_3 cR_3_0 fR_3_0 cR_3_1 fR_3_1 cR_3_2 fR_3_2 hbel_3 hB_4
  try clear hB
  go_wp2_with fail
  refine (HO.out _).mono ?_
  rintro e w5 ⟨na, nn, nc, rfl, hO, hB⟩
  have hB_5 : Below w4.heap.size w4 w5 := (bl.next hB)
  have R_5 := R_4.next hB_5
  have cR_5_0 : _ = some (Value.bool false) := R_5.cell 0
  have fR_5_0 := R_5.free 0
  have cR_5_1 : _ = some (Value.slice none 0 0) := R_5.cell 1
  have fR_5_1 := R_5.free 1
  have cR_5_2 : _ = some (Value.slice none 0 0) := R_5.cell 2
  have fR_5_2 := R_5.free 2
  have hbel_5 := hbel_4.next hB_5
  have hsz_5 := hB_5.size
  clear R_4 cR_4_0 fR_4_0 cR_4_1 fR_4_1 cR_4_2 fR_4_2 hbel_4 hB_5
  have N_5 := hO
  have ltN := hO.ltB
  clear hO
  try clear hB
  go_wp2_with fail
  refine (H1.out _).mono ?_
  rintro e w6 ⟨da, dn, dc, rfl, hO, hB⟩
  have hB_6 : Below w5.heap.size w5 w6 := (bl.next hB)
  have R_6 := R_5.next hB_6
  have cR_6_0 : _ = some (Value.bool false) := R_6.cell 0
  have fR_6_0 := R_6.free 0
  have cR_6_1 : _ = some (Value.slice none 0 0) := R_6.cell 1
  have fR_6_1 := R_6.free 1
  have cR_6_2 : _ = some (Value.slice none 0 0) := R_6.cell 2
  have fR_6_2 := R_6.free 2
  have N_6 := N_5.below hB_6
  have hbel_6 := hbel_5.next hB_6
  have hsz_6 := hB_6.size
  clear R_5 cR_5_0 fR_5_0 cR_5_1 fR_5_1 cR_5_2 fR_5_2 N_5 hbel_5 hB_6
  have D_6 := hO
  have ltD := hO.ltB
  clear hO
  try clear hB
  have hKs : Sz (fK (fr x)) 2 := by show _ < 4294967296 ^ 2; omega
  go_wp2_with fail
  obtain ⟨W0, hW0⟩ : ∃ y : World, y = w6 := ⟨_, rfl⟩
  subst hW0
  go_loopw [6, 7] (fun ev nv wr => ∃ (n c m : Nat) (a : Option Addr) (E : Int), ev = .int .i64 E ∧ nv = .slice a n c ∧ -1200 ≤ E ∧ E ≤ 1100 ∧ Own (w.heap.size + 1) wr a n c (lm m) ∧ Hid (Halved (fr x) m E) ∧ Hid (Sz m 2) ∧ Below W0.heap.size W0 wr) (fun ev _ _ => (-(intOf ev)).toNat)
  case atStart => exact ⟨nn, nc, fK (fr x), na, _, rfl, rfl, by omega, by omega, N_6.mono (by omega), hHv, hKs, Below.refl _ _⟩
  case round =>
    obtain ⟨n, c, m, a, E, rfl, rfl, hE1, hE2, hO, hHv, hms, hBr⟩ := hrel
    have hsz := hBr.size
    have hn2 : n ≤ 2 := by have := hO.len; have := hms.out.len; omega
    have hm0 := hHv.out.pos
    have hn0 : 0 < n := by rw [← hO.len]; exact List.length_pos_iff.2 (fun h => hm0 (lm_eq_nil.1 h))
    have hpar : m % 2 = (lm m).getD 0 0 % 2 := by have := val_mod2 (lm m); rwa [val_lm] at this
    rcases hO.cases with ⟨_, h, _⟩ | ⟨g, rfl, _⟩
    · omega
    have hcc := hO.cell hn0
    have hlim : (lm m).getD 0 0 < 4294967296 := hO.lim.getD 0
    obtain ⟨v0, hv0⟩ : ∃ v, (lm m).getD 0 0 = v := ⟨_, rfl⟩
    rw [hv0] at hcc hlim hpar
    have hbit := and_one32 v0 hlim
    by_cases hE : E < 0
    · by_cases hp : m % 2 = 0
      · have hd : ((v0 % 2 : Nat) : Int) = 0 := by omega
        rw [hd] at hbit
        have hH2 := hid (hHv.out.step hp)
        have hms2 : Hid (Sz (m / 2) 2) := hms.out.mono (Nat.div_le_self _ _) (Nat.le_refl _)
        have hsh := hid (half_shift hO (by omega))
        clear hpar hp hd hv0 hlim
        go_wp2_with fail
        refine hsh.out.mono ?_
        rintro e w9 ⟨a9, n9, c9, rfl, hO9, hB9⟩
        go_wp2
        go_roundw
        case rel => exact ⟨n9, c9, m / 2, a9, E + 1, by go_num, rfl, by omega, by omega, hO9.mono (by omega), hH2, hms2, hBr.next hB9⟩
        case measure => simp [intOf]; omega
      · have hd : ((v0 % 2 : Nat) : Int) = 1 := by omega
        rw [hd] at hbit
        obtain ⟨D, rfl⟩ : ∃ D : Nat, E = -(D : Int) := ⟨(-E).toNat, by omega⟩
        have hDk := D_6.below hBr
        have hsh := hid (up_shift (m := 1) hDk (by have := hDk.len; have h1 : (lm 1).length = 1 := rfl; omega) D (by omega))
        have hV := flV_below (s := fs x) (hHv.out.below h0 rfl) (.inl (by omega))
        clear hpar hd hv0 hlim hp
        go_wp2_with fail
        refine hsh.out.mono ?_
        rintro e w9 ⟨a9, n9, c9, rfl, hO9, hB9⟩
        rw [Nat.one_mul] at hO9
        have hN9 := hO.below hB9
        have hR9 := (R_6.next hBr).next hB9
        have hbel9 := (hbel_6.next hBr).next hB9
        have hDf : Diff (some ⟨g, 0, none⟩) a9 := fun g' e e2 => by
          cases e
          have h1 := (hO9.lt' _ e2).1
          have h2 := (hO.lt' _ rfl).2
          omega
        have hlt9 : (FloatKind.f64.format.order x 0 == some .lt) = fs x := by rw [hlt0]; simp [h0]
        have hret := fun v0 v1 v2 => ret_fl (g := w.heap.size) (v0 := v0) (v1 := v1) (v2 := v2) hV hm0 hN9 hO9 hDf hbel9 (Nat.le_refl _) (by omega) (by have := hBr.size; omega)
        have cR0 := hR9.cell 0
        have cR1 := hR9.cell 1
        have cR2 := hR9.cell 2
        have fR0 := hR9.free 0
        have fR1 := hR9.free 1
        have fR2 := hR9.free 2
        clear hV hN9 hO9 hlt0
        generalize fs x = sg at *
        cases sg
        · have hq := hret (.bool false) (.slice (some ⟨g, 0, none⟩) n c) (.slice a9 n9 c9)
          have hRA := (show Blk _ _ #[_, _, _] from ((hR9.setCell (i := 0) (v := .bool false) (by simp)).setCell (i := 1) (v := .slice (some ⟨g, 0, none⟩) n c) (by simp)).setCell (i := 2) (v := .slice a9 n9 c9) (by simp))
          clear hret
          go_wp2_with fail
          generalize (((w9.setCell ⟨w.heap.size, 0, none⟩ (.bool false)).setCell ⟨w.heap.size, 1, none⟩ (.slice (some ⟨g, 0, none⟩) n c)).setCell ⟨w.heap.size, 2, none⟩ (.slice a9 n9 c9)) = wA at *
          have q0 := hRA.cell 0
          have q1 := hRA.cell 1
          have q2 := hRA.cell 2
          refine bodyPost_ret (v := .tuple #[.agg #[.bool false, .slice (some ⟨g, 0, none⟩) n c, .slice a9 n9 c9], .int .i64 0]) (by simp [results, Tryd.results16, go_sem, q0, q1, q2]) rfl ?_
          exact hq
        · have hq := hret (.bool true) (.slice (some ⟨g, 0, none⟩) n c) (.slice a9 n9 c9)
          have hRA := (show Blk _ _ #[_, _, _] from ((hR9.setCell (i := 0) (v := .bool true) (by simp)).setCell (i := 1) (v := .slice (some ⟨g, 0, none⟩) n c) (by simp)).setCell (i := 2) (v := .slice a9 n9 c9) (by simp))
          clear hret
          go_wp2_with fail
          generalize (((w9.setCell ⟨w.heap.size, 0, none⟩ (.bool true)).setCell ⟨w.heap.size, 1, none⟩ (.slice (some ⟨g, 0, none⟩) n c)).setCell ⟨w.heap.size, 2, none⟩ (.slice a9 n9 c9)) = wA at *
          have q0 := hRA.cell 0
          have q1 := hRA.cell 1
          have q2 := hRA.cell 2
          refine bodyPost_ret (v := .tuple #[.agg #[.bool true, .slice (some ⟨g, 0, none⟩) n c, .slice a9 n9 c9], .int .i64 0]) (by simp [results, Tryd.results16, go_sem, q0, q1, q2]) rfl ?_
          exact hq
    · obtain ⟨D, rfl⟩ : ∃ D : Nat, E = (D : Int) := ⟨E.toNat, by omega⟩
      have hDk := D_6.below hBr
      have hsh := hid (up_shift hO (by omega) D (by omega))
      have hV := flV_above (s := fs x) (hHv.out.above h0 rfl)
      have hmD : m * 2 ^ D ≠ 0 := Nat.mul_ne_zero hm0 (two_ne D)
      clear hpar hv0 hlim hbit
      go_wp2_with fail
      refine hsh.out.mono ?_
      rintro e w9 ⟨a9, n9, c9, rfl, hO9, hB9⟩
      have hN9 := hDk.below hB9
      have hR9 := (R_6.next hBr).next hB9
      have hbel9 := (hbel_6.next hBr).next hB9
      have hn9 : 0 < n9 := by rw [← hO9.len]; exact List.length_pos_iff.2 (fun h => hmD (lm_eq_nil.1 h))
      have hDf : Diff a9 da := fun g' e e2 => by
        have h1 := (hO9.lt' _ e).1
        have h2 := (D_6.lt' _ e2).2
        omega
      have hlt9 : (FloatKind.f64.format.order x 0 == some .lt) = fs x := by rw [hlt0]; simp [h0]
      have hret := fun v0 v1 v2 => ret_fl (g := w.heap.size) (v0 := v0) (v1 := v1) (v2 := v2) hV hmD hO9 hN9 hDf hbel9 (Nat.le_refl _) (by have := hBr.size; omega) (by omega)
      have cR0 := hR9.cell 0
      have cR1 := hR9.cell 1
      have cR2 := hR9.cell 2
      have fR0 := hR9.free 0
      have fR1 := hR9.free 1
      have fR2 := hR9.free 2
      clear hV hN9 hO9 hlt0 hmD
      generalize fs x = sg at *
      cases sg
      · have hq := hret (.bool false) (.slice a9 n9 c9) (.slice da dn dc)
        have hRA := (show Blk _ _ #[_, _, _] from ((hR9.setCell (i := 0) (v := .bool false) (by simp)).setCell (i := 1) (v := .slice a9 n9 c9) (by simp)).setCell (i := 2) (v := .slice da dn dc) (by simp))
        clear hret
        go_wp2_with fail
        generalize (((w9.setCell ⟨w.heap.size, 0, none⟩ (.bool false)).setCell ⟨w.heap.size, 1, none⟩ (.slice a9 n9 c9)).setCell ⟨w.heap.size, 2, none⟩ (.slice da dn dc)) = wA at *
        have q0 := hRA.cell 0
        have q1 := hRA.cell 1
        have q2 := hRA.cell 2
        refine bodyPost_ret (v := .tuple #[.agg #[.bool false, .slice a9 n9 c9, .slice da dn dc], .int .i64 0]) (by simp [results, Tryd.results16, go_sem, q0, q1, q2]) rfl ?_
        exact hq
      · have hq := hret (.bool true) (.slice a9 n9 c9) (.slice da dn dc)
        have hRA := (show Blk _ _ #[_, _, _] from ((hR9.setCell (i := 0) (v := .bool true) (by simp)).setCell (i := 1) (v := .slice a9 n9 c9) (by simp)).setCell (i := 2) (v := .slice da dn dc) (by simp))
        clear hret
        go_wp2_with fail
        generalize (((w9.setCell ⟨w.heap.size, 0, none⟩ (.bool true)).setCell ⟨w.heap.size, 1, none⟩ (.slice a9 n9 c9)).setCell ⟨w.heap.size, 2, none⟩ (.slice da dn dc)) = wA at *
        have q0 := hRA.cell 0
        have q1 := hRA.cell 1
        have q2 := hRA.cell 2
        refine bodyPost_ret (v := .tuple #[.agg #[.bool true, .slice a9 n9 c9, .slice da dn dc], .int .i64 0]) (by simp [results, Tryd.results16, go_sem, q0, q1, q2]) rfl ?_
        exact hq


set_option maxRecDepth 100000 in
set_option maxHeartbeats 8000000 in
theorem nof32z {w : World} (x : Nat) (s0 : Nat) (hcv : ∀ w, (convert 42 28 (.float .f32 s0)).run Tryd.prog w = .ok (.float .f64 x) w) (hx : x < 18446744073709551616) (h0 : fr x = 0) :
    Calls Tryd.prog 16 #[.float .f32 s0] w (RetQE w (flV (fs x) 0) 0) := by
  have hf : fr x < 9218868437227405312 := by omega
  have HN : Hid (∀ w, Calls Tryd.prog 29 #[.float .f64 x] w (fun e w' => e = .returned (.bool false) ∧ Below w.heap.size w w')) := fun w => ((show Calls Tryd.prog 29 #[.float .f64 x] w (fun e w' => e = .returned (.bool false) ∧ w' = w) from fin_num hf ▸ isnan_any x)).mono fun e w' ⟨h1, h2⟩ => ⟨h1, by rw [h2]; exact Below.refl _ _⟩
  have HI : Hid (∀ w, Calls Tryd.prog 11 #[.float .f64 x, .int .i64 0] w (fun e w' => e = .returned (.bool false) ∧ Below w.heap.size w w')) := fun w => (isinf_fin hx hf).mono fun e w' ⟨h1, h2⟩ => ⟨h1, by rw [h2]; exact Below.refl _ _⟩
  have HA : Hid (∀ w, Calls Tryd.prog 34 #[.float .f64 x] w (fun e w' => e = .returned (.float .f64 0) ∧ Below w.heap.size w w')) := fun w => ((show Calls Tryd.prog 34 #[.float .f64 x] w (fun e w' => e = .returned (.float .f64 0) ∧ w' = w) from h0 ▸ abs_any x hx)).mono fun e w' ⟨h1, h2⟩ => ⟨h1, by rw [h2]; exact Below.refl _ _⟩
  have HF : Hid (∀ w, Calls Tryd.prog 37 #[.float .f64 0] w (fun e w' => e = .returned (.tuple #[.float .f64 0, .int .i64 0]) ∧ Below w.heap.size w w')) := fun w => ((show Calls Tryd.prog 37 #[.float .f64 0] w (fun e w' => e = .returned (.tuple #[.float .f64 0, .int .i64 0]) ∧ w' = w) from Frexp_any (r := 0) (by decide))).mono fun e w' ⟨h1, h2⟩ => ⟨h1, by rw [h2]; exact Below.refl _ _⟩
  have hmul := run_mul0
  have hu := run_cvz
  have hlt0 := lt_zero hf
  rw [h0] at hlt0
  have hlt9 : (FloatKind.f64.format.order x 0 == some .lt) = false := by rw [hlt0]; simp
  clear hlt0
  have HO := hid (fun w => of_any (w := w) 0 (by omega) (by omega))
  rw [show lm (0 : Int).toNat = [] from rfl] at HO
  have H1 := hid (fun w => of_any (w := w) 1 (by omega) (by omega))
  rw [show (1 : Int).toNat = 1 from rfl] at H1
  clear h0 hf
  have hent := ent1 w #[Value.bool false, Value.slice none 0 0, Value.slice none 0 0] 27
  go_enter Tryd.func16, Tryd.ntmps16
  go_wp2_with fail
  generalize (w.alloc (.cells #[Value.bool false, Value.slice none 0 0, Value.slice none 0 0] 27)) = W0 at hent ⊢
  obtain ⟨R_0, hbel_0, hsz_0⟩ := hent
  have cR_0_0 : _ = some (Value.bool false) := R_0.cell 0
  have fR_0_0 := R_0.free 0
  have cR_0_1 : _ = some (Value.slice none 0 0) := R_0.cell 1
  have fR_0_1 := R_0.free 1
  have cR_0_2 : _ = some (Value.slice none 0 0) := R_0.cell 2
  have fR_0_2 := R_0.free 2
  go_wp2_with fail
  refine (HN.out _).mono ?_
  rintro e w1 ⟨rfl, hB⟩
  have hB_1 : Below W0.heap.size W0 w1 := (bl.next hB)
  have R_1 := R_0.next hB_1
  have cR_1_0 : _ = some (Value.bool false) := R_1.cell 0
  have fR_1_0 := R_1.free 0
  have cR_1_1 : _ = some (Value.slice none 0 0) := R_1.cell 1
  have fR_1_1 := R_1.free 1
  have cR_1_2 : _ = some (Value.slice none 0 0) := R_1.cell 2
  have fR_1_2 := R_1.free 2
  have hbel_1 := hbel_0.next hB_1
  have hsz_1 := hB_1.size
  clear R_0 cR_0_0 fR_0_0 cR_0_1 fR_0_1 cR_0_2 fR_0_2 hbel_0 hB_1
  try clear hB
  go_wp2_with fail
  refine (HI.out _).mono ?_
  rintro e w2 ⟨rfl, hB⟩
  have hB_2 : Below w1.heap.size w1 w2 := (bl.next hB)
  have R_2 := R_1.next hB_2
  have cR_2_0 : _ = some (Value.bool false) := R_2.cell 0
  have fR_2_0 := R_2.free 0
  have cR_2_1 : _ = some (Value.slice none 0 0) := R_2.cell 1
  have fR_2_1 := R_2.free 1
  have cR_2_2 : _ = some (Value.slice none 0 0) := R_2.cell 2
  have fR_2_2 := R_2.free 2
  have hbel_2 := hbel_1.next hB_2
  have hsz_2 := hB_2.size
  clear R_1 cR_1_0 fR_1_0 cR_1_1 fR_1_1 cR_1_2 fR_1_2 hbel_1 hB_2
  try clear hB
  go_wp2_with fail
  refine (HA.out _).mono ?_
  rintro e w3 ⟨rfl, hB⟩
  have hB_3 : Below w2.heap.size w2 w3 := (bl.next hB)
  have R_3 := R_2.next hB_3
  have cR_3_0 : _ = some (Value.bool false) := R_3.cell 0
  have fR_3_0 := R_3.free 0
  have cR_3_1 : _ = some (Value.slice none 0 0) := R_3.cell 1
  have fR_3_1 := R_3.free 1
  have cR_3_2 : _ = some (Value.slice none 0 0) := R_3.cell 2
  have fR_3_2 := R_3.free 2
  have hbel_3 := hbel_2.next hB_3
  have hsz_3 := hB_3.size
  clear R_2 cR_2_0 fR_2_0 cR_2_1 fR_2_1 cR_2_2 fR_2_2 hbel_2 hB_3
  try clear hB
  go_wp2_with fail
  refine (HF.out _).mono ?_
  rintro e w4 ⟨rfl, hB⟩
  have hB_4 : Below w3.heap.size w3 w4 := (bl.next hB)
  have R_4 := R_3.next hB_4
  have cR_4_0 : _ = some (Value.bool false) := R_4.cell 0
  have fR_4_0 := R_4.free 0
  have cR_4_1 : _ = some (Value.slice none 0 0) := R_4.cell 1
  have fR_4_1 := R_4.free 1
  have cR_4_2 : _ = some (Value.slice none 0 0) := R_4.cell 2
  have fR_4_2 := R_4.free 2
  have hbel_4 := hbel_3.next hB_4
  have hsz_4 := hB_4.size
  clear R_3 cR_3_0 fR_3_0 cR_3_1 fR_3_1 cR_3_2 fR_3_2 hbel_3 hB_4
  try clear hB
  go_wp2_with fail
  refine (HO.out _).mono ?_
  rintro e w5 ⟨na, nn, nc, rfl, hO, hB⟩
  have hB_5 : Below w4.heap.size w4 w5 := (bl.next hB)
  have R_5 := R_4.next hB_5
  have cR_5_0 : _ = some (Value.bool false) := R_5.cell 0
  have fR_5_0 := R_5.free 0
  have cR_5_1 : _ = some (Value.slice none 0 0) := R_5.cell 1
  have fR_5_1 := R_5.free 1
  have cR_5_2 : _ = some (Value.slice none 0 0) := R_5.cell 2
  have fR_5_2 := R_5.free 2
  have hbel_5 := hbel_4.next hB_5
  have hsz_5 := hB_5.size
  clear R_4 cR_4_0 fR_4_0 cR_4_1 fR_4_1 cR_4_2 fR_4_2 hbel_4 hB_5
  have N_5 := hO
  have ltN := hO.ltB
  have hn0 : nn = 0 := hO.len.symm
  clear hO
  subst hn0
  try clear hB
  go_wp2_with fail
  refine (H1.out _).mono ?_
  rintro e w6 ⟨da, dn, dc, rfl, hO, hB⟩
  have hB_6 : Below w5.heap.size w5 w6 := (bl.next hB)
  have R_6 := R_5.next hB_6
  have cR_6_0 : _ = some (Value.bool false) := R_6.cell 0
  have fR_6_0 := R_6.free 0
  have cR_6_1 : _ = some (Value.slice none 0 0) := R_6.cell 1
  have fR_6_1 := R_6.free 1
  have cR_6_2 : _ = some (Value.slice none 0 0) := R_6.cell 2
  have fR_6_2 := R_6.free 2
  have N_6 := N_5.below hB_6
  have hbel_6 := hbel_5.next hB_6
  have hsz_6 := hB_6.size
  clear R_5 cR_5_0 fR_5_0 cR_5_1 fR_5_1 cR_5_2 fR_5_2 N_5 hbel_5 hB_6
  have D_6 := hO
  have ltD := hO.ltB
  clear hO
  try clear hB
  have hret : ∀ v0 v1 v2, RetQE w (flV (fs x) 0) 0 (.returned (.tuple #[.agg #[.bool false, .slice na 0 nc, .slice da dn dc], .int .i64 0])) (((w6.setCell ⟨w.heap.size, 0, none⟩ v0).setCell ⟨w.heap.size, 1, none⟩ v1).setCell ⟨w.heap.size, 2, none⟩ v2) := fun v0 v1 v2 => by
    have hz := flV_zero (fs x)
    refine ⟨na, 0, nc, da, dn, dc, by rw [qsg_ok, hz.1]; rfl, ?_, ?_, (ltN.diff D_6 (by omega)).symm, Below.set3 hbel_6 (Nat.le_refl _) _ _ _⟩
    · rw [qnl_ok, hz.1]; exact (N_6.set3 (by omega) _ _ _).mono (by omega)
    · rw [qdl_ok, hz.2]; exact (D_6.set3 (by omega) _ _ _).mono (by omega)
  have hq := hret (.bool false) (.slice na 0 nc) (.slice da dn dc)
  have hRA := (show Blk _ _ #[_, _, _] from ((R_6.setCell (i := 0) (v := .bool false) (by simp)).setCell (i := 1) (v := .slice na 0 nc) (by simp)).setCell (i := 2) (v := .slice da dn dc) (by simp))
  clear hret
  go_wp2_with fail
  obtain ⟨W0, hW0⟩ : ∃ y : World, y = w6 := ⟨_, rfl⟩
  subst hW0
  go_loopw [6, 7] (fun ev nv wr => ev = .int .i64 (-53) ∧ nv = .slice na 0 nc ∧ wr = W0) (fun _ _ _ => 0)
  case atStart => exact ⟨by first | rfl | simp, rfl, rfl⟩
  case round =>
    obtain ⟨rfl, rfl, hwr⟩ := hrel
    subst hwr
    go_wp2_with fail
    generalize (((wr.setCell ⟨w.heap.size, 0, none⟩ (.bool false)).setCell ⟨w.heap.size, 1, none⟩ (.slice na 0 nc)).setCell ⟨w.heap.size, 2, none⟩ (.slice da dn dc)) = wA at *
    have q0 := hRA.cell 0
    have q1 := hRA.cell 1
    have q2 := hRA.cell 2
    refine bodyPost_ret (v := .tuple #[.agg #[.bool false, .slice na 0 nc, .slice da dn dc], .int .i64 0]) (by simp [results, Tryd.results16, go_sem, q0, q1, q2]) rfl ?_
    exact hq


def cN (s : Nat) (w : World) : Nat := (Question.nanConv .f64 s).cut (w.tape w.drawn (.nanConv .f64 s))
theorem cN_nan (s : Nat) (w : World) : fnan (cN s w) = true ∧ cN s w < 18446744073709551616 := by
  unfold cN Question.cut
  generalize w.tape w.drawn (.nanConv .f64 s) = t
  show decide (9218868437227405312 < fr (t % 2 * 2 ^ 63 + 0x7ff0000000000000 + 1 + t / 2 % (2 ^ 52 - 1))) = true ∧ t % 2 * 2 ^ 63 + 0x7ff0000000000000 + 1 + t / 2 % (2 ^ 52 - 1) < 18446744073709551616
  have h1 : t / 2 % (2 ^ 52 - 1) < 4503599627370495 := Nat.mod_lt _ (by decide)
  generalize t / 2 % (2 ^ 52 - 1) = m at *
  have h2 : t % 2 < 2 := Nat.mod_lt _ (by decide)
  generalize t % 2 = k at *
  unfold fr
  exact ⟨decide_eq_true (by omega), by omega⟩
theorem run_conv_nan {src dst : TypeId} (s : Nat) (hn : nan32 s = true) (hs : (Tryd.prog.underlying src).isSome = true) (hd : Tryd.prog.underlying dst = some (.float .f64)) (w : World) :
    (convert src dst (.float .f32 s)).run Tryd.prog w = .ok (.float .f64 (cN s w)) w.drew := by
  obtain ⟨u, hs'⟩ := Option.isSome_iff_exists.1 hs
  obtain ⟨sg, t, he⟩ : ∃ sg t, FloatKind.f32.decode s = .nan sg t := by
    rcases read32 s with ⟨_, sg, t, h⟩ | ⟨h, _⟩ | ⟨h, _⟩
    · exact ⟨sg, t, h⟩
    · rw [hn] at h; cases h
    · rw [hn] at h; cases h
  have hq : (Question.nanConv FloatKind.f64 s).forced = false := rfl
  cases u <;> simp [convert, run_underlying hs', run_underlying hd, Conv.floatToFloat, he, hq] <;> rfl

theorem ord_inf {r : Nat} (h : r = 9218868437227405312) : (FloatKind.f64.format.order r 9218868437227405311 == some .gt) = true := by
  subst h; decide +kernel
set_option maxRecDepth 100000 in
theorem isinf_inf {w : World} {x : Nat} (hx : x < 18446744073709551616) (h : fr x = 9218868437227405312) : Calls Tryd.prog 11 #[.float .f64 x, .int .i64 0] w fun e w' => e = .returned (.bool true) ∧ w' = w := by
  have ha := hid (fun w => abs_any (w := w) x hx)
  have ho := ord_inf h
  generalize fr x = r at *
  clear h hx
  go_enter Tryd.func11, Tryd.ntmps11
  go_wp2_with fail
  refine (ha.out _).mono ?_
  rintro e w1 ⟨rfl, rfl⟩
  go_wp2
  go_ret
  exact ⟨rfl, rfl⟩

set_option maxRecDepth 100000 in
set_option maxHeartbeats 4000000 in
theorem nofe64n {w : World} (x : Nat) (hx : x < 18446744073709551616) (hf : fnan x = true) :
    Calls Tryd.prog 13 #[.float .f64 x] w (RetQE w 0 13) := by
  have HN : Hid (∀ w, Calls Tryd.prog 29 #[.float .f64 x] w (fun e w' => e = .returned (.bool true) ∧ Below w.heap.size w w')) := fun w => ((show Calls Tryd.prog 29 #[.float .f64 x] w (fun e w' => e = .returned (.bool true) ∧ w' = w) from hf ▸ isnan_any x)).mono fun e w' ⟨h1, h2⟩ => ⟨h1, by rw [h2]; exact Below.refl _ _⟩
  clear hf
  have hent := ent1 w #[Value.bool false, Value.slice none 0 0, Value.slice none 0 0] 27
  go_enter Tryd.func13, Tryd.ntmps13
  go_wp2_with fail
  generalize (w.alloc (.cells #[Value.bool false, Value.slice none 0 0, Value.slice none 0 0] 27)) = W0 at hent ⊢
  obtain ⟨R_0, hbel_0, hsz_0⟩ := hent
  have cR_0_0 : _ = some (Value.bool false) := R_0.cell 0
  have fR_0_0 := R_0.free 0
  have cR_0_1 : _ = some (Value.slice none 0 0) := R_0.cell 1
  have fR_0_1 := R_0.free 1
  have cR_0_2 : _ = some (Value.slice none 0 0) := R_0.cell 2
  have fR_0_2 := R_0.free 2
  go_wp2_with fail
  refine (HN.out _).mono ?_
  rintro e w1 ⟨rfl, hB⟩
  have hB_1 : Below W0.heap.size W0 w1 := (bl.next hB)
  have R_1 := R_0.next hB_1
  have cR_1_0 : _ = some (Value.bool false) := R_1.cell 0
  have fR_1_0 := R_1.free 0
  have cR_1_1 : _ = some (Value.slice none 0 0) := R_1.cell 1
  have fR_1_1 := R_1.free 1
  have cR_1_2 : _ = some (Value.slice none 0 0) := R_1.cell 2
  have fR_1_2 := R_1.free 2
  have hbel_1 := hbel_0.next hB_1
  have hsz_1 := hB_1.size
  clear R_0 cR_0_0 fR_0_0 cR_0_1 fR_0_1 cR_0_2 fR_0_2 hbel_0 hB_1
  try clear hB
  go_wp2
  refine bodyPost_ret (v := .tuple #[.agg #[.bool false, .slice none 0 0, .slice none 0 0], .int .i64 13]) (by simp [results, Tryd.results13, go_sem, cR_1_0, cR_1_1, cR_1_2]) rfl ?_
  exact retqe_nil (by decide) hbel_1 (by omega)

set_option maxRecDepth 100000 in
set_option maxHeartbeats 4000000 in
theorem nofe64i {w : World} (x : Nat) (hx : x < 18446744073709551616) (hf : fr x = 9218868437227405312) :
    Calls Tryd.prog 13 #[.float .f64 x] w (RetQE w 0 13) := by
  have hn0 : fnan x = false := by unfold fnan; rw [hf]; rfl
  have HN : Hid (∀ w, Calls Tryd.prog 29 #[.float .f64 x] w (fun e w' => e = .returned (.bool false) ∧ Below w.heap.size w w')) := fun w => ((show Calls Tryd.prog 29 #[.float .f64 x] w (fun e w' => e = .returned (.bool false) ∧ w' = w) from hn0 ▸ isnan_any x)).mono fun e w' ⟨h1, h2⟩ => ⟨h1, by rw [h2]; exact Below.refl _ _⟩
  have HI : Hid (∀ w, Calls Tryd.prog 11 #[.float .f64 x, .int .i64 0] w (fun e w' => e = .returned (.bool true) ∧ Below w.heap.size w w')) := fun w => (isinf_inf hx hf).mono fun e w' ⟨h1, h2⟩ => ⟨h1, by rw [h2]; exact Below.refl _ _⟩
  clear hf hn0
  have hent := ent1 w #[Value.bool false, Value.slice none 0 0, Value.slice none 0 0] 27
  go_enter Tryd.func13, Tryd.ntmps13
  go_wp2_with fail
  generalize (w.alloc (.cells #[Value.bool false, Value.slice none 0 0, Value.slice none 0 0] 27)) = W0 at hent ⊢
  obtain ⟨R_0, hbel_0, hsz_0⟩ := hent
  have cR_0_0 : _ = some (Value.bool false) := R_0.cell 0
  have fR_0_0 := R_0.free 0
  have cR_0_1 : _ = some (Value.slice none 0 0) := R_0.cell 1
  have fR_0_1 := R_0.free 1
  have cR_0_2 : _ = some (Value.slice none 0 0) := R_0.cell 2
  have fR_0_2 := R_0.free 2
  go_wp2_with fail
  refine (HN.out _).mono ?_
  rintro e w1 ⟨rfl, hB⟩
  have hB_1 : Below W0.heap.size W0 w1 := (bl.next hB)
  have R_1 := R_0.next hB_1
  have cR_1_0 : _ = some (Value.bool false) := R_1.cell 0
  have fR_1_0 := R_1.free 0
  have cR_1_1 : _ = some (Value.slice none 0 0) := R_1.cell 1
  have fR_1_1 := R_1.free 1
  have cR_1_2 : _ = some (Value.slice none 0 0) := R_1.cell 2
  have fR_1_2 := R_1.free 2
  have hbel_1 := hbel_0.next hB_1
  have hsz_1 := hB_1.size
  clear R_0 cR_0_0 fR_0_0 cR_0_1 fR_0_1 cR_0_2 fR_0_2 hbel_0 hB_1
  try clear hB
  go_wp2_with fail
  refine (HI.out _).mono ?_
  rintro e w2 ⟨rfl, hB⟩
  have hB_2 : Below w1.heap.size w1 w2 := (bl.next hB)
  have R_2 := R_1.next hB_2
  have cR_2_0 : _ = some (Value.bool false) := R_2.cell 0
  have fR_2_0 := R_2.free 0
  have cR_2_1 : _ = some (Value.slice none 0 0) := R_2.cell 1
  have fR_2_1 := R_2.free 1
  have cR_2_2 : _ = some (Value.slice none 0 0) := R_2.cell 2
  have fR_2_2 := R_2.free 2
  have hbel_2 := hbel_1.next hB_2
  have hsz_2 := hB_2.size
  clear R_1 cR_1_0 fR_1_0 cR_1_1 fR_1_1 cR_1_2 fR_1_2 hbel_1 hB_2
  try clear hB
  go_wp2
  refine bodyPost_ret (v := .tuple #[.agg #[.bool false, .slice none 0 0, .slice none 0 0], .int .i64 13]) (by simp [results, Tryd.results13, go_sem, cR_2_0, cR_2_1, cR_2_2]) rfl ?_
  exact retqe_nil (by decide) hbel_2 (by omega)

set_option maxRecDepth 100000 in
set_option maxHeartbeats 4000000 in
theorem nofe32n {w : World}  (s0 : Nat) (cs : World → Nat) (ds : World → World) (hcv : ∀ w, (convert 42 28 (.float .f32 s0)).run Tryd.prog w = .ok (.float .f64 (cs w)) (ds w)) (hds : ∀ w, Below w.heap.size w (ds w)) (hnan : ∀ w, fnan (cs w) = true) :
    Calls Tryd.prog 16 #[.float .f32 s0] w (RetQE w 0 13) := by
  have HN : Hid (∀ w v, Calls Tryd.prog 29 #[.float .f64 (cs v)] w (fun e w' => e = .returned (.bool true) ∧ Below w.heap.size w w')) := fun w v => (show Calls Tryd.prog 29 #[.float .f64 (cs v)] w (fun e w' => e = .returned (.bool true) ∧ w' = w) from hnan v ▸ isnan_any (cs v)).mono fun e w' ⟨h1, h2⟩ => ⟨h1, by rw [h2]; exact Below.refl _ _⟩
  have hdd := hid hds
  clear hnan hds
  have hent := ent1 w #[Value.bool false, Value.slice none 0 0, Value.slice none 0 0] 27
  go_enter Tryd.func16, Tryd.ntmps16
  go_wp2_with fail
  generalize (w.alloc (.cells #[Value.bool false, Value.slice none 0 0, Value.slice none 0 0] 27)) = W0 at hent ⊢
  obtain ⟨R_0, hbel_0, hsz_0⟩ := hent
  have cR_0_0 : _ = some (Value.bool false) := R_0.cell 0
  have fR_0_0 := R_0.free 0
  have cR_0_1 : _ = some (Value.slice none 0 0) := R_0.cell 1
  have fR_0_1 := R_0.free 1
  have cR_0_2 : _ = some (Value.slice none 0 0) := R_0.cell 2
  have fR_0_2 := R_0.free 2
  go_wp2_with fail
  have hB0 := hdd.out W0
  have R_1 := R_0.next hB0
  have hbel_1 := hbel_0.next hB0
  have hsz_1 := hB0.size
  refine (HN.out _ _).mono ?_
  rintro e w2 ⟨rfl, hB⟩
  have R_2 := R_1.next hB
  have hbel_2 := hbel_1.next hB
  have hsz_2 := hB.size
  clear R_0 cR_0_0 cR_0_1 cR_0_2 fR_0_0 fR_0_1 fR_0_2 R_1
  have cR_2_0 : _ = some (Value.bool false) := R_2.cell 0
  have fR_2_0 := R_2.free 0
  have cR_2_1 : _ = some (Value.slice none 0 0) := R_2.cell 1
  have fR_2_1 := R_2.free 1
  have cR_2_2 : _ = some (Value.slice none 0 0) := R_2.cell 2
  have fR_2_2 := R_2.free 2
  go_wp2
  refine bodyPost_ret (v := .tuple #[.agg #[.bool false, .slice none 0 0, .slice none 0 0], .int .i64 13]) (by simp [results, Tryd.results16, go_sem, cR_2_0, cR_2_1, cR_2_2]) rfl ?_
  exact retqe_nil (by decide) hbel_2 (by omega)

set_option maxRecDepth 100000 in
set_option maxHeartbeats 4000000 in
theorem nofe32i {w : World} (x : Nat) (s0 : Nat) (hcv : ∀ w, (convert 42 28 (.float .f32 s0)).run Tryd.prog w = .ok (.float .f64 x) w) (hx : x < 18446744073709551616) (hf : fr x = 9218868437227405312) :
    Calls Tryd.prog 16 #[.float .f32 s0] w (RetQE w 0 13) := by
  have hn0 : fnan x = false := by unfold fnan; rw [hf]; rfl
  have HN : Hid (∀ w, Calls Tryd.prog 29 #[.float .f64 x] w (fun e w' => e = .returned (.bool false) ∧ Below w.heap.size w w')) := fun w => ((show Calls Tryd.prog 29 #[.float .f64 x] w (fun e w' => e = .returned (.bool false) ∧ w' = w) from hn0 ▸ isnan_any x)).mono fun e w' ⟨h1, h2⟩ => ⟨h1, by rw [h2]; exact Below.refl _ _⟩
  have HI : Hid (∀ w, Calls Tryd.prog 11 #[.float .f64 x, .int .i64 0] w (fun e w' => e = .returned (.bool true) ∧ Below w.heap.size w w')) := fun w => (isinf_inf hx hf).mono fun e w' ⟨h1, h2⟩ => ⟨h1, by rw [h2]; exact Below.refl _ _⟩
  clear hf hn0
  have hent := ent1 w #[Value.bool false, Value.slice none 0 0, Value.slice none 0 0] 27
  go_enter Tryd.func16, Tryd.ntmps16
  go_wp2_with fail
  generalize (w.alloc (.cells #[Value.bool false, Value.slice none 0 0, Value.slice none 0 0] 27)) = W0 at hent ⊢
  obtain ⟨R_0, hbel_0, hsz_0⟩ := hent
  have cR_0_0 : _ = some (Value.bool false) := R_0.cell 0
  have fR_0_0 := R_0.free 0
  have cR_0_1 : _ = some (Value.slice none 0 0) := R_0.cell 1
  have fR_0_1 := R_0.free 1
  have cR_0_2 : _ = some (Value.slice none 0 0) := R_0.cell 2
  have fR_0_2 := R_0.free 2
  go_wp2_with fail
  refine (HN.out _).mono ?_
  rintro e w1 ⟨rfl, hB⟩
  have hB_1 : Below W0.heap.size W0 w1 := (bl.next hB)
  have R_1 := R_0.next hB_1
  have cR_1_0 : _ = some (Value.bool false) := R_1.cell 0
  have fR_1_0 := R_1.free 0
  have cR_1_1 : _ = some (Value.slice none 0 0) := R_1.cell 1
  have fR_1_1 := R_1.free 1
  have cR_1_2 : _ = some (Value.slice none 0 0) := R_1.cell 2
  have fR_1_2 := R_1.free 2
  have hbel_1 := hbel_0.next hB_1
  have hsz_1 := hB_1.size
  clear R_0 cR_0_0 fR_0_0 cR_0_1 fR_0_1 cR_0_2 fR_0_2 hbel_0 hB_1
  try clear hB
  go_wp2_with fail
  refine (HI.out _).mono ?_
  rintro e w2 ⟨rfl, hB⟩
  have hB_2 : Below w1.heap.size w1 w2 := (bl.next hB)
  have R_2 := R_1.next hB_2
  have cR_2_0 : _ = some (Value.bool false) := R_2.cell 0
  have fR_2_0 := R_2.free 0
  have cR_2_1 : _ = some (Value.slice none 0 0) := R_2.cell 1
  have fR_2_1 := R_2.free 1
  have cR_2_2 : _ = some (Value.slice none 0 0) := R_2.cell 2
  have fR_2_2 := R_2.free 2
  have hbel_2 := hbel_1.next hB_2
  have hsz_2 := hB_2.size
  clear R_1 cR_1_0 fR_1_0 cR_1_1 fR_1_1 cR_1_2 fR_1_2 hbel_1 hB_2
  try clear hB
  go_wp2
  refine bodyPost_ret (v := .tuple #[.agg #[.bool false, .slice none 0 0, .slice none 0 0], .int .i64 13]) (by simp [results, Tryd.results16, go_sem, cR_2_0, cR_2_1, cR_2_2]) rfl ?_
  exact retqe_nil (by decide) hbel_2 (by omega)

/-- the value of a float, and its error -/
def fq (x : Nat) : Rat := if fr x < 9218868437227405312 then flV (fs x) (fr x) else 0
def fe (x : Nat) : Int := if fr x < 9218868437227405312 then 0 else 13
theorem fnan_of {x : Nat} (h : ¬ fr x < 9218868437227405312) (h2 : fr x ≠ 9218868437227405312) : fnan x = true := decide_eq_true (by omega)
theorem f_nan {x : Nat} (h : fnan x = true) : fq x = 0 ∧ fe x = 13 := by
  have h2 : ¬ fr x < 9218868437227405312 := by have := of_decide_eq_true h; omega
  exact ⟨if_neg h2, if_neg h2⟩
/-- the value of a float of 32 bits, and its error -/
def fq32 (s : Nat) : Rat := if nan32 s then 0 else fq (c32 s)
def fe32 (s : Nat) : Int := if nan32 s then 13 else fe (c32 s)

theorem near64 {w : World} (x : Nat) (hx : x < 18446744073709551616) : Calls Tryd.prog 13 #[.float .f64 x] w (RetQE w (fq x) (fe x)) := by
  unfold fq fe
  by_cases h : fr x < 9218868437227405312
  · rw [if_pos h, if_pos h]
    by_cases h0 : fr x = 0
    · rw [h0]; exact nof64z x hx h0
    · exact nof64 x hx h h0
  · rw [if_neg h, if_neg h]
    by_cases h2 : fr x = 9218868437227405312
    · exact nofe64i x hx h2
    · exact nofe64n x hx (fnan_of h h2)

set_option maxRecDepth 100000 in
theorem near32 {w : World} (s : Nat) : Calls Tryd.prog 16 #[.float .f32 s] w (RetQE w (fq32 s) (fe32 s)) := by
  unfold fq32 fe32
  cases hn : nan32 s
  · have hcv : ∀ w, (convert 42 28 (.float .f32 s)).run Tryd.prog w = .ok (.float .f64 (c32 s)) w := fun w => run_convert_float_float w _ _ .f32 .f64 s _ rfl rfl (conv32 hn)
    have hx := c32_lt s
    simp only [Bool.false_eq_true, if_false]
    generalize c32 s = x at *
    unfold fq fe
    by_cases h : fr x < 9218868437227405312
    · rw [if_pos h, if_pos h]
      by_cases h0 : fr x = 0
      · rw [h0]; exact nof32z x s hcv hx h0
      · exact nof32 x s hcv hx h h0
    · rw [if_neg h, if_neg h]
      by_cases h2 : fr x = 9218868437227405312
      · exact nofe32i x s hcv hx h2
      · exact nofe32n s (fun _ => x) (fun w => w) hcv (fun w => Below.refl _ _) (fun _ => fnan_of h h2)
  · simp only [if_true]
    exact nofe32n s (cN s) World.drew (run_conv_nan s hn rfl rfl) (fun w => (Below.refl _ _).drew) (fun w => (cN_nan s w).1)

end Go.Proofs.YtoeldbdcbfgmoaaDoor
