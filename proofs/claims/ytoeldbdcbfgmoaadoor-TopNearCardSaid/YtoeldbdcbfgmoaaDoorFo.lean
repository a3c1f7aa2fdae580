/- WALKS OF FLOATS, 5: a float's value, by the program. -/
import Derived.Test.YtoeldbdcbfgmoaaDoorFg
import Derived.Test.YtoeldbdcbfgmoaaDoorFk
import Derived.Test.YtoeldbdcbfgmoaaDoorWs
import Derived.Test.YtoeldbdcbfgmoaaDoorWm
import Derived.Test.YtoeldbdcbfgmoaaDoorMq
namespace Go.Proofs.YtoeldbdcbfgmoaaDoor
set_option linter.unusedVariables false
set_option linter.unusedSimpArgs false
open Go.ChangeShapes Go.WideShapes Go.ChangeAt Go.RowKit Go.NatP Go.FloatP

theorem fin_num {x : Nat} (h : fr x < 9218868437227405312) : fnan x = false := by unfold fnan; simp; omega
theorem lt_zero {x : Nat} (h : fr x < 9218868437227405312) : (FloatKind.f64.format.order x 0 == some .lt) = (fs x && decide (fr x ≠ 0)) := by
  have h2 := fcmp_num (x := x) (y := 0) (fin_num h) (by decide)
  unfold fcmp at h2
  rw [h2]
  have h4 : fk 0 = 0 := by decide
  unfold ic fk
  rw [show (if fs 0 = true then -(fr 0 : Int) else (fr 0 : Int)) = 0 from h4]
  cases fs x
  · simp only [Bool.false_eq_true, if_false, Bool.false_and]
    rw [if_neg (by omega)]
    split <;> rfl
  · simp only [if_true, Bool.true_and]
    by_cases h0 : fr x = 0
    · rw [if_neg (by omega), if_pos (by omega), h0]; rfl
    · rw [if_pos (by omega)]; simp [h0]
theorem run_u64 {K Y : Nat} (hY : 1074 * 4503599627370496 + K = Y) (h1 : 4503599627370496 ≤ K) (h2 : K < 9007199254740992) (w : World) : (Conv.floatToInt .f64 Y .u64).run Tryd.prog w = .ok (.int .u64 (K : Int)) w := by
  have h : (FloatKind.f64.decode Y).toInt .zero = some (K : Int) := by rw [← hY]; exact toInt_whole h1 h2
  clear hY
  unfold Conv.floatToInt
  rw [h]
  have a : IntKind.u64.min = 0 := by decide
  have b : IntKind.u64.max = 18446744073709551615 := by decide
  simp only [a, b]
  rw [if_pos ⟨by omega, by omega⟩]
  rfl
set_option maxRecDepth 100000 in
theorem run_cv0 (Y : Nat) (w : World) : (convert 28 50 (.float .f64 Y)).run Tryd.prog w = (Conv.floatToInt .f64 Y .u64).run Tryd.prog w := by kernel_rfl
theorem run_cv {K Y : Nat} (hY : 1074 * 4503599627370496 + K = Y) (h1 : 4503599627370496 ≤ K) (h2 : K < 9007199254740992) (w : World) : (convert 28 50 (.float .f64 Y)).run Tryd.prog w = .ok (.int .u64 (K : Int)) w := by
  rw [run_cv0]
  exact run_u64 hY h1 h2 w

theorem and_one32 (v : Nat) (h : v < 4294967296) : bits BinOp.and IntKind.u32 (v : Int) 1 = ((v % 2 : Nat) : Int) := by
  have h2 := u32_and_nat v 1 h (by omega)
  rw [Nat.and_one_is_mod] at h2
  exact h2
theorem half_shift {W : World} {a : Option Addr} {n c m B : Nat} (h : Own B W a n c (lm m)) (hn : n ≤ 100000) : Calls Tryd.prog 39 #[.slice a n c, .int .i64 (-1)] W (RetE W (lm (m / 2)) 0) := by
  have h2 := shift_any h.rd (by omega) (-1) (by omega) (by omega)
  have e1 : shN (val (lm m)) (-1) = m / 2 := by
    rw [val_lm]
    unfold shN shv
    rw [if_pos ⟨by omega, by omega⟩, if_neg (by omega)]
    rfl
  have e2 : shE (-1) = 0 := by unfold shE; rw [if_pos ⟨by omega, by omega⟩]
  rwa [e1, e2] at h2

theorem up_shift {W : World} {a : Option Addr} {n c m B : Nat} (h : Own B W a n c (lm m)) (hn : n ≤ 100000) (D : Nat) (hD : D ≤ 1200) : Calls Tryd.prog 39 #[.slice a n c, .int .i64 (D : Int)] W (RetE W (lm (m * 2 ^ D)) 0) := by
  have h2 := shift_any h.rd (by omega) (D : Int) (by omega) (by omega)
  have e1 : shN (val (lm m)) (D : Int) = m * 2 ^ D := by
    rw [val_lm]
    unfold shN shv
    rw [if_pos ⟨by omega, by omega⟩, if_pos (by omega), Int.toNat_natCast]
  have e2 : shE (D : Int) = 0 := by unfold shE; rw [if_pos ⟨by omega, by omega⟩]
  rwa [e1, e2] at h2
/-- the answer, laid into its block -/
theorem ret_fl {w w2 : World} {s : Bool} {r num den B B' g : Nat} {a b : Option Addr} {n c m d : Nat} {v0 v1 v2 : Value} (h : (flV s r).num = zv s num ∧ (flV s r).den = den) (h0 : num ≠ 0) (hO : Own B w2 a n c (lm num)) (hO2 : Own B' w2 b m d (lm den)) (hD : Diff a b) (hB : Below w.heap.size w w2) (hg : w.heap.size ≤ g) (hgB : g < B) (hgB' : g < B') :
    RetQE w (flV s r) 0 (.returned (.tuple #[.agg #[.bool s, .slice a n c, .slice b m d], .int .i64 0])) (((w2.setCell ⟨g, 0, none⟩ v0).setCell ⟨g, 1, none⟩ v1).setCell ⟨g, 2, none⟩ v2) := by
  have hs : qsg (flV s r) 0 = s := by
    rw [qsg_ok, h.1, zv_neg]
    cases s <;> simp
    omega
  refine ⟨a, n, c, b, m, d, by rw [hs], ?_, ?_, hD, Below.set3 hB hg _ _ _⟩
  · rw [qnl_ok, h.1, zv_abs]; exact (hO.set3 hgB _ _ _).mono (by omega)
  · rw [qdl_ok, h.2]; exact (hO2.set3 hgB' _ _ _).mono (by omega)

set_option maxRecDepth 100000 in
set_option maxHeartbeats 8000000 in
theorem nof64 {w : World} (x : Nat) (hx : x < 18446744073709551616) (hf : fr x < 9218868437227405312) (h0 : fr x ≠ 0) :
    Calls Tryd.prog 13 #[.float .f64 x] w (RetQE w (flV (fs x) (fr x)) 0) := by
  obtain ⟨hk1, hk2⟩ := fK_bd h0
  obtain ⟨hx1, hx2⟩ := fX_bd h0 hf
  have HN : Hid (∀ w, Calls Tryd.prog 29 #[.float .f64 x] w (fun e w' => e = .returned (.bool false) ∧ Below w.heap.size w w')) := fun w => ((show Calls Tryd.prog 29 #[.float .f64 x] w (fun e w' => e = .returned (.bool false) ∧ w' = w) from fin_num hf ▸ isnan_any x)).mono fun e w' ⟨h1, h2⟩ => ⟨h1, by rw [h2]; exact Below.refl _ _⟩
  have HI : Hid (∀ w, Calls Tryd.prog 11 #[.float .f64 x, .int .i64 0] w (fun e w' => e = .returned (.bool false) ∧ Below w.heap.size w w')) := fun w => (isinf_fin hx hf).mono fun e w' ⟨h1, h2⟩ => ⟨h1, by rw [h2]; exact Below.refl _ _⟩
  have HA : Hid (∀ w, Calls Tryd.prog 34 #[.float .f64 x] w (fun e w' => e = .returned (.float .f64 (fr x)) ∧ Below w.heap.size w w')) := fun w => (abs_any x hx).mono fun e w' ⟨h1, h2⟩ => ⟨h1, by rw [h2]; exact Below.refl _ _⟩
  have hE : fxE (fr x) = fX (fr x) := if_neg h0
  have HF : Hid (∀ w, Calls Tryd.prog 37 #[.float .f64 (fr x)] w (fun e w' => e = .returned (.tuple #[.float .f64 (fxM (fr x)), .int .i64 (fX (fr x))]) ∧ Below w.heap.size w w')) := fun w => ((show Calls Tryd.prog 37 #[.float .f64 (fr x)] w (fun e w' => e = .returned (.tuple #[.float .f64 (fxM (fr x)), .int .i64 (fX (fr x))]) ∧ w' = w) from hE ▸ Frexp_any hf)).mono fun e w' ⟨h1, h2⟩ => ⟨h1, by rw [h2]; exact Below.refl _ _⟩
  have hmul := run_mul53 h0
  have hlt0 := lt_zero hf
  have HO := hid (fun w => of_any (w := w) (fK (fr x) : Int) (by omega) (by omega))
  rw [Int.toNat_natCast] at HO
  have H1 := hid (fun w => of_any (w := w) 1 (by omega) (by omega))
  rw [show (1 : Int).toNat = 1 from rfl] at H1
  have hHv := hid (Halved.start h0)
  obtain ⟨M, hM⟩ : ∃ M, fxM (fr x) = M := ⟨_, rfl⟩
  rw [hM] at HF hmul
  clear hM hE
  obtain ⟨Y, hY⟩ : ∃ Y, 1074 * 4503599627370496 + fK (fr x) = Y := ⟨_, rfl⟩
  have hu := run_cv hY hk1 hk2
  rw [hY] at hmul
  clear hY
  have hent := ent1 w #[Value.bool false, Value.slice none 0 0, Value.slice none 0 0] 27
  go_enter Tryd.func13, Tryd.ntmps13
  go_wp2_with fail
  generalize (w.alloc (.cells #[Value.bool false, Value.slice none 0 0, Value.slice none 0 0] 27)) = W0 at hent ⊢
  obtain ⟨R_0, hbel_0, hsz_0⟩ := hent
  have cR_0_0 : _ = some (Value.bool false) := R_0.cell 0
  have fR_0_0 := R_0.free 0
  have cR_0_1 : _ = some (Value.slice none 0 0) := R_0.cell 1
  have fR_0_1 := R_0.free 1
  have cR_0_2 : _ = some (Value.slice none 0 0) := R_0.cell 2
  have fR_0_2 := R_0.free 2
  go_wp2_with fail
  refine (HN.out _).mono ?_
  rintro e w1 ⟨rfl, hB⟩
  have hB_1 : Below W0.heap.size W0 w1 := (bl.next hB)
  have R_1 := R_0.next hB_1
  have cR_1_0 : _ = some (Value.bool false) := R_1.cell 0
  have fR_1_0 := R_1.free 0
  have cR_1_1 : _ = some (Value.slice none 0 0) := R_1.cell 1
  have fR_1_1 := R_1.free 1
  have cR_1_2 : _ = some (Value.slice none 0 0) := R_1.cell 2
  have fR_1_2 := R_1.free 2
  have hbel_1 := hbel_0.next hB_1
  have hsz_1 := hB_1.size
  clear R_0 cR_0_0 fR_0_0 cR_0_1 fR_0_1 cR_0_2 fR_0_2 hbel_0 hB_1
  try clear hB
  go_wp2_with fail
  refine (HI.out _).mono ?_
  rintro e w2 ⟨rfl, hB⟩
  have hB_2 : Below w1.heap.size w1 w2 := (bl.next hB)
  have R_2 := R_1.next hB_2
  have cR_2_0 : _ = some (Value.bool false) := R_2.cell 0
  have fR_2_0 := R_2.free 0
  have cR_2_1 : _ = some (Value.slice none 0 0) := R_2.cell 1
  have fR_2_1 := R_2.free 1
  have cR_2_2 : _ = some (Value.slice none 0 0) := R_2.cell 2
  have fR_2_2 := R_2.free 2
  have hbel_2 := hbel_1.next hB_2
  have hsz_2 := hB_2.size
  clear R_1 cR_1_0 fR_1_0 cR_1_1 fR_1_1 cR_1_2 fR_1_2 hbel_1 hB_2
  try clear hB
  go_wp2_with fail
  refine (HA.out _).mono ?_
  rintro e w3 ⟨rfl, hB⟩
  have hB_3 : Below w2.heap.size w2 w3 := (bl.next hB)
  have R_3 := R_2.next hB_3
  have cR_3_0 : _ = some (Value.bool false) := R_3.cell 0
  have fR_3_0 := R_3.free 0
  have cR_3_1 : _ = some (Value.slice none 0 0) := R_3.cell 1
  have fR_3_1 := R_3.free 1
  have cR_3_2 : _ = some (Value.slice none 0 0) := R_3.cell 2
  have fR_3_2 := R_3.free 2
  have hbel_3 := hbel_2.next hB_3
  have hsz_3 := hB_3.size
  clear R_2 cR_2_0 fR_2_0 cR_2_1 fR_2_1 cR_2_2 fR_2_2 hbel_2 hB_3
  try clear hB
  go_wp2_with fail
  refine (HF.out _).mono ?_
  rintro e w4 ⟨rfl, hB⟩
  have hB_4 : Below w3.heap.size w3 w4 := (bl.next hB)
  have R_4 := R_3.next hB_4
  have cR_4_0 : _ = some (Value.bool false) := R_4.cell 0
  have fR_4_0 := R_4.free 0
  have cR_4_1 : _ = some (Value.slice none 0 0) := R_4.cell 1
  have fR_4_1 := R_4.free 1
  have cR_4_2 : _ = some (Value.slice none 0 0) := R_4.cell 2
  have fR_4_2 := R_4.free 2
  have hbel_4 := hbel_3.next hB_4
  have hsz_4 := hB_4.size
  clear R_3 cR_3_0 fR_3_0 cR_3_1 fR_3_1 cR_3_2 fR_3_2 hbel_3 hB_4
  try clear hB
  go_wp2_with fail
  refine (HO.out _).mono ?_
  rintro e w5 ⟨na, nn, nc, rfl, hO, hB⟩
  have hB_5 : Below w4.heap.size w4 w5 := (bl.next hB)
  have R_5 := R_4.next hB_5
  have cR_5_0 : _ = some (Value.bool false) := R_5.cell 0
  have fR_5_0 := R_5.free 0
  have cR_5_1 : _ = some (Value.slice none 0 0) := R_5.cell 1
  have fR_5_1 := R_5.free 1
  have cR_5_2 : _ = some (Value.slice none 0 0) := R_5.cell 2
  have fR_5_2 := R_5.free 2
  have hbel_5 := hbel_4.next hB_5
  have hsz_5 := hB_5.size
  clear R_4 cR_4_0 fR_4_0 cR_4_1 fR_4_1 cR_4_2 fR_4_2 hbel_4 hB_5
  have N_5 := hO
  have ltN := hO.ltB
  clear hO
  try clear hB
  go_wp2_with fail
  refine (H1.out _).mono ?_
  rintro e w6 ⟨da, dn, dc, rfl, hO, hB⟩
  have hB_6 : Below w5.heap.size w5 w6 := (bl.next hB)
  have R_6 := R_5.next hB_6
  have cR_6_0 : _ = some (Value.bool false) := R_6.cell 0
  have fR_6_0 := R_6.free 0
  have cR_6_1 : _ = some (Value.slice none 0 0) := R_6.cell 1
  have fR_6_1 := R_6.free 1
  have cR_6_2 : _ = some (Value.slice none 0 0) := R_6.cell 2
  have fR_6_2 := R_6.free 2
  have N_6 := N_5.below hB_6
  have hbel_6 := hbel_5.next hB_6
  have hsz_6 := hB_6.size
  clear R_5 cR_5_0 fR_5_0 cR_5_1 fR_5_1 cR_5_2 fR_5_2 N_5 hbel_5 hB_6
  have D_6 := hO
  have ltD := hO.ltB
  clear hO
  try clear hB
  have hKs : Sz (fK (fr x)) 2 := by show _ < 4294967296 ^ 2; omega
  go_wp2_with fail
  obtain ⟨W0, hW0⟩ : ∃ y : World, y = w6 := ⟨_, rfl⟩
  subst hW0
  go_loopw [6, 7] (fun ev nv wr => ∃ (n c m : Nat) (a : Option Addr) (E : Int), ev = .int .i64 E ∧ nv = .slice a n c ∧ -1200 ≤ E ∧ E ≤ 1100 ∧ Own (w.heap.size + 1) wr a n c (lm m) ∧ Hid (Halved (fr x) m E) ∧ Hid (Sz m 2) ∧ Below W0.heap.size W0 wr) (fun ev _ _ => (-(intOf ev)).toNat)
  case atStart => exact ⟨nn, nc, fK (fr x), na, _, rfl, rfl, by omega, by omega, N_6.mono (by omega), hHv, hKs, Below.refl _ _⟩
  case round =>
    obtain ⟨n, c, m, a, E, rfl, rfl, hE1, hE2, hO, hHv, hms, hBr⟩ := hrel
    have hsz := hBr.size
    have hn2 : n ≤ 2 := by have := hO.len; have := hms.out.len; omega
    have hm0 := hHv.out.pos
    have hn0 : 0 < n := by rw [← hO.len]; exact List.length_pos_iff.2 (fun h => hm0 (lm_eq_nil.1 h))
    have hpar : m % 2 = (lm m).getD 0 0 % 2 := by have := val_mod2 (lm m); rwa [val_lm] at this
    rcases hO.cases with ⟨_, h, _⟩ | ⟨g, rfl, _⟩
    · omega
    have hcc := hO.cell hn0
    have hlim : (lm m).getD 0 0 < 4294967296 := hO.lim.getD 0
    obtain ⟨v0, hv0⟩ : ∃ v, (lm m).getD 0 0 = v := ⟨_, rfl⟩
    rw [hv0] at hcc hlim hpar
    have hbit := and_one32 v0 hlim
    by_cases hE : E < 0
    · by_cases hp : m % 2 = 0
      · have hd : ((v0 % 2 : Nat) : Int) = 0 := by omega
        rw [hd] at hbit
        have hH2 := hid (hHv.out.step hp)
        have hms2 : Hid (Sz (m / 2) 2) := hms.out.mono (Nat.div_le_self _ _) (Nat.le_refl _)
        have hsh := hid (half_shift hO (by omega))
        clear hpar hp hd hv0 hlim
        go_wp2_with fail
        refine hsh.out.mono ?_
        rintro e w9 ⟨a9, n9, c9, rfl, hO9, hB9⟩
        go_wp2
        go_roundw
        case rel => exact ⟨n9, c9, m / 2, a9, E + 1, by go_num, rfl, by omega, by omega, hO9.mono (by omega), hH2, hms2, hBr.next hB9⟩
        case measure => simp [intOf]; omega
      · have hd : ((v0 % 2 : Nat) : Int) = 1 := by omega
        rw [hd] at hbit
        obtain ⟨D, rfl⟩ : ∃ D : Nat, E = -(D : Int) := ⟨(-E).toNat, by omega⟩
        have hDk := D_6.below hBr
        have hsh := hid (up_shift (m := 1) hDk (by have := hDk.len; have h1 : (lm 1).length = 1 := rfl; omega) D (by omega))
        have hV := flV_below (s := fs x) (hHv.out.below h0 rfl) (.inl (by omega))
        clear hpar hd hv0 hlim hp
        go_wp2_with fail
        refine hsh.out.mono ?_
        rintro e w9 ⟨a9, n9, c9, rfl, hO9, hB9⟩
        rw [Nat.one_mul] at hO9
        have hN9 := hO.below hB9
        have hR9 := (R_6.next hBr).next hB9
        have hbel9 := (hbel_6.next hBr).next hB9
        have hDf : Diff (some ⟨g, 0, none⟩) a9 := fun g' e e2 => by
          cases e
          have h1 := (hO9.lt' _ e2).1
          have h2 := (hO.lt' _ rfl).2
          omega
        have hlt9 : (FloatKind.f64.format.order x 0 == some .lt) = fs x := by rw [hlt0]; simp [h0]
        have hret := fun v0 v1 v2 => ret_fl (g := w.heap.size) (v0 := v0) (v1 := v1) (v2 := v2) hV hm0 hN9 hO9 hDf hbel9 (Nat.le_refl _) (by omega) (by have := hBr.size; omega)
        have cR0 := hR9.cell 0
        have cR1 := hR9.cell 1
        have cR2 := hR9.cell 2
        have fR0 := hR9.free 0
        have fR1 := hR9.free 1
        have fR2 := hR9.free 2
        clear hV hN9 hO9 hlt0
        generalize fs x = sg at *
        cases sg
        · have hq := hret (.bool false) (.slice (some ⟨g, 0, none⟩) n c) (.slice a9 n9 c9)
          have hRA := (show Blk _ _ #[_, _, _] from ((hR9.setCell (i := 0) (v := .bool false) (by simp)).setCell (i := 1) (v := .slice (some ⟨g, 0, none⟩) n c) (by simp)).setCell (i := 2) (v := .slice a9 n9 c9) (by simp))
          clear hret
          go_wp2_with fail
          generalize (((w9.setCell ⟨w.heap.size, 0, none⟩ (.bool false)).setCell ⟨w.heap.size, 1, none⟩ (.slice (some ⟨g, 0, none⟩) n c)).setCell ⟨w.heap.size, 2, none⟩ (.slice a9 n9 c9)) = wA at *
          have q0 := hRA.cell 0
          have q1 := hRA.cell 1
          have q2 := hRA.cell 2
          refine bodyPost_ret (v := .tuple #[.agg #[.bool false, .slice (some ⟨g, 0, none⟩) n c, .slice a9 n9 c9], .int .i64 0]) (by simp [results, Tryd.results13, go_sem, q0, q1, q2]) rfl ?_
          exact hq
        · have hq := hret (.bool true) (.slice (some ⟨g, 0, none⟩) n c) (.slice a9 n9 c9)
          have hRA := (show Blk _ _ #[_, _, _] from ((hR9.setCell (i := 0) (v := .bool true) (by simp)).setCell (i := 1) (v := .slice (some ⟨g, 0, none⟩) n c) (by simp)).setCell (i := 2) (v := .slice a9 n9 c9) (by simp))
          clear hret
          go_wp2_with fail
          generalize (((w9.setCell ⟨w.heap.size, 0, none⟩ (.bool true)).setCell ⟨w.heap.size, 1, none⟩ (.slice (some ⟨g, 0, none⟩) n c)).setCell ⟨w.heap.size, 2, none⟩ (.slice a9 n9 c9)) = wA at *
          have q0 := hRA.cell 0
          have q1 := hRA.cell 1
          have q2 := hRA.cell 2
          refine bodyPost_ret (v := .tuple #[.agg #[.bool true, .slice (some ⟨g, 0, none⟩) n c, .slice a9 n9 c9], .int .i64 0]) (by simp [results, Tryd.results13, go_sem, q0, q1, q2]) rfl ?_
          exact hq
    · obtain ⟨D, rfl⟩ : ∃ D : Nat, E = (D : Int) := ⟨E.toNat, by omega⟩
      have hDk := D_6.below hBr
      have hsh := hid (up_shift hO (by omega) D (by omega))
      have hV := flV_above (s := fs x) (hHv.out.above h0 rfl)
      have hmD : m * 2 ^ D ≠ 0 := Nat.mul_ne_zero hm0 (two_ne D)
      clear hpar hv0 hlim hbit
      go_wp2_with fail
      refine hsh.out.mono ?_
      rintro e w9 ⟨a9, n9, c9, rfl, hO9, hB9⟩
      have hN9 := hDk.below hB9
      have hR9 := (R_6.next hBr).next hB9
      have hbel9 := (hbel_6.next hBr).next hB9
      have hn9 : 0 < n9 := by rw [← hO9.len]; exact List.length_pos_iff.2 (fun h => hmD (lm_eq_nil.1 h))
      have hDf : Diff a9 da := fun g' e e2 => by
        have h1 := (hO9.lt' _ e).1
        have h2 := (D_6.lt' _ e2).2
        omega
      have hlt9 : (FloatKind.f64.format.order x 0 == some .lt) = fs x := by rw [hlt0]; simp [h0]
      have hret := fun v0 v1 v2 => ret_fl (g := w.heap.size) (v0 := v0) (v1 := v1) (v2 := v2) hV hmD hO9 hN9 hDf hbel9 (Nat.le_refl _) (by have := hBr.size; omega) (by omega)
      have cR0 := hR9.cell 0
      have cR1 := hR9.cell 1
      have cR2 := hR9.cell 2
      have fR0 := hR9.free 0
      have fR1 := hR9.free 1
      have fR2 := hR9.free 2
      clear hV hN9 hO9 hlt0 hmD
      generalize fs x = sg at *
      cases sg
      · have hq := hret (.bool false) (.slice a9 n9 c9) (.slice da dn dc)
        have hRA := (show Blk _ _ #[_, _, _] from ((hR9.setCell (i := 0) (v := .bool false) (by simp)).setCell (i := 1) (v := .slice a9 n9 c9) (by simp)).setCell (i := 2) (v := .slice da dn dc) (by simp))
        clear hret
        go_wp2_with fail
        generalize (((w9.setCell ⟨w.heap.size, 0, none⟩ (.bool false)).setCell ⟨w.heap.size, 1, none⟩ (.slice a9 n9 c9)).setCell ⟨w.heap.size, 2, none⟩ (.slice da dn dc)) = wA at *
        have q0 := hRA.cell 0
        have q1 := hRA.cell 1
        have q2 := hRA.cell 2
        refine bodyPost_ret (v := .tuple #[.agg #[.bool false, .slice a9 n9 c9, .slice da dn dc], .int .i64 0]) (by simp [results, Tryd.results13, go_sem, q0, q1, q2]) rfl ?_
        exact hq
      · have hq := hret (.bool true) (.slice a9 n9 c9) (.slice da dn dc)
        have hRA := (show Blk _ _ #[_, _, _] from ((hR9.setCell (i := 0) (v := .bool true) (by simp)).setCell (i := 1) (v := .slice a9 n9 c9) (by simp)).setCell (i := 2) (v := .slice da dn dc) (by simp))
        clear hret
        go_wp2_with fail
        generalize (((w9.setCell ⟨w.heap.size, 0, none⟩ (.bool true)).setCell ⟨w.heap.size, 1, none⟩ (.slice a9 n9 c9)).setCell ⟨w.heap.size, 2, none⟩ (.slice da dn dc)) = wA at *
        have q0 := hRA.cell 0
        have q1 := hRA.cell 1
        have q2 := hRA.cell 2
        refine bodyPost_ret (v := .tuple #[.agg #[.bool true, .slice a9 n9 c9, .slice da dn dc], .int .i64 0]) (by simp [results, Tryd.results13, go_sem, q0, q1, q2]) rfl ?_
        exact hq

end Go.Proofs.YtoeldbdcbfgmoaaDoor
