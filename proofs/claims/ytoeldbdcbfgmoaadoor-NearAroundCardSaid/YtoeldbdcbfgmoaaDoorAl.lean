/- WALKS OF FLOATS: credencelaw05.alive. -/
import Derived.Test.YtoeldbdcbfgmoaaDoorNa
import Derived.Test.YtoeldbdcbfgmoaaDoorFL
import Derived.Test.YtoeldbdcbfgmoaaDoorFs
import Derived.Test.YtoeldbdcbfgmoaaDoorQ2
namespace Go.Proofs.YtoeldbdcbfgmoaaDoor
set_option linter.unusedVariables false
set_option linter.unusedSimpArgs false
open Go.ChangeShapes Go.WideShapes Go.ChangeAt Go.RowKit Go.NatP Go.FloatP

theorem two_sz {k j : Nat} (h : k < 32 * j) : Sz (2 ^ k) j := by
  show 2 ^ k < 4294967296 ^ j
  rw [show (4294967296 : Nat) = 2 ^ 32 from rfl, ← Nat.pow_mul]
  exact Nat.pow_lt_pow_right (by decide) h
theorem fg_sz {r : Nat} (h : r < 9218868437227405312) : Sz (fg r) 66 := by
  unfold fg
  split
  · rename_i h1
    exact (show Sz r 2 by show r < 4294967296 ^ 2; omega).mono (Nat.le_refl _) (by omega)
  · obtain ⟨k, hk⟩ : ∃ k, r / 4503599627370496 - 1 = k := ⟨_, rfl⟩
    have h1 : Sz (4503599627370496 + r % 4503599627370496) 2 := by
      show _ < 4294967296 ^ 2
      have := Nat.mod_lt r (show 0 < 4503599627370496 by decide); omega
    rw [hk]
    exact h1.mul (two_sz (k := k) (j := 64) (by omega))
theorem e74_sz : Sz (2 ^ E74) 66 := two_sz (by show 1074 < 32 * 66; decide)

theorem flV_qs (s : Bool) {r : Nat} (h : r < 9218868437227405312) : QS (flV s r) 66 := QS.mk (two_ne E74) (by rw [zv_abs]; exact fg_sz h) e74_sz
theorem qs_zero66 : QS (0 : Rat) 66 := ⟨(sz_one (k := 66) (by omega)).mono (by decide) (Nat.le_refl _), sz_one (by omega)⟩
theorem fq_qs (x : Nat) : QS (fq x) 66 := by
  unfold fq
  split
  · rename_i h; exact flV_qs _ h
  · exact qs_zero66

/-- a fraction of one limb over one limb, beside no error -/
def RetR1 (w : World) (s : Bool) (u v : Nat) (e : Ending) (w' : World) : Prop :=
  ∃ a c b d, e = .returned (.tuple #[.agg #[.bool s, .slice a 1 c, .slice b 1 d], .int .i64 0]) ∧ Own w.heap.size w' a 1 c [u] ∧ Own w.heap.size w' b 1 d [v] ∧ Below w.heap.size w w'
theorem retr1 {w w' : World} {q : Rat} {s : Bool} {u v : Nat} {e : Ending} (h1 : qsg q 0 = s) (h2 : qnl q 0 = [u]) (h3 : qdl q 0 = [v]) (h : RetQE w q 0 e w') : RetR1 w s u v e w' := by
  obtain ⟨a, n, c, b, m, d, rfl, hO, hO', hD, hB⟩ := h
  rw [h2] at hO; rw [h3] at hO'
  obtain rfl : 1 = n := hO.len
  obtain rfl : 1 = m := hO'.len
  exact ⟨a, c, b, d, by rw [h1], hO, hO', hB⟩
theorem fg_hi {r : Nat} (h : 4503599627370496 ≤ r) : fg r = (4503599627370496 + r % 4503599627370496) * 2 ^ (r / 4503599627370496 - 1) := if_neg (by omega)
theorem q34 : fq 4604930618986332160 = mkRat 3 4 := by
  have hfr : fr 4604930618986332160 = 4604930618986332160 := by decide
  have hs : fs 4604930618986332160 = false := by decide
  unfold fq
  rw [if_pos (by decide), hs, hfr]
  obtain ⟨r, hr⟩ : ∃ r : Nat, r = 4604930618986332160 := ⟨_, rfl⟩
  rw [← hr]
  have hg := fg_hi (r := r) (by omega)
  obtain ⟨K, hK⟩ : ∃ K, r / 4503599627370496 - 1 = K := ⟨_, rfl⟩
  have hK2 : K = 1021 := by omega
  have hm : r % 4503599627370496 = 2251799813685248 := by omega
  rw [hK, hm] at hg
  have h := flV_below (s := false) (r := r) (num := 3) (D := 2) (by
    rw [hg]
    have hE : E74 = 53 + K := by show 1074 = 53 + K; omega
    rw [hE, Nat.pow_add]
    generalize 2 ^ K = Z
    rw [show (2 : Nat) ^ 53 = 9007199254740992 by decide]
    omega) (.inl (by decide))
  exact Rat.ext (h.1.trans (by decide)) (h.2.trans (by decide))
theorem t34 : qtx (mkRat 3 4) = ⟨#[51, 47, 52]⟩ := by decide +kernel

set_option maxRecDepth 100000 in
set_option maxHeartbeats 8000000 in
theorem alive05 {w : World} (GL : Lng w) (GS : Sht w) :
    Calls Tryd.prog 15 #[] w (fun e w' => e = .returned (.bool true) ∧ Below w.heap.size w w') := by
  have H12 := hid (fun w => (qof (w := w) 1 2 (by omega) (by omega) (by omega) (by omega)).mono fun e w' h => retr1 (s := false) (u := 1) (v := 2) (by decide +kernel) (by decide +kernel) (by decide +kernel) h)
  have H13 := hid (fun w => (qof (w := w) (-1) 3 (by omega) (by omega) (by omega) (by omega)).mono fun e w' h => retr1 (s := true) (u := 1) (v := 3) (by decide +kernel) (by decide +kernel) (by decide +kernel) h)
  have hfe : fe 4604930618986332160 = 0 := by decide
  have H34 := hid (fun w => (show Calls Tryd.prog 13 #[.float .f64 4604930618986332160] w (RetQE w (mkRat 3 4) 0) from hfe ▸ q34 ▸ near64 (w := w) 4604930618986332160 (by decide)))
  have hqs : Hid (QS (mkRat 3 4) 1) := ⟨(show Sz _ 1 by show _ < 4294967296 ^ 1; decide), (show Sz _ 1 by show _ < 4294967296 ^ 1; decide)⟩
  have HT : Hid (∀ W s a n c b m d, RdQ 1 W s a n c b m d (mkRat 3 4) → Calls Tryd.prog 45 #[.agg #[.bool s, .slice a n c, .slice b m d]] W (RetT W ⟨#[51, 47, 52]⟩)) := fun W s a n c b m d h => t34 ▸ qtext h (by omega)
  generalize mkRat 3 4 = q at *
  clear hfe
  have e1 : (FloatKind.f64.format.order 4602678819172646912 4602678819172646912 == some .eq) = true := by decide +kernel
  have e2 : (FloatKind.f64.format.order 13823048456275842390 13823048456275842390 == some .eq) = true := by decide +kernel
  have e3 : (FloatKind.f64.format.order 13823048456275842389 13823048456275842389 == some .eq) = true := by decide +kernel
  have e4 : (FloatKind.f32.format.order 1056964608 1056964608 == some .eq) = true := by decide +kernel
  go_enter Tryd.func15, Tryd.ntmps15
  have hbel_0 : Below w.heap.size w w := Below.refl _ _
  have GL_0 := GL.below hbel_0
  clear GL
  have GS_0 := GS.below hbel_0
  clear GS
  go_wp2_with fail
  refine (H12.out _).mono ?_
  rintro e w1 ⟨ha, hc, hb, hd, rfl, hO, hO', hB⟩
  have hB_1 : Below w.heap.size w w1 := (bl.next hB)
  have GL_1 := GL_0.below hB_1
  have GS_1 := GS_0.below hB_1
  have hbel_1 := hbel_0.next hB_1
  have hsz_1 := hB_1.size
  clear GL_0 GS_0 hbel_0 hB_1
  have Oh_1 := hO
  have ltOh := hO.ltB
  have Ph_1 := hO'
  have ltPh := hO'.ltB
  clear hO hO'
  try clear hB
  have hbx := blk_new w1 #[Value.bool false, Value.slice ha 1 hc, Value.slice hb 1 hd] 27
  have hbB := (Below.refl w1.heap.size w1).alloc (Nat.le_refl _) (.cells #[Value.bool false, Value.slice ha 1 hc, Value.slice hb 1 hd] 27)
  have hltA := hbx.lt
  have hB_2 : Below w1.heap.size w1 (w1.alloc (.cells #[Value.bool false, Value.slice ha 1 hc, Value.slice hb 1 hd] 27)) := hbB
  have GL_2 := GL_1.below hB_2
  have GS_2 := GS_1.below hB_2
  have Oh_2 := Oh_1.below hB_2
  have Ph_2 := Ph_1.below hB_2
  have hbel_2 := hbel_1.next hB_2
  have hsz_2 := hB_2.size
  clear hB_2
  have A_2 := hbx
  clear hbx hbB
  have cA_2_0 : _ = some (Value.bool false) := A_2.cell 0
  have cA_2_1 : _ = some (Value.slice ha 1 hc) := A_2.cell 1
  have cA_2_2 : _ = some (Value.slice hb 1 hd) := A_2.cell 2
  go_wp2_with fail
  clear GL_1 GS_1 Oh_1 Ph_1 hbel_1
  generalize (w1.alloc (.cells #[Value.bool false, Value.slice ha 1 hc, Value.slice hb 1 hd] 27)) = v2 at *
  go_wp2_with fail
  refine (H13.out _).mono ?_
  rintro e w3 ⟨ta, tc, tb, td, rfl, hO, hO', hB⟩
  have hB_3 : Below v2.heap.size v2 w3 := (bl.next hB)
  have A_3 := A_2.next hB_3
  have cA_3_0 : _ = some (Value.bool false) := A_3.cell 0
  have cA_3_1 : _ = some (Value.slice ha 1 hc) := A_3.cell 1
  have cA_3_2 : _ = some (Value.slice hb 1 hd) := A_3.cell 2
  have GL_3 := GL_2.below hB_3
  have GS_3 := GS_2.below hB_3
  have Oh_3 := Oh_2.below hB_3
  have Ph_3 := Ph_2.below hB_3
  have hbel_3 := hbel_2.next hB_3
  have hsz_3 := hB_3.size
  clear A_2 cA_2_0 cA_2_1 cA_2_2 GL_2 GS_2 Oh_2 Ph_2 hbel_2 hB_3
  have Ot_3 := hO
  have ltOt := hO.ltB
  have Pt_3 := hO'
  have ltPt := hO'.ltB
  clear hO hO'
  try clear hB
  have hbx := blk_new w3 #[Value.bool true, Value.slice ta 1 tc, Value.slice tb 1 td] 27
  have hbB := (Below.refl w3.heap.size w3).alloc (Nat.le_refl _) (.cells #[Value.bool true, Value.slice ta 1 tc, Value.slice tb 1 td] 27)
  have hltB := hbx.lt
  have hB_4 : Below w3.heap.size w3 (w3.alloc (.cells #[Value.bool true, Value.slice ta 1 tc, Value.slice tb 1 td] 27)) := hbB
  have A_4 := A_3.next hB_4
  have cA_4_0 : _ = some (Value.bool false) := A_4.cell 0
  have cA_4_1 : _ = some (Value.slice ha 1 hc) := A_4.cell 1
  have cA_4_2 : _ = some (Value.slice hb 1 hd) := A_4.cell 2
  have GL_4 := GL_3.below hB_4
  have GS_4 := GS_3.below hB_4
  have Oh_4 := Oh_3.below hB_4
  have Ph_4 := Ph_3.below hB_4
  have Ot_4 := Ot_3.below hB_4
  have Pt_4 := Pt_3.below hB_4
  have hbel_4 := hbel_3.next hB_4
  have hsz_4 := hB_4.size
  clear hB_4
  have B_4 := hbx
  clear hbx hbB
  have cB_4_0 : _ = some (Value.bool true) := B_4.cell 0
  have cB_4_1 : _ = some (Value.slice ta 1 tc) := B_4.cell 1
  have cB_4_2 : _ = some (Value.slice tb 1 td) := B_4.cell 2
  go_wp2_with fail
  clear A_3 cA_3_0 cA_3_1 cA_3_2 GL_3 GS_3 Oh_3 Ph_3 Ot_3 Pt_3 hbel_3
  generalize (w3.alloc (.cells #[Value.bool true, Value.slice ta 1 tc, Value.slice tb 1 td] 27)) = v4 at *
  go_wp2_with fail
  refine (around3 GL_4.a GL_4.b GL_4.c Ot_4.rd Pt_4.rd).mono ?_
  rintro e w5 ⟨rfl, hB⟩
  have hB_5 : Below v4.heap.size v4 w5 := (bl.next hB)
  have A_5 := A_4.next hB_5
  have cA_5_0 : _ = some (Value.bool false) := A_5.cell 0
  have cA_5_1 : _ = some (Value.slice ha 1 hc) := A_5.cell 1
  have cA_5_2 : _ = some (Value.slice hb 1 hd) := A_5.cell 2
  have B_5 := B_4.next hB_5
  have cB_5_0 : _ = some (Value.bool true) := B_5.cell 0
  have cB_5_1 : _ = some (Value.slice ta 1 tc) := B_5.cell 1
  have cB_5_2 : _ = some (Value.slice tb 1 td) := B_5.cell 2
  have GL_5 := GL_4.below hB_5
  have GS_5 := GS_4.below hB_5
  have Oh_5 := Oh_4.below hB_5
  have Ph_5 := Ph_4.below hB_5
  have Ot_5 := Ot_4.below hB_5
  have Pt_5 := Pt_4.below hB_5
  have hbel_5 := hbel_4.next hB_5
  have hsz_5 := hB_5.size
  clear A_4 cA_4_0 cA_4_1 cA_4_2 B_4 cB_4_0 cB_4_1 cB_4_2 GL_4 GS_4 Oh_4 Ph_4 Ot_4 Pt_4 hbel_4 hB_5
  try clear hB
  go_wp2_with fail
  refine (H34.out _).mono ?_
  rintro e w6 ⟨xa, xn, xc, xb, xm, xd, rfl, hO, hO', hD, hB⟩
  have hB_6 : Below w5.heap.size w5 w6 := (bl.next hB)
  have A_6 := A_5.next hB_6
  have cA_6_0 : _ = some (Value.bool false) := A_6.cell 0
  have cA_6_1 : _ = some (Value.slice ha 1 hc) := A_6.cell 1
  have cA_6_2 : _ = some (Value.slice hb 1 hd) := A_6.cell 2
  have B_6 := B_5.next hB_6
  have cB_6_0 : _ = some (Value.bool true) := B_6.cell 0
  have cB_6_1 : _ = some (Value.slice ta 1 tc) := B_6.cell 1
  have cB_6_2 : _ = some (Value.slice tb 1 td) := B_6.cell 2
  have GL_6 := GL_5.below hB_6
  have GS_6 := GS_5.below hB_6
  have Oh_6 := Oh_5.below hB_6
  have Ph_6 := Ph_5.below hB_6
  have Ot_6 := Ot_5.below hB_6
  have Pt_6 := Pt_5.below hB_6
  have hbel_6 := hbel_5.next hB_6
  have hsz_6 := hB_6.size
  clear A_5 cA_5_0 cA_5_1 cA_5_2 B_5 cB_5_0 cB_5_1 cB_5_2 GL_5 GS_5 Oh_5 Ph_5 Ot_5 Pt_5 hbel_5 hB_6
  have Ox_6 := hO
  have ltOx := hO.ltB
  have Px_6 := hO'
  have ltPx := hO'.ltB
  clear hO hO'
  clear hD
  try clear hB
  have hbx := blk_new w6 #[Value.bool (qsg q 0), Value.slice xa xn xc, Value.slice xb xm xd] 27
  have hbB := (Below.refl w6.heap.size w6).alloc (Nat.le_refl _) (.cells #[Value.bool (qsg q 0), Value.slice xa xn xc, Value.slice xb xm xd] 27)
  have hltX := hbx.lt
  have hB_7 : Below w6.heap.size w6 (w6.alloc (.cells #[Value.bool (qsg q 0), Value.slice xa xn xc, Value.slice xb xm xd] 27)) := hbB
  have A_7 := A_6.next hB_7
  have cA_7_0 : _ = some (Value.bool false) := A_7.cell 0
  have cA_7_1 : _ = some (Value.slice ha 1 hc) := A_7.cell 1
  have cA_7_2 : _ = some (Value.slice hb 1 hd) := A_7.cell 2
  have B_7 := B_6.next hB_7
  have cB_7_0 : _ = some (Value.bool true) := B_7.cell 0
  have cB_7_1 : _ = some (Value.slice ta 1 tc) := B_7.cell 1
  have cB_7_2 : _ = some (Value.slice tb 1 td) := B_7.cell 2
  have GL_7 := GL_6.below hB_7
  have GS_7 := GS_6.below hB_7
  have Oh_7 := Oh_6.below hB_7
  have Ph_7 := Ph_6.below hB_7
  have Ot_7 := Ot_6.below hB_7
  have Pt_7 := Pt_6.below hB_7
  have Ox_7 := Ox_6.below hB_7
  have Px_7 := Px_6.below hB_7
  have hbel_7 := hbel_6.next hB_7
  have hsz_7 := hB_7.size
  clear hB_7
  have X_7 := hbx
  clear hbx hbB
  have cX_7_0 : _ = some (Value.bool (qsg q 0)) := X_7.cell 0
  have cX_7_1 : _ = some (Value.slice xa xn xc) := X_7.cell 1
  have cX_7_2 : _ = some (Value.slice xb xm xd) := X_7.cell 2
  go_wp2_with fail
  clear A_6 cA_6_0 cA_6_1 cA_6_2 B_6 cB_6_0 cB_6_1 cB_6_2 GL_6 GS_6 Oh_6 Ph_6 Ot_6 Pt_6 Ox_6 Px_6 hbel_6
  generalize (w6.alloc (.cells #[Value.bool (qsg q 0), Value.slice xa xn xc, Value.slice xb xm xd] 27)) = v7 at *
  go_wp2_with fail
  refine (HT.out _ _ _ _ _ _ _ _ (Ox_7.rdQ Px_7 hqs.out)).mono ?_
  rintro e w8 ⟨rfl, hB⟩
  have hB_8 : Below v7.heap.size v7 w8 := (bl.next hB)
  have A_8 := A_7.next hB_8
  have cA_8_0 : _ = some (Value.bool false) := A_8.cell 0
  have cA_8_1 : _ = some (Value.slice ha 1 hc) := A_8.cell 1
  have cA_8_2 : _ = some (Value.slice hb 1 hd) := A_8.cell 2
  have B_8 := B_7.next hB_8
  have cB_8_0 : _ = some (Value.bool true) := B_8.cell 0
  have cB_8_1 : _ = some (Value.slice ta 1 tc) := B_8.cell 1
  have cB_8_2 : _ = some (Value.slice tb 1 td) := B_8.cell 2
  have X_8 := X_7.next hB_8
  have cX_8_0 : _ = some (Value.bool (qsg q 0)) := X_8.cell 0
  have cX_8_1 : _ = some (Value.slice xa xn xc) := X_8.cell 1
  have cX_8_2 : _ = some (Value.slice xb xm xd) := X_8.cell 2
  have GL_8 := GL_7.below hB_8
  have GS_8 := GS_7.below hB_8
  have Oh_8 := Oh_7.below hB_8
  have Ph_8 := Ph_7.below hB_8
  have Ot_8 := Ot_7.below hB_8
  have Pt_8 := Pt_7.below hB_8
  have Ox_8 := Ox_7.below hB_8
  have Px_8 := Px_7.below hB_8
  have hbel_8 := hbel_7.next hB_8
  have hsz_8 := hB_8.size
  clear A_7 cA_7_0 cA_7_1 cA_7_2 B_7 cB_7_0 cB_7_1 cB_7_2 X_7 cX_7_0 cX_7_1 cX_7_2 GL_7 GS_7 Oh_7 Ph_7 Ot_7 Pt_7 Ox_7 Px_7 hbel_7 hB_8
  try clear hB
  go_wp2_with fail
  refine (nearest2 GL_8.a GL_8.b GL_8.c Oh_8.rd Ph_8.rd).mono ?_
  rintro e w9 ⟨rfl, hB⟩
  have hB_9 : Below w8.heap.size w8 w9 := (bl.next hB)
  have A_9 := A_8.next hB_9
  have cA_9_0 : _ = some (Value.bool false) := A_9.cell 0
  have cA_9_1 : _ = some (Value.slice ha 1 hc) := A_9.cell 1
  have cA_9_2 : _ = some (Value.slice hb 1 hd) := A_9.cell 2
  have B_9 := B_8.next hB_9
  have cB_9_0 : _ = some (Value.bool true) := B_9.cell 0
  have cB_9_1 : _ = some (Value.slice ta 1 tc) := B_9.cell 1
  have cB_9_2 : _ = some (Value.slice tb 1 td) := B_9.cell 2
  have X_9 := X_8.next hB_9
  have cX_9_0 : _ = some (Value.bool (qsg q 0)) := X_9.cell 0
  have cX_9_1 : _ = some (Value.slice xa xn xc) := X_9.cell 1
  have cX_9_2 : _ = some (Value.slice xb xm xd) := X_9.cell 2
  have GL_9 := GL_8.below hB_9
  have GS_9 := GS_8.below hB_9
  have Oh_9 := Oh_8.below hB_9
  have Ph_9 := Ph_8.below hB_9
  have Ot_9 := Ot_8.below hB_9
  have Pt_9 := Pt_8.below hB_9
  have Ox_9 := Ox_8.below hB_9
  have Px_9 := Px_8.below hB_9
  have hbel_9 := hbel_8.next hB_9
  have hsz_9 := hB_9.size
  clear A_8 cA_8_0 cA_8_1 cA_8_2 B_8 cB_8_0 cB_8_1 cB_8_2 X_8 cX_8_0 cX_8_1 cX_8_2 GL_8 GS_8 Oh_8 Ph_8 Ot_8 Pt_8 Ox_8 Px_8 hbel_8 hB_9
  try clear hB
  go_wp2_with fail
  refine (single2 GS_9.a GS_9.b GS_9.c Oh_9.rd Ph_9.rd).mono ?_
  rintro e w10 ⟨rfl, hB⟩
  have hB_10 : Below w9.heap.size w9 w10 := (bl.next hB)
  have A_10 := A_9.next hB_10
  have cA_10_0 : _ = some (Value.bool false) := A_10.cell 0
  have cA_10_1 : _ = some (Value.slice ha 1 hc) := A_10.cell 1
  have cA_10_2 : _ = some (Value.slice hb 1 hd) := A_10.cell 2
  have B_10 := B_9.next hB_10
  have cB_10_0 : _ = some (Value.bool true) := B_10.cell 0
  have cB_10_1 : _ = some (Value.slice ta 1 tc) := B_10.cell 1
  have cB_10_2 : _ = some (Value.slice tb 1 td) := B_10.cell 2
  have X_10 := X_9.next hB_10
  have cX_10_0 : _ = some (Value.bool (qsg q 0)) := X_10.cell 0
  have cX_10_1 : _ = some (Value.slice xa xn xc) := X_10.cell 1
  have cX_10_2 : _ = some (Value.slice xb xm xd) := X_10.cell 2
  have GL_10 := GL_9.below hB_10
  have GS_10 := GS_9.below hB_10
  have Oh_10 := Oh_9.below hB_10
  have Ph_10 := Ph_9.below hB_10
  have Ot_10 := Ot_9.below hB_10
  have Pt_10 := Pt_9.below hB_10
  have Ox_10 := Ox_9.below hB_10
  have Px_10 := Px_9.below hB_10
  have hbel_10 := hbel_9.next hB_10
  have hsz_10 := hB_10.size
  clear A_9 cA_9_0 cA_9_1 cA_9_2 B_9 cB_9_0 cB_9_1 cB_9_2 X_9 cX_9_0 cX_9_1 cX_9_2 GL_9 GS_9 Oh_9 Ph_9 Ot_9 Pt_9 Ox_9 Px_9 hbel_9 hB_10
  try clear hB
  go_wp2
  go_ret
  exact ⟨rfl, hbel_10⟩

end Go.Proofs.YtoeldbdcbfgmoaaDoor
