/- THE WALK OF credencelaw03.FracThere: text and back; digits over digits. -/
import Derived.Test.YtenmjgnhneofjaaQn
import Derived.Test.YtenmjgnhneofjaaQp
namespace Go.Proofs.Ytenmjgnhneofjaa
set_option linter.unusedVariables false
set_option linter.unusedSimpArgs false
open Go.ChangeShapes Go.WideShapes Go.ChangeAt Go.RowKit Go.NatP

set_option maxRecDepth 100000 in
/-- the size of a whole number that is held as a value -/
theorem field_mag (s : Bool) (a : Option Addr) (n c : Nat) (w : World) : (Instr.field 25 (.agg #[.bool s, .slice a n c]) 1).run Try.prog w = .ok (.slice a n c) w := by rfl

set_option maxRecDepth 100000 in
set_option maxHeartbeats 8000000 in
theorem fracThere0 {w : World} {a b : Option Addr} {n c m d : Nat} {la lb : List Nat} (s : Bool) (ha : Rd w a n c la) (hb : Rd w b m d lb) (k : Int) (h1 : -9223372036854775808 ≤ k) (h2 : k ≤ 9223372036854775807) (l : Int) (h3 : -9223372036854775808 ≤ l) (h4 : l ≤ 9223372036854775807) (hl : l = 0) :
    Calls Try.prog 7 #[.agg #[.bool s, .slice a n c, .slice b m d], .int .i64 k, .int .i64 l] w (fun e w' => e = .returned (.bool true) ∧ Below w.heap.size w w') := by
  have HC := hid (fun w => qof (w := w) k l h1 h2 h3 h4)
  have hT := fp_over k l.natAbs (s := ztx k ++ ⟨#[47]⟩ ++ txt (tx l.natAbs)) (ByteArray.append_assoc ..)
  have sk := szInt h1 h2
  have sl := szInt h3 h4
  have hz1 := ztx_size sk
  have hz2 := txt_sz sl
  have hsz : (ztx k ++ (⟨#[47]⟩ : ByteArray) ++ txt (tx l.natAbs)).size ≤ 46 := by
    rw [ByteArray.size_append, ByteArray.size_append]
    have : (⟨#[47]⟩ : ByteArray).size = 1 := rfl
    omega
  have hsz1 : (ztx k ++ (⟨#[47]⟩ : ByteArray)).size ≤ 24 := by
    rw [ByteArray.size_append]
    have : (⟨#[47]⟩ : ByteArray).size = 1 := rfl
    omega
  have HK := hid (fun w => zofi_any (w := w) k h1 h2)
  have HL := hid (fun w => zofi_any (w := w) l h3 h4)
  have skh := hid sk
  have slh := hid sl
  clear sk sl
  have HP := hid (fun w => qparse (w := w) _ (Nat.le_trans hsz (by omega)))
  rw [hT.1, hT.2] at HP
  have hqk := hid (divInt_szi h1 h2 h3 h4)
  rw [zE_zero hl] at HC
  rw [zE_zero (show ((l.natAbs : Nat) : Int) = 0 by omega)] at HP
  clear hT
  generalize Rat.divInt k l = q at *
  generalize Rat.divInt k ((l.natAbs : Nat) : Int) = g0 at *
  have hll : (l == 0) = true := by simp [hl]
  have hlt : decide (l < 0) = false := decide_eq_false (by omega)
  clear hl
  have hent := ent1 w #[Value.bool s, Value.slice a n c, Value.slice b m d] 32
  go_enter Try.func7, Try.ntmps7
  go_wp2_with fail
  generalize (w.alloc (.cells #[Value.bool s, Value.slice a n c, Value.slice b m d] 32)) = W0 at hent ⊢
  obtain ⟨X_0, hbel_0, hsz_0⟩ := hent
  have cX_0_0 : _ = some (Value.bool s) := X_0.cell 0
  have cX_0_1 : _ = some (Value.slice a n c) := X_0.cell 1
  have cX_0_2 : _ = some (Value.slice b m d) := X_0.cell 2
  have ha_0 := ha.below hbel_0
  clear ha
  have hb_0 := hb.below hbel_0
  clear hb
  go_wp2_with fail
  refine (fawake).mono ?_
  rintro e w1 ⟨rfl, hB⟩
  have hB_1 : Below W0.heap.size W0 w1 := (by first | exact hB | exact below_drew hB | exact bel_alloc hB | exact below_drew (bel_alloc hB) | exact bel_alloc (below_drew hB) | exact bel_alloc (bel_alloc hB))
  have X_1 := X_0.next hB_1
  have cX_1_0 : _ = some (Value.bool s) := X_1.cell 0
  have cX_1_1 : _ = some (Value.slice a n c) := X_1.cell 1
  have cX_1_2 : _ = some (Value.slice b m d) := X_1.cell 2
  have ha_1 := ha_0.below hB_1
  have hb_1 := hb_0.below hB_1
  have hbel_1 := hbel_0.next hB_1
  have hsz_1 := hB_1.size
  clear X_0 cX_0_0 cX_0_1 cX_0_2 ha_0 hb_0 hbel_0 hB_1
  try clear hB
  go_wp2_with fail
  refine (fcut 12 (by omega) ha_1 hb_1).mono ?_
  rintro e w2 ⟨n', l1, m', l2, rfl, hn', hm', hln, hlm, hR, hR', hB⟩
  have hB_2 : Below w1.heap.size w1 w2 := (by first | exact hB | exact below_drew hB | exact bel_alloc hB | exact below_drew (bel_alloc hB) | exact bel_alloc (below_drew hB) | exact bel_alloc (bel_alloc hB))
  have X_2 := X_1.next hB_2
  have cX_2_0 : _ = some (Value.bool s) := X_2.cell 0
  have cX_2_1 : _ = some (Value.slice a n c) := X_2.cell 1
  have cX_2_2 : _ = some (Value.slice b m d) := X_2.cell 2
  have ha_2 := ha_1.below hB_2
  have hb_2 := hb_1.below hB_2
  have hbel_2 := hbel_1.next hB_2
  have hsz_2 := hB_2.size
  clear X_1 cX_1_0 cX_1_1 cX_1_2 ha_1 hb_1 hbel_1 hB_2
  have A_2 := hR
  have B_2 := hR'
  clear hR hR'
  try clear hB
  have hbx := blk_new w2 #[Value.bool s, Value.slice a n' c, Value.slice b m' d] 32
  have hbB := (Below.refl w2.heap.size w2).alloc (Nat.le_refl _) (.cells #[Value.bool s, Value.slice a n' c, Value.slice b m' d] 32)
  have hltC := hbx.lt
  have hB_3 : Below w2.heap.size w2 (w2.alloc (.cells #[Value.bool s, Value.slice a n' c, Value.slice b m' d] 32)) := hbB
  have X_3 := X_2.next hB_3
  have cX_3_0 : _ = some (Value.bool s) := X_3.cell 0
  have cX_3_1 : _ = some (Value.slice a n c) := X_3.cell 1
  have cX_3_2 : _ = some (Value.slice b m d) := X_3.cell 2
  have ha_3 := ha_2.below hB_3
  have hb_3 := hb_2.below hB_3
  have A_3 := A_2.below hB_3
  have B_3 := B_2.below hB_3
  have hbel_3 := hbel_2.next hB_3
  have hsz_3 := hB_3.size
  clear hB_3
  have C_3 := hbx
  clear hbx hbB
  have cC_3_0 : _ = some (Value.bool s) := C_3.cell 0
  have cC_3_1 : _ = some (Value.slice a n' c) := C_3.cell 1
  have cC_3_2 : _ = some (Value.slice b m' d) := C_3.cell 2
  go_wp2_with fail
  clear X_2 cX_2_0 cX_2_1 cX_2_2 ha_2 hb_2 A_2 B_2 hbel_2
  generalize (w2.alloc (.cells #[Value.bool s, Value.slice a n' c, Value.slice b m' d] 32)) = v3 at *
  have HQX := hid (fun W (h : Rd W a n' c l1) (h' : Rd W b m' d l2) => rdq_of s h hn' h' hm')
  clear ha_3
  clear hb_3
  have Q_3 := HQX.out _ A_3 B_3
  clear A_3
  clear B_3
  clear HQX
  have hx := hid (show QS (qv s (val l1) (val l2)) 12 from Q_3.qs (by omega))
  generalize qv s (val l1) (val l2) = x at *
  have hxt := qtx_size hx.out
  have HX := hid (fun w => (qparse (w := w) (qtx x) (by omega)).mono fun e w' h => retqe_ok h (fp_qtx x).2)
  rw [(fp_qtx x).1] at HX
  have hc0 := hid (cmpQ_self x)
  go_wp2_with fail
  refine (qtext Q_3 (by omega)).mono ?_
  rintro e w4 ⟨rfl, hB⟩
  have hB_4 : Below v3.heap.size v3 w4 := (by first | exact hB | exact below_drew hB | exact bel_alloc hB | exact below_drew (bel_alloc hB) | exact bel_alloc (below_drew hB) | exact bel_alloc (bel_alloc hB))
  have X_4 := X_3.next hB_4
  have cX_4_0 : _ = some (Value.bool s) := X_4.cell 0
  have cX_4_1 : _ = some (Value.slice a n c) := X_4.cell 1
  have cX_4_2 : _ = some (Value.slice b m d) := X_4.cell 2
  have C_4 := C_3.next hB_4
  have cC_4_0 : _ = some (Value.bool s) := C_4.cell 0
  have cC_4_1 : _ = some (Value.slice a n' c) := C_4.cell 1
  have cC_4_2 : _ = some (Value.slice b m' d) := C_4.cell 2
  have Q_4 := Q_3.below hB_4
  have hbel_4 := hbel_3.next hB_4
  have hsz_4 := hB_4.size
  clear X_3 cX_3_0 cX_3_1 cX_3_2 C_3 cC_3_0 cC_3_1 cC_3_2 Q_3 hbel_3 hB_4
  try clear hB
  go_wp2_with fail
  refine (HX.out _).mono ?_
  rintro e w5 ⟨xa, xn, xc, xb, xm, xd, rfl, hO, hO', hDx, hB⟩
  have hB_5 : Below w4.heap.size w4 w5 := (by first | exact hB | exact below_drew hB | exact bel_alloc hB | exact below_drew (bel_alloc hB) | exact bel_alloc (below_drew hB) | exact bel_alloc (bel_alloc hB))
  have X_5 := X_4.next hB_5
  have cX_5_0 : _ = some (Value.bool s) := X_5.cell 0
  have cX_5_1 : _ = some (Value.slice a n c) := X_5.cell 1
  have cX_5_2 : _ = some (Value.slice b m d) := X_5.cell 2
  have C_5 := C_4.next hB_5
  have cC_5_0 : _ = some (Value.bool s) := C_5.cell 0
  have cC_5_1 : _ = some (Value.slice a n' c) := C_5.cell 1
  have cC_5_2 : _ = some (Value.slice b m' d) := C_5.cell 2
  have Q_5 := Q_4.below hB_5
  have hbel_5 := hbel_4.next hB_5
  have hsz_5 := hB_5.size
  clear X_4 cX_4_0 cX_4_1 cX_4_2 C_4 cC_4_0 cC_4_1 cC_4_2 Q_4 hbel_4 hB_5
  have Ox_5 := hO
  have ltOx := hO.ltB
  have Px_5 := hO'
  have ltPx := hO'.ltB
  clear hO hO'
  try clear hB
  have hbx := blk_new w5 #[Value.bool (decide ((x).num < 0)), Value.slice xa xn xc, Value.slice xb xm xd] 32
  have hbB := (Below.refl w5.heap.size w5).alloc (Nat.le_refl _) (.cells #[Value.bool (decide ((x).num < 0)), Value.slice xa xn xc, Value.slice xb xm xd] 32)
  have hltD := hbx.lt
  have hB_6 : Below w5.heap.size w5 (w5.alloc (.cells #[Value.bool (decide ((x).num < 0)), Value.slice xa xn xc, Value.slice xb xm xd] 32)) := hbB
  have X_6 := X_5.next hB_6
  have cX_6_0 : _ = some (Value.bool s) := X_6.cell 0
  have cX_6_1 : _ = some (Value.slice a n c) := X_6.cell 1
  have cX_6_2 : _ = some (Value.slice b m d) := X_6.cell 2
  have C_6 := C_5.next hB_6
  have cC_6_0 : _ = some (Value.bool s) := C_6.cell 0
  have cC_6_1 : _ = some (Value.slice a n' c) := C_6.cell 1
  have cC_6_2 : _ = some (Value.slice b m' d) := C_6.cell 2
  have Q_6 := Q_5.below hB_6
  have Ox_6 := Ox_5.below hB_6
  have Px_6 := Px_5.below hB_6
  have hbel_6 := hbel_5.next hB_6
  have hsz_6 := hB_6.size
  clear hB_6
  have D_6 := hbx
  clear hbx hbB
  have cD_6_0 : _ = some (Value.bool (decide ((x).num < 0))) := D_6.cell 0
  have cD_6_1 : _ = some (Value.slice xa xn xc) := D_6.cell 1
  have cD_6_2 : _ = some (Value.slice xb xm xd) := D_6.cell 2
  go_wp2_with fail
  clear X_5 cX_5_0 cX_5_1 cX_5_2 C_5 cC_5_0 cC_5_1 cC_5_2 Q_5 Ox_5 Px_5 hbel_5
  generalize (w5.alloc (.cells #[Value.bool (decide ((x).num < 0)), Value.slice xa xn xc, Value.slice xb xm xd] 32)) = v6 at *
  go_wp2_with fail
  refine (HC.out _).mono ?_
  rintro e w7 ⟨ya, yn, yc, yb, ym, yd, rfl, hO, hO', hDy, hB⟩
  have hB_7 : Below v6.heap.size v6 w7 := (by first | exact hB | exact below_drew hB | exact bel_alloc hB | exact below_drew (bel_alloc hB) | exact bel_alloc (below_drew hB) | exact bel_alloc (bel_alloc hB))
  have X_7 := X_6.next hB_7
  have cX_7_0 : _ = some (Value.bool s) := X_7.cell 0
  have cX_7_1 : _ = some (Value.slice a n c) := X_7.cell 1
  have cX_7_2 : _ = some (Value.slice b m d) := X_7.cell 2
  have C_7 := C_6.next hB_7
  have cC_7_0 : _ = some (Value.bool s) := C_7.cell 0
  have cC_7_1 : _ = some (Value.slice a n' c) := C_7.cell 1
  have cC_7_2 : _ = some (Value.slice b m' d) := C_7.cell 2
  have D_7 := D_6.next hB_7
  have cD_7_0 : _ = some (Value.bool (decide ((x).num < 0))) := D_7.cell 0
  have cD_7_1 : _ = some (Value.slice xa xn xc) := D_7.cell 1
  have cD_7_2 : _ = some (Value.slice xb xm xd) := D_7.cell 2
  have Q_7 := Q_6.below hB_7
  have Ox_7 := Ox_6.below hB_7
  have Px_7 := Px_6.below hB_7
  have hbel_7 := hbel_6.next hB_7
  have hsz_7 := hB_7.size
  clear X_6 cX_6_0 cX_6_1 cX_6_2 C_6 cC_6_0 cC_6_1 cC_6_2 D_6 cD_6_0 cD_6_1 cD_6_2 Q_6 Ox_6 Px_6 hbel_6 hB_7
  have Oy_7 := hO
  have ltOy := hO.ltB
  have Py_7 := hO'
  have ltPy := hO'.ltB
  clear hO hO'
  try clear hB
  have hbx := blk_new w7 #[Value.bool (qsg q 11), Value.slice ya yn yc, Value.slice yb ym yd] 32
  have hbB := (Below.refl w7.heap.size w7).alloc (Nat.le_refl _) (.cells #[Value.bool (qsg q 11), Value.slice ya yn yc, Value.slice yb ym yd] 32)
  have hltE := hbx.lt
  have hB_8 : Below w7.heap.size w7 (w7.alloc (.cells #[Value.bool (qsg q 11), Value.slice ya yn yc, Value.slice yb ym yd] 32)) := hbB
  have X_8 := X_7.next hB_8
  have cX_8_0 : _ = some (Value.bool s) := X_8.cell 0
  have cX_8_1 : _ = some (Value.slice a n c) := X_8.cell 1
  have cX_8_2 : _ = some (Value.slice b m d) := X_8.cell 2
  have C_8 := C_7.next hB_8
  have cC_8_0 : _ = some (Value.bool s) := C_8.cell 0
  have cC_8_1 : _ = some (Value.slice a n' c) := C_8.cell 1
  have cC_8_2 : _ = some (Value.slice b m' d) := C_8.cell 2
  have D_8 := D_7.next hB_8
  have cD_8_0 : _ = some (Value.bool (decide ((x).num < 0))) := D_8.cell 0
  have cD_8_1 : _ = some (Value.slice xa xn xc) := D_8.cell 1
  have cD_8_2 : _ = some (Value.slice xb xm xd) := D_8.cell 2
  have Q_8 := Q_7.below hB_8
  have Ox_8 := Ox_7.below hB_8
  have Px_8 := Px_7.below hB_8
  have Oy_8 := Oy_7.below hB_8
  have Py_8 := Py_7.below hB_8
  have hbel_8 := hbel_7.next hB_8
  have hsz_8 := hB_8.size
  clear hB_8
  have E_8 := hbx
  clear hbx hbB
  have cE_8_0 : _ = some (Value.bool (qsg q 11)) := E_8.cell 0
  have cE_8_1 : _ = some (Value.slice ya yn yc) := E_8.cell 1
  have cE_8_2 : _ = some (Value.slice yb ym yd) := E_8.cell 2
  go_wp2_with fail
  clear X_7 cX_7_0 cX_7_1 cX_7_2 C_7 cC_7_0 cC_7_1 cC_7_2 D_7 cD_7_0 cD_7_1 cD_7_2 Q_7 Ox_7 Px_7 Oy_7 Py_7 hbel_7
  generalize (w7.alloc (.cells #[Value.bool (qsg q 11), Value.slice ya yn yc, Value.slice yb ym yd] 32)) = v8 at *
  go_wp2_with fail
  refine (HK.out _).mono ?_
  rintro e w9 ⟨ka, kn, kc, rfl, hO, hB⟩
  have hB_9 : Below v8.heap.size v8 w9 := (by first | exact hB | exact below_drew hB | exact bel_alloc hB | exact below_drew (bel_alloc hB) | exact bel_alloc (below_drew hB) | exact bel_alloc (bel_alloc hB))
  have X_9 := X_8.next hB_9
  have cX_9_0 : _ = some (Value.bool s) := X_9.cell 0
  have cX_9_1 : _ = some (Value.slice a n c) := X_9.cell 1
  have cX_9_2 : _ = some (Value.slice b m d) := X_9.cell 2
  have C_9 := C_8.next hB_9
  have cC_9_0 : _ = some (Value.bool s) := C_9.cell 0
  have cC_9_1 : _ = some (Value.slice a n' c) := C_9.cell 1
  have cC_9_2 : _ = some (Value.slice b m' d) := C_9.cell 2
  have D_9 := D_8.next hB_9
  have cD_9_0 : _ = some (Value.bool (decide ((x).num < 0))) := D_9.cell 0
  have cD_9_1 : _ = some (Value.slice xa xn xc) := D_9.cell 1
  have cD_9_2 : _ = some (Value.slice xb xm xd) := D_9.cell 2
  have E_9 := E_8.next hB_9
  have cE_9_0 : _ = some (Value.bool (qsg q 11)) := E_9.cell 0
  have cE_9_1 : _ = some (Value.slice ya yn yc) := E_9.cell 1
  have cE_9_2 : _ = some (Value.slice yb ym yd) := E_9.cell 2
  have Q_9 := Q_8.below hB_9
  have Ox_9 := Ox_8.below hB_9
  have Px_9 := Px_8.below hB_9
  have Oy_9 := Oy_8.below hB_9
  have Py_9 := Py_8.below hB_9
  have hbel_9 := hbel_8.next hB_9
  have hsz_9 := hB_9.size
  clear X_8 cX_8_0 cX_8_1 cX_8_2 C_8 cC_8_0 cC_8_1 cC_8_2 D_8 cD_8_0 cD_8_1 cD_8_2 E_8 cE_8_0 cE_8_1 cE_8_2 Q_8 Ox_8 Px_8 Oy_8 Py_8 hbel_8 hB_9
  have K_9 := hO.rdZ skh.out
  clear hO
  try clear hB
  go_wp2_with fail
  refine (ztextR K_9 (by omega)).mono ?_
  rintro e w10 ⟨rfl, hB⟩
  have hB_10 : Below w9.heap.size w9 w10 := (by first | exact hB | exact below_drew hB | exact bel_alloc hB | exact below_drew (bel_alloc hB) | exact bel_alloc (below_drew hB) | exact bel_alloc (bel_alloc hB))
  have X_10 := X_9.next hB_10
  have cX_10_0 : _ = some (Value.bool s) := X_10.cell 0
  have cX_10_1 : _ = some (Value.slice a n c) := X_10.cell 1
  have cX_10_2 : _ = some (Value.slice b m d) := X_10.cell 2
  have C_10 := C_9.next hB_10
  have cC_10_0 : _ = some (Value.bool s) := C_10.cell 0
  have cC_10_1 : _ = some (Value.slice a n' c) := C_10.cell 1
  have cC_10_2 : _ = some (Value.slice b m' d) := C_10.cell 2
  have D_10 := D_9.next hB_10
  have cD_10_0 : _ = some (Value.bool (decide ((x).num < 0))) := D_10.cell 0
  have cD_10_1 : _ = some (Value.slice xa xn xc) := D_10.cell 1
  have cD_10_2 : _ = some (Value.slice xb xm xd) := D_10.cell 2
  have E_10 := E_9.next hB_10
  have cE_10_0 : _ = some (Value.bool (qsg q 11)) := E_10.cell 0
  have cE_10_1 : _ = some (Value.slice ya yn yc) := E_10.cell 1
  have cE_10_2 : _ = some (Value.slice yb ym yd) := E_10.cell 2
  have Q_10 := Q_9.below hB_10
  have Ox_10 := Ox_9.below hB_10
  have Px_10 := Px_9.below hB_10
  have Oy_10 := Oy_9.below hB_10
  have Py_10 := Py_9.below hB_10
  have K_10 := K_9.below hB_10
  have hbel_10 := hbel_9.next hB_10
  have hsz_10 := hB_10.size
  clear X_9 cX_9_0 cX_9_1 cX_9_2 C_9 cC_9_0 cC_9_1 cC_9_2 D_9 cD_9_0 cD_9_1 cD_9_2 E_9 cE_9_0 cE_9_1 cE_9_2 Q_9 Ox_9 Px_9 Oy_9 Py_9 K_9 hbel_9 hB_10
  try clear hB
  go_wp2_with fail
  refine (HL.out _).mono ?_
  rintro e w11 ⟨ja, jn, jc, rfl, hO, hB⟩
  have hB_11 : Below w10.heap.size w10 w11 := (by first | exact hB | exact below_drew hB | exact bel_alloc hB | exact below_drew (bel_alloc hB) | exact bel_alloc (below_drew hB) | exact bel_alloc (bel_alloc hB))
  have X_11 := X_10.next hB_11
  have cX_11_0 : _ = some (Value.bool s) := X_11.cell 0
  have cX_11_1 : _ = some (Value.slice a n c) := X_11.cell 1
  have cX_11_2 : _ = some (Value.slice b m d) := X_11.cell 2
  have C_11 := C_10.next hB_11
  have cC_11_0 : _ = some (Value.bool s) := C_11.cell 0
  have cC_11_1 : _ = some (Value.slice a n' c) := C_11.cell 1
  have cC_11_2 : _ = some (Value.slice b m' d) := C_11.cell 2
  have D_11 := D_10.next hB_11
  have cD_11_0 : _ = some (Value.bool (decide ((x).num < 0))) := D_11.cell 0
  have cD_11_1 : _ = some (Value.slice xa xn xc) := D_11.cell 1
  have cD_11_2 : _ = some (Value.slice xb xm xd) := D_11.cell 2
  have E_11 := E_10.next hB_11
  have cE_11_0 : _ = some (Value.bool (qsg q 11)) := E_11.cell 0
  have cE_11_1 : _ = some (Value.slice ya yn yc) := E_11.cell 1
  have cE_11_2 : _ = some (Value.slice yb ym yd) := E_11.cell 2
  have Q_11 := Q_10.below hB_11
  have Ox_11 := Ox_10.below hB_11
  have Px_11 := Px_10.below hB_11
  have Oy_11 := Oy_10.below hB_11
  have Py_11 := Py_10.below hB_11
  have K_11 := K_10.below hB_11
  have hbel_11 := hbel_10.next hB_11
  have hsz_11 := hB_11.size
  clear X_10 cX_10_0 cX_10_1 cX_10_2 C_10 cC_10_0 cC_10_1 cC_10_2 D_10 cD_10_0 cD_10_1 cD_10_2 E_10 cE_10_0 cE_10_1 cE_10_2 Q_10 Ox_10 Px_10 Oy_10 Py_10 K_10 hbel_10 hB_11
  have J_11 := hO.rdN slh.out
  clear hO
  have hfm := field_mag
  try clear hB
  go_wp2_with fail
  refine (ntextR J_11 (by omega)).mono ?_
  rintro e w12 ⟨rfl, hB⟩
  have hB_12 : Below w11.heap.size w11 w12 := (by first | exact hB | exact below_drew hB | exact bel_alloc hB | exact below_drew (bel_alloc hB) | exact bel_alloc (below_drew hB) | exact bel_alloc (bel_alloc hB))
  have X_12 := X_11.next hB_12
  have cX_12_0 : _ = some (Value.bool s) := X_12.cell 0
  have cX_12_1 : _ = some (Value.slice a n c) := X_12.cell 1
  have cX_12_2 : _ = some (Value.slice b m d) := X_12.cell 2
  have C_12 := C_11.next hB_12
  have cC_12_0 : _ = some (Value.bool s) := C_12.cell 0
  have cC_12_1 : _ = some (Value.slice a n' c) := C_12.cell 1
  have cC_12_2 : _ = some (Value.slice b m' d) := C_12.cell 2
  have D_12 := D_11.next hB_12
  have cD_12_0 : _ = some (Value.bool (decide ((x).num < 0))) := D_12.cell 0
  have cD_12_1 : _ = some (Value.slice xa xn xc) := D_12.cell 1
  have cD_12_2 : _ = some (Value.slice xb xm xd) := D_12.cell 2
  have E_12 := E_11.next hB_12
  have cE_12_0 : _ = some (Value.bool (qsg q 11)) := E_12.cell 0
  have cE_12_1 : _ = some (Value.slice ya yn yc) := E_12.cell 1
  have cE_12_2 : _ = some (Value.slice yb ym yd) := E_12.cell 2
  have Q_12 := Q_11.below hB_12
  have Ox_12 := Ox_11.below hB_12
  have Px_12 := Px_11.below hB_12
  have Oy_12 := Oy_11.below hB_12
  have Py_12 := Py_11.below hB_12
  have K_12 := K_11.below hB_12
  have J_12 := J_11.below hB_12
  have hbel_12 := hbel_11.next hB_12
  have hsz_12 := hB_12.size
  clear X_11 cX_11_0 cX_11_1 cX_11_2 C_11 cC_11_0 cC_11_1 cC_11_2 D_11 cD_11_0 cD_11_1 cD_11_2 E_11 cE_11_0 cE_11_1 cE_11_2 Q_11 Ox_11 Px_11 Oy_11 Py_11 K_11 J_11 hbel_11 hB_12
  try clear hB
  go_wp2_with fail
  refine (HP.out _).mono ?_
  rintro e w13 ⟨za, zn, zc, zb, zm, zd, rfl, hO, hO', hDz, hB⟩
  have hB_13 : Below w12.heap.size w12 w13 := (by first | exact hB | exact below_drew hB | exact bel_alloc hB | exact below_drew (bel_alloc hB) | exact bel_alloc (below_drew hB) | exact bel_alloc (bel_alloc hB))
  have X_13 := X_12.next hB_13
  have cX_13_0 : _ = some (Value.bool s) := X_13.cell 0
  have cX_13_1 : _ = some (Value.slice a n c) := X_13.cell 1
  have cX_13_2 : _ = some (Value.slice b m d) := X_13.cell 2
  have C_13 := C_12.next hB_13
  have cC_13_0 : _ = some (Value.bool s) := C_13.cell 0
  have cC_13_1 : _ = some (Value.slice a n' c) := C_13.cell 1
  have cC_13_2 : _ = some (Value.slice b m' d) := C_13.cell 2
  have D_13 := D_12.next hB_13
  have cD_13_0 : _ = some (Value.bool (decide ((x).num < 0))) := D_13.cell 0
  have cD_13_1 : _ = some (Value.slice xa xn xc) := D_13.cell 1
  have cD_13_2 : _ = some (Value.slice xb xm xd) := D_13.cell 2
  have E_13 := E_12.next hB_13
  have cE_13_0 : _ = some (Value.bool (qsg q 11)) := E_13.cell 0
  have cE_13_1 : _ = some (Value.slice ya yn yc) := E_13.cell 1
  have cE_13_2 : _ = some (Value.slice yb ym yd) := E_13.cell 2
  have Q_13 := Q_12.below hB_13
  have Ox_13 := Ox_12.below hB_13
  have Px_13 := Px_12.below hB_13
  have Oy_13 := Oy_12.below hB_13
  have Py_13 := Py_12.below hB_13
  have K_13 := K_12.below hB_13
  have J_13 := J_12.below hB_13
  have hbel_13 := hbel_12.next hB_13
  have hsz_13 := hB_13.size
  clear X_12 cX_12_0 cX_12_1 cX_12_2 C_12 cC_12_0 cC_12_1 cC_12_2 D_12 cD_12_0 cD_12_1 cD_12_2 E_12 cE_12_0 cE_12_1 cE_12_2 Q_12 Ox_12 Px_12 Oy_12 Py_12 K_12 J_12 hbel_12 hB_13
  have Oz_13 := hO
  have ltOz := hO.ltB
  have Pz_13 := hO'
  have ltPz := hO'.ltB
  clear hO hO'
  try clear hB
  have hbx := blk_new w13 #[Value.bool (qsg g0 11), Value.slice za zn zc, Value.slice zb zm zd] 32
  have hbB := (Below.refl w13.heap.size w13).alloc (Nat.le_refl _) (.cells #[Value.bool (qsg g0 11), Value.slice za zn zc, Value.slice zb zm zd] 32)
  have hltG := hbx.lt
  have hB_14 : Below w13.heap.size w13 (w13.alloc (.cells #[Value.bool (qsg g0 11), Value.slice za zn zc, Value.slice zb zm zd] 32)) := hbB
  have X_14 := X_13.next hB_14
  have cX_14_0 : _ = some (Value.bool s) := X_14.cell 0
  have cX_14_1 : _ = some (Value.slice a n c) := X_14.cell 1
  have cX_14_2 : _ = some (Value.slice b m d) := X_14.cell 2
  have C_14 := C_13.next hB_14
  have cC_14_0 : _ = some (Value.bool s) := C_14.cell 0
  have cC_14_1 : _ = some (Value.slice a n' c) := C_14.cell 1
  have cC_14_2 : _ = some (Value.slice b m' d) := C_14.cell 2
  have D_14 := D_13.next hB_14
  have cD_14_0 : _ = some (Value.bool (decide ((x).num < 0))) := D_14.cell 0
  have cD_14_1 : _ = some (Value.slice xa xn xc) := D_14.cell 1
  have cD_14_2 : _ = some (Value.slice xb xm xd) := D_14.cell 2
  have E_14 := E_13.next hB_14
  have cE_14_0 : _ = some (Value.bool (qsg q 11)) := E_14.cell 0
  have cE_14_1 : _ = some (Value.slice ya yn yc) := E_14.cell 1
  have cE_14_2 : _ = some (Value.slice yb ym yd) := E_14.cell 2
  have Q_14 := Q_13.below hB_14
  have Ox_14 := Ox_13.below hB_14
  have Px_14 := Px_13.below hB_14
  have Oy_14 := Oy_13.below hB_14
  have Py_14 := Py_13.below hB_14
  have K_14 := K_13.below hB_14
  have J_14 := J_13.below hB_14
  have Oz_14 := Oz_13.below hB_14
  have Pz_14 := Pz_13.below hB_14
  have hbel_14 := hbel_13.next hB_14
  have hsz_14 := hB_14.size
  clear hB_14
  have G_14 := hbx
  clear hbx hbB
  have cG_14_0 : _ = some (Value.bool (qsg g0 11)) := G_14.cell 0
  have cG_14_1 : _ = some (Value.slice za zn zc) := G_14.cell 1
  have cG_14_2 : _ = some (Value.slice zb zm zd) := G_14.cell 2
  go_wp2_with fail
  clear X_13 cX_13_0 cX_13_1 cX_13_2 C_13 cC_13_0 cC_13_1 cC_13_2 D_13 cD_13_0 cD_13_1 cD_13_2 E_13 cE_13_0 cE_13_1 cE_13_2 Q_13 Ox_13 Px_13 Oy_13 Py_13 K_13 J_13 Oz_13 Pz_13 hbel_13
  generalize (w13.alloc (.cells #[Value.bool (qsg g0 11), Value.slice za zn zc, Value.slice zb zm zd] 32)) = v14 at *
  have RD_14 := Ox_14.rdQ Px_14 hx.out
  go_wp2_with fail
  refine (qcmp Q_14 (by omega) RD_14 (by omega)).mono ?_
  rw [hc0.out]
  rintro e w15 ⟨rfl, hB⟩
  have hB_15 : Below v14.heap.size v14 w15 := (by first | exact hB | exact below_drew hB | exact bel_alloc hB | exact below_drew (bel_alloc hB) | exact bel_alloc (below_drew hB) | exact bel_alloc (bel_alloc hB))
  have X_15 := X_14.next hB_15
  have cX_15_0 : _ = some (Value.bool s) := X_15.cell 0
  have cX_15_1 : _ = some (Value.slice a n c) := X_15.cell 1
  have cX_15_2 : _ = some (Value.slice b m d) := X_15.cell 2
  have C_15 := C_14.next hB_15
  have cC_15_0 : _ = some (Value.bool s) := C_15.cell 0
  have cC_15_1 : _ = some (Value.slice a n' c) := C_15.cell 1
  have cC_15_2 : _ = some (Value.slice b m' d) := C_15.cell 2
  have D_15 := D_14.next hB_15
  have cD_15_0 : _ = some (Value.bool (decide ((x).num < 0))) := D_15.cell 0
  have cD_15_1 : _ = some (Value.slice xa xn xc) := D_15.cell 1
  have cD_15_2 : _ = some (Value.slice xb xm xd) := D_15.cell 2
  have E_15 := E_14.next hB_15
  have cE_15_0 : _ = some (Value.bool (qsg q 11)) := E_15.cell 0
  have cE_15_1 : _ = some (Value.slice ya yn yc) := E_15.cell 1
  have cE_15_2 : _ = some (Value.slice yb ym yd) := E_15.cell 2
  have G_15 := G_14.next hB_15
  have cG_15_0 : _ = some (Value.bool (qsg g0 11)) := G_15.cell 0
  have cG_15_1 : _ = some (Value.slice za zn zc) := G_15.cell 1
  have cG_15_2 : _ = some (Value.slice zb zm zd) := G_15.cell 2
  have Q_15 := Q_14.below hB_15
  have Ox_15 := Ox_14.below hB_15
  have Px_15 := Px_14.below hB_15
  have Oy_15 := Oy_14.below hB_15
  have Py_15 := Py_14.below hB_15
  have K_15 := K_14.below hB_15
  have J_15 := J_14.below hB_15
  have Oz_15 := Oz_14.below hB_15
  have Pz_15 := Pz_14.below hB_15
  have RD_15 := RD_14.below hB_15
  have hbel_15 := hbel_14.next hB_15
  have hsz_15 := hB_15.size
  clear X_14 cX_14_0 cX_14_1 cX_14_2 C_14 cC_14_0 cC_14_1 cC_14_2 D_14 cD_14_0 cD_14_1 cD_14_2 E_14 cE_14_0 cE_14_1 cE_14_2 G_14 cG_14_0 cG_14_1 cG_14_2 Q_14 Ox_14 Px_14 Oy_14 Py_14 K_14 J_14 Oz_14 Pz_14 RD_14 hbel_14 hB_15
  try clear hB
  go_wp2_with fail
  refine (flowest Ox_15 Px_15 hx.out (by omega)).mono ?_
  rintro e w16 ⟨rfl, hB⟩
  have hB_16 : Below w15.heap.size w15 w16 := (by first | exact hB | exact below_drew hB | exact bel_alloc hB | exact below_drew (bel_alloc hB) | exact bel_alloc (below_drew hB) | exact bel_alloc (bel_alloc hB))
  have X_16 := X_15.next hB_16
  have cX_16_0 : _ = some (Value.bool s) := X_16.cell 0
  have cX_16_1 : _ = some (Value.slice a n c) := X_16.cell 1
  have cX_16_2 : _ = some (Value.slice b m d) := X_16.cell 2
  have C_16 := C_15.next hB_16
  have cC_16_0 : _ = some (Value.bool s) := C_16.cell 0
  have cC_16_1 : _ = some (Value.slice a n' c) := C_16.cell 1
  have cC_16_2 : _ = some (Value.slice b m' d) := C_16.cell 2
  have D_16 := D_15.next hB_16
  have cD_16_0 : _ = some (Value.bool (decide ((x).num < 0))) := D_16.cell 0
  have cD_16_1 : _ = some (Value.slice xa xn xc) := D_16.cell 1
  have cD_16_2 : _ = some (Value.slice xb xm xd) := D_16.cell 2
  have E_16 := E_15.next hB_16
  have cE_16_0 : _ = some (Value.bool (qsg q 11)) := E_16.cell 0
  have cE_16_1 : _ = some (Value.slice ya yn yc) := E_16.cell 1
  have cE_16_2 : _ = some (Value.slice yb ym yd) := E_16.cell 2
  have G_16 := G_15.next hB_16
  have cG_16_0 : _ = some (Value.bool (qsg g0 11)) := G_16.cell 0
  have cG_16_1 : _ = some (Value.slice za zn zc) := G_16.cell 1
  have cG_16_2 : _ = some (Value.slice zb zm zd) := G_16.cell 2
  have Q_16 := Q_15.below hB_16
  have Ox_16 := Ox_15.below hB_16
  have Px_16 := Px_15.below hB_16
  have Oy_16 := Oy_15.below hB_16
  have Py_16 := Py_15.below hB_16
  have K_16 := K_15.below hB_16
  have J_16 := J_15.below hB_16
  have Oz_16 := Oz_15.below hB_16
  have Pz_16 := Pz_15.below hB_16
  have RD_16 := RD_15.below hB_16
  have hbel_16 := hbel_15.next hB_16
  have hsz_16 := hB_16.size
  clear X_15 cX_15_0 cX_15_1 cX_15_2 C_15 cC_15_0 cC_15_1 cC_15_2 D_15 cD_15_0 cD_15_1 cD_15_2 E_15 cE_15_0 cE_15_1 cE_15_2 G_15 cG_15_0 cG_15_1 cG_15_2 Q_15 Ox_15 Px_15 Oy_15 Py_15 K_15 J_15 Oz_15 Pz_15 RD_15 hbel_15 hB_16
  try clear hB
  go_wp2
  go_ret
  exact ⟨rfl, hbel_16⟩

set_option maxRecDepth 100000 in
set_option maxHeartbeats 8000000 in
theorem fracThereP {w : World} {a b : Option Addr} {n c m d : Nat} {la lb : List Nat} (s : Bool) (ha : Rd w a n c la) (hb : Rd w b m d lb) (k : Int) (h1 : -9223372036854775808 ≤ k) (h2 : k ≤ 9223372036854775807) (l : Int) (h3 : -9223372036854775808 ≤ l) (h4 : l ≤ 9223372036854775807) (hl : 0 < l) :
    Calls Try.prog 7 #[.agg #[.bool s, .slice a n c, .slice b m d], .int .i64 k, .int .i64 l] w (fun e w' => e = .returned (.bool true) ∧ Below w.heap.size w w') := by
  have HC := hid (fun w => (qof (w := w) k l h1 h2 h3 h4).mono fun e w' h => retqe_ok h (zE_pos (by omega)))
  have hT := fp_over k l.natAbs (s := ztx k ++ ⟨#[47]⟩ ++ txt (tx l.natAbs)) (ByteArray.append_assoc ..)
  have sk := szInt h1 h2
  have sl := szInt h3 h4
  have hz1 := ztx_size sk
  have hz2 := txt_sz sl
  have hsz : (ztx k ++ (⟨#[47]⟩ : ByteArray) ++ txt (tx l.natAbs)).size ≤ 46 := by
    rw [ByteArray.size_append, ByteArray.size_append]
    have : (⟨#[47]⟩ : ByteArray).size = 1 := rfl
    omega
  have hsz1 : (ztx k ++ (⟨#[47]⟩ : ByteArray)).size ≤ 24 := by
    rw [ByteArray.size_append]
    have : (⟨#[47]⟩ : ByteArray).size = 1 := rfl
    omega
  have HK := hid (fun w => zofi_any (w := w) k h1 h2)
  have HL := hid (fun w => zofi_any (w := w) l h3 h4)
  have skh := hid sk
  have slh := hid sl
  clear sk sl
  have HP := hid (fun w => qparse (w := w) _ (Nat.le_trans hsz (by omega)))
  rw [hT.1, hT.2] at HP
  have hqk := hid (divInt_szi h1 h2 h3 h4)
  have HP := hid (fun w => (HP.out w).mono fun e w' h => retqe_ok h (zE_pos (show ((l.natAbs : Nat) : Int) ≠ 0 by omega)))
  rw [show ((l.natAbs : Nat) : Int) = l by omega] at HP
  clear hT
  generalize hq1 : Rat.divInt k l = q at *
  clear hq1
  have hll : (l == 0) = false := by simp; omega
  have hll2 : (l != 0) = true := by simp; omega
  have hlt : decide (l < 0) = false := decide_eq_false (by omega)
  have hent := ent1 w #[Value.bool s, Value.slice a n c, Value.slice b m d] 32
  go_enter Try.func7, Try.ntmps7
  go_wp2_with fail
  generalize (w.alloc (.cells #[Value.bool s, Value.slice a n c, Value.slice b m d] 32)) = W0 at hent ⊢
  obtain ⟨X_0, hbel_0, hsz_0⟩ := hent
  have cX_0_0 : _ = some (Value.bool s) := X_0.cell 0
  have cX_0_1 : _ = some (Value.slice a n c) := X_0.cell 1
  have cX_0_2 : _ = some (Value.slice b m d) := X_0.cell 2
  have ha_0 := ha.below hbel_0
  clear ha
  have hb_0 := hb.below hbel_0
  clear hb
  go_wp2_with fail
  refine (fawake).mono ?_
  rintro e w1 ⟨rfl, hB⟩
  have hB_1 : Below W0.heap.size W0 w1 := (by first | exact hB | exact below_drew hB | exact bel_alloc hB | exact below_drew (bel_alloc hB) | exact bel_alloc (below_drew hB) | exact bel_alloc (bel_alloc hB))
  have X_1 := X_0.next hB_1
  have cX_1_0 : _ = some (Value.bool s) := X_1.cell 0
  have cX_1_1 : _ = some (Value.slice a n c) := X_1.cell 1
  have cX_1_2 : _ = some (Value.slice b m d) := X_1.cell 2
  have ha_1 := ha_0.below hB_1
  have hb_1 := hb_0.below hB_1
  have hbel_1 := hbel_0.next hB_1
  have hsz_1 := hB_1.size
  clear X_0 cX_0_0 cX_0_1 cX_0_2 ha_0 hb_0 hbel_0 hB_1
  try clear hB
  go_wp2_with fail
  refine (fcut 12 (by omega) ha_1 hb_1).mono ?_
  rintro e w2 ⟨n', l1, m', l2, rfl, hn', hm', hln, hlm, hR, hR', hB⟩
  have hB_2 : Below w1.heap.size w1 w2 := (by first | exact hB | exact below_drew hB | exact bel_alloc hB | exact below_drew (bel_alloc hB) | exact bel_alloc (below_drew hB) | exact bel_alloc (bel_alloc hB))
  have X_2 := X_1.next hB_2
  have cX_2_0 : _ = some (Value.bool s) := X_2.cell 0
  have cX_2_1 : _ = some (Value.slice a n c) := X_2.cell 1
  have cX_2_2 : _ = some (Value.slice b m d) := X_2.cell 2
  have ha_2 := ha_1.below hB_2
  have hb_2 := hb_1.below hB_2
  have hbel_2 := hbel_1.next hB_2
  have hsz_2 := hB_2.size
  clear X_1 cX_1_0 cX_1_1 cX_1_2 ha_1 hb_1 hbel_1 hB_2
  have A_2 := hR
  have B_2 := hR'
  clear hR hR'
  try clear hB
  have hbx := blk_new w2 #[Value.bool s, Value.slice a n' c, Value.slice b m' d] 32
  have hbB := (Below.refl w2.heap.size w2).alloc (Nat.le_refl _) (.cells #[Value.bool s, Value.slice a n' c, Value.slice b m' d] 32)
  have hltC := hbx.lt
  have hB_3 : Below w2.heap.size w2 (w2.alloc (.cells #[Value.bool s, Value.slice a n' c, Value.slice b m' d] 32)) := hbB
  have X_3 := X_2.next hB_3
  have cX_3_0 : _ = some (Value.bool s) := X_3.cell 0
  have cX_3_1 : _ = some (Value.slice a n c) := X_3.cell 1
  have cX_3_2 : _ = some (Value.slice b m d) := X_3.cell 2
  have ha_3 := ha_2.below hB_3
  have hb_3 := hb_2.below hB_3
  have A_3 := A_2.below hB_3
  have B_3 := B_2.below hB_3
  have hbel_3 := hbel_2.next hB_3
  have hsz_3 := hB_3.size
  clear hB_3
  have C_3 := hbx
  clear hbx hbB
  have cC_3_0 : _ = some (Value.bool s) := C_3.cell 0
  have cC_3_1 : _ = some (Value.slice a n' c) := C_3.cell 1
  have cC_3_2 : _ = some (Value.slice b m' d) := C_3.cell 2
  go_wp2_with fail
  clear X_2 cX_2_0 cX_2_1 cX_2_2 ha_2 hb_2 A_2 B_2 hbel_2
  generalize (w2.alloc (.cells #[Value.bool s, Value.slice a n' c, Value.slice b m' d] 32)) = v3 at *
  have HQX := hid (fun W (h : Rd W a n' c l1) (h' : Rd W b m' d l2) => rdq_of s h hn' h' hm')
  clear ha_3
  clear hb_3
  have Q_3 := HQX.out _ A_3 B_3
  clear A_3
  clear B_3
  clear HQX
  have hx := hid (show QS (qv s (val l1) (val l2)) 12 from Q_3.qs (by omega))
  generalize qv s (val l1) (val l2) = x at *
  have hxt := qtx_size hx.out
  have HX := hid (fun w => (qparse (w := w) (qtx x) (by omega)).mono fun e w' h => retqe_ok h (fp_qtx x).2)
  rw [(fp_qtx x).1] at HX
  have hc0 := hid (cmpQ_self x)
  go_wp2_with fail
  refine (qtext Q_3 (by omega)).mono ?_
  rintro e w4 ⟨rfl, hB⟩
  have hB_4 : Below v3.heap.size v3 w4 := (by first | exact hB | exact below_drew hB | exact bel_alloc hB | exact below_drew (bel_alloc hB) | exact bel_alloc (below_drew hB) | exact bel_alloc (bel_alloc hB))
  have X_4 := X_3.next hB_4
  have cX_4_0 : _ = some (Value.bool s) := X_4.cell 0
  have cX_4_1 : _ = some (Value.slice a n c) := X_4.cell 1
  have cX_4_2 : _ = some (Value.slice b m d) := X_4.cell 2
  have C_4 := C_3.next hB_4
  have cC_4_0 : _ = some (Value.bool s) := C_4.cell 0
  have cC_4_1 : _ = some (Value.slice a n' c) := C_4.cell 1
  have cC_4_2 : _ = some (Value.slice b m' d) := C_4.cell 2
  have Q_4 := Q_3.below hB_4
  have hbel_4 := hbel_3.next hB_4
  have hsz_4 := hB_4.size
  clear X_3 cX_3_0 cX_3_1 cX_3_2 C_3 cC_3_0 cC_3_1 cC_3_2 Q_3 hbel_3 hB_4
  try clear hB
  go_wp2_with fail
  refine (HX.out _).mono ?_
  rintro e w5 ⟨xa, xn, xc, xb, xm, xd, rfl, hO, hO', hDx, hB⟩
  have hB_5 : Below w4.heap.size w4 w5 := (by first | exact hB | exact below_drew hB | exact bel_alloc hB | exact below_drew (bel_alloc hB) | exact bel_alloc (below_drew hB) | exact bel_alloc (bel_alloc hB))
  have X_5 := X_4.next hB_5
  have cX_5_0 : _ = some (Value.bool s) := X_5.cell 0
  have cX_5_1 : _ = some (Value.slice a n c) := X_5.cell 1
  have cX_5_2 : _ = some (Value.slice b m d) := X_5.cell 2
  have C_5 := C_4.next hB_5
  have cC_5_0 : _ = some (Value.bool s) := C_5.cell 0
  have cC_5_1 : _ = some (Value.slice a n' c) := C_5.cell 1
  have cC_5_2 : _ = some (Value.slice b m' d) := C_5.cell 2
  have Q_5 := Q_4.below hB_5
  have hbel_5 := hbel_4.next hB_5
  have hsz_5 := hB_5.size
  clear X_4 cX_4_0 cX_4_1 cX_4_2 C_4 cC_4_0 cC_4_1 cC_4_2 Q_4 hbel_4 hB_5
  have Ox_5 := hO
  have ltOx := hO.ltB
  have Px_5 := hO'
  have ltPx := hO'.ltB
  clear hO hO'
  try clear hB
  have hbx := blk_new w5 #[Value.bool (decide ((x).num < 0)), Value.slice xa xn xc, Value.slice xb xm xd] 32
  have hbB := (Below.refl w5.heap.size w5).alloc (Nat.le_refl _) (.cells #[Value.bool (decide ((x).num < 0)), Value.slice xa xn xc, Value.slice xb xm xd] 32)
  have hltD := hbx.lt
  have hB_6 : Below w5.heap.size w5 (w5.alloc (.cells #[Value.bool (decide ((x).num < 0)), Value.slice xa xn xc, Value.slice xb xm xd] 32)) := hbB
  have X_6 := X_5.next hB_6
  have cX_6_0 : _ = some (Value.bool s) := X_6.cell 0
  have cX_6_1 : _ = some (Value.slice a n c) := X_6.cell 1
  have cX_6_2 : _ = some (Value.slice b m d) := X_6.cell 2
  have C_6 := C_5.next hB_6
  have cC_6_0 : _ = some (Value.bool s) := C_6.cell 0
  have cC_6_1 : _ = some (Value.slice a n' c) := C_6.cell 1
  have cC_6_2 : _ = some (Value.slice b m' d) := C_6.cell 2
  have Q_6 := Q_5.below hB_6
  have Ox_6 := Ox_5.below hB_6
  have Px_6 := Px_5.below hB_6
  have hbel_6 := hbel_5.next hB_6
  have hsz_6 := hB_6.size
  clear hB_6
  have D_6 := hbx
  clear hbx hbB
  have cD_6_0 : _ = some (Value.bool (decide ((x).num < 0))) := D_6.cell 0
  have cD_6_1 : _ = some (Value.slice xa xn xc) := D_6.cell 1
  have cD_6_2 : _ = some (Value.slice xb xm xd) := D_6.cell 2
  go_wp2_with fail
  clear X_5 cX_5_0 cX_5_1 cX_5_2 C_5 cC_5_0 cC_5_1 cC_5_2 Q_5 Ox_5 Px_5 hbel_5
  generalize (w5.alloc (.cells #[Value.bool (decide ((x).num < 0)), Value.slice xa xn xc, Value.slice xb xm xd] 32)) = v6 at *
  go_wp2_with fail
  refine (HC.out _).mono ?_
  rintro e w7 ⟨ya, yn, yc, yb, ym, yd, rfl, hO, hO', hDy, hB⟩
  have hB_7 : Below v6.heap.size v6 w7 := (by first | exact hB | exact below_drew hB | exact bel_alloc hB | exact below_drew (bel_alloc hB) | exact bel_alloc (below_drew hB) | exact bel_alloc (bel_alloc hB))
  have X_7 := X_6.next hB_7
  have cX_7_0 : _ = some (Value.bool s) := X_7.cell 0
  have cX_7_1 : _ = some (Value.slice a n c) := X_7.cell 1
  have cX_7_2 : _ = some (Value.slice b m d) := X_7.cell 2
  have C_7 := C_6.next hB_7
  have cC_7_0 : _ = some (Value.bool s) := C_7.cell 0
  have cC_7_1 : _ = some (Value.slice a n' c) := C_7.cell 1
  have cC_7_2 : _ = some (Value.slice b m' d) := C_7.cell 2
  have D_7 := D_6.next hB_7
  have cD_7_0 : _ = some (Value.bool (decide ((x).num < 0))) := D_7.cell 0
  have cD_7_1 : _ = some (Value.slice xa xn xc) := D_7.cell 1
  have cD_7_2 : _ = some (Value.slice xb xm xd) := D_7.cell 2
  have Q_7 := Q_6.below hB_7
  have Ox_7 := Ox_6.below hB_7
  have Px_7 := Px_6.below hB_7
  have hbel_7 := hbel_6.next hB_7
  have hsz_7 := hB_7.size
  clear X_6 cX_6_0 cX_6_1 cX_6_2 C_6 cC_6_0 cC_6_1 cC_6_2 D_6 cD_6_0 cD_6_1 cD_6_2 Q_6 Ox_6 Px_6 hbel_6 hB_7
  have Oy_7 := hO
  have ltOy := hO.ltB
  have Py_7 := hO'
  have ltPy := hO'.ltB
  clear hO hO'
  try clear hB
  have hbx := blk_new w7 #[Value.bool (decide ((q).num < 0)), Value.slice ya yn yc, Value.slice yb ym yd] 32
  have hbB := (Below.refl w7.heap.size w7).alloc (Nat.le_refl _) (.cells #[Value.bool (decide ((q).num < 0)), Value.slice ya yn yc, Value.slice yb ym yd] 32)
  have hltE := hbx.lt
  have hB_8 : Below w7.heap.size w7 (w7.alloc (.cells #[Value.bool (decide ((q).num < 0)), Value.slice ya yn yc, Value.slice yb ym yd] 32)) := hbB
  have X_8 := X_7.next hB_8
  have cX_8_0 : _ = some (Value.bool s) := X_8.cell 0
  have cX_8_1 : _ = some (Value.slice a n c) := X_8.cell 1
  have cX_8_2 : _ = some (Value.slice b m d) := X_8.cell 2
  have C_8 := C_7.next hB_8
  have cC_8_0 : _ = some (Value.bool s) := C_8.cell 0
  have cC_8_1 : _ = some (Value.slice a n' c) := C_8.cell 1
  have cC_8_2 : _ = some (Value.slice b m' d) := C_8.cell 2
  have D_8 := D_7.next hB_8
  have cD_8_0 : _ = some (Value.bool (decide ((x).num < 0))) := D_8.cell 0
  have cD_8_1 : _ = some (Value.slice xa xn xc) := D_8.cell 1
  have cD_8_2 : _ = some (Value.slice xb xm xd) := D_8.cell 2
  have Q_8 := Q_7.below hB_8
  have Ox_8 := Ox_7.below hB_8
  have Px_8 := Px_7.below hB_8
  have Oy_8 := Oy_7.below hB_8
  have Py_8 := Py_7.below hB_8
  have hbel_8 := hbel_7.next hB_8
  have hsz_8 := hB_8.size
  clear hB_8
  have E_8 := hbx
  clear hbx hbB
  have cE_8_0 : _ = some (Value.bool (decide ((q).num < 0))) := E_8.cell 0
  have cE_8_1 : _ = some (Value.slice ya yn yc) := E_8.cell 1
  have cE_8_2 : _ = some (Value.slice yb ym yd) := E_8.cell 2
  go_wp2_with fail
  clear X_7 cX_7_0 cX_7_1 cX_7_2 C_7 cC_7_0 cC_7_1 cC_7_2 D_7 cD_7_0 cD_7_1 cD_7_2 Q_7 Ox_7 Px_7 Oy_7 Py_7 hbel_7
  generalize (w7.alloc (.cells #[Value.bool (decide ((q).num < 0)), Value.slice ya yn yc, Value.slice yb ym yd] 32)) = v8 at *
  go_wp2_with fail
  refine (HK.out _).mono ?_
  rintro e w9 ⟨ka, kn, kc, rfl, hO, hB⟩
  have hB_9 : Below v8.heap.size v8 w9 := (by first | exact hB | exact below_drew hB | exact bel_alloc hB | exact below_drew (bel_alloc hB) | exact bel_alloc (below_drew hB) | exact bel_alloc (bel_alloc hB))
  have X_9 := X_8.next hB_9
  have cX_9_0 : _ = some (Value.bool s) := X_9.cell 0
  have cX_9_1 : _ = some (Value.slice a n c) := X_9.cell 1
  have cX_9_2 : _ = some (Value.slice b m d) := X_9.cell 2
  have C_9 := C_8.next hB_9
  have cC_9_0 : _ = some (Value.bool s) := C_9.cell 0
  have cC_9_1 : _ = some (Value.slice a n' c) := C_9.cell 1
  have cC_9_2 : _ = some (Value.slice b m' d) := C_9.cell 2
  have D_9 := D_8.next hB_9
  have cD_9_0 : _ = some (Value.bool (decide ((x).num < 0))) := D_9.cell 0
  have cD_9_1 : _ = some (Value.slice xa xn xc) := D_9.cell 1
  have cD_9_2 : _ = some (Value.slice xb xm xd) := D_9.cell 2
  have E_9 := E_8.next hB_9
  have cE_9_0 : _ = some (Value.bool (decide ((q).num < 0))) := E_9.cell 0
  have cE_9_1 : _ = some (Value.slice ya yn yc) := E_9.cell 1
  have cE_9_2 : _ = some (Value.slice yb ym yd) := E_9.cell 2
  have Q_9 := Q_8.below hB_9
  have Ox_9 := Ox_8.below hB_9
  have Px_9 := Px_8.below hB_9
  have Oy_9 := Oy_8.below hB_9
  have Py_9 := Py_8.below hB_9
  have hbel_9 := hbel_8.next hB_9
  have hsz_9 := hB_9.size
  clear X_8 cX_8_0 cX_8_1 cX_8_2 C_8 cC_8_0 cC_8_1 cC_8_2 D_8 cD_8_0 cD_8_1 cD_8_2 E_8 cE_8_0 cE_8_1 cE_8_2 Q_8 Ox_8 Px_8 Oy_8 Py_8 hbel_8 hB_9
  have K_9 := hO.rdZ skh.out
  clear hO
  try clear hB
  go_wp2_with fail
  refine (ztextR K_9 (by omega)).mono ?_
  rintro e w10 ⟨rfl, hB⟩
  have hB_10 : Below w9.heap.size w9 w10 := (by first | exact hB | exact below_drew hB | exact bel_alloc hB | exact below_drew (bel_alloc hB) | exact bel_alloc (below_drew hB) | exact bel_alloc (bel_alloc hB))
  have X_10 := X_9.next hB_10
  have cX_10_0 : _ = some (Value.bool s) := X_10.cell 0
  have cX_10_1 : _ = some (Value.slice a n c) := X_10.cell 1
  have cX_10_2 : _ = some (Value.slice b m d) := X_10.cell 2
  have C_10 := C_9.next hB_10
  have cC_10_0 : _ = some (Value.bool s) := C_10.cell 0
  have cC_10_1 : _ = some (Value.slice a n' c) := C_10.cell 1
  have cC_10_2 : _ = some (Value.slice b m' d) := C_10.cell 2
  have D_10 := D_9.next hB_10
  have cD_10_0 : _ = some (Value.bool (decide ((x).num < 0))) := D_10.cell 0
  have cD_10_1 : _ = some (Value.slice xa xn xc) := D_10.cell 1
  have cD_10_2 : _ = some (Value.slice xb xm xd) := D_10.cell 2
  have E_10 := E_9.next hB_10
  have cE_10_0 : _ = some (Value.bool (decide ((q).num < 0))) := E_10.cell 0
  have cE_10_1 : _ = some (Value.slice ya yn yc) := E_10.cell 1
  have cE_10_2 : _ = some (Value.slice yb ym yd) := E_10.cell 2
  have Q_10 := Q_9.below hB_10
  have Ox_10 := Ox_9.below hB_10
  have Px_10 := Px_9.below hB_10
  have Oy_10 := Oy_9.below hB_10
  have Py_10 := Py_9.below hB_10
  have K_10 := K_9.below hB_10
  have hbel_10 := hbel_9.next hB_10
  have hsz_10 := hB_10.size
  clear X_9 cX_9_0 cX_9_1 cX_9_2 C_9 cC_9_0 cC_9_1 cC_9_2 D_9 cD_9_0 cD_9_1 cD_9_2 E_9 cE_9_0 cE_9_1 cE_9_2 Q_9 Ox_9 Px_9 Oy_9 Py_9 K_9 hbel_9 hB_10
  try clear hB
  go_wp2_with fail
  refine (HL.out _).mono ?_
  rintro e w11 ⟨ja, jn, jc, rfl, hO, hB⟩
  have hB_11 : Below w10.heap.size w10 w11 := (by first | exact hB | exact below_drew hB | exact bel_alloc hB | exact below_drew (bel_alloc hB) | exact bel_alloc (below_drew hB) | exact bel_alloc (bel_alloc hB))
  have X_11 := X_10.next hB_11
  have cX_11_0 : _ = some (Value.bool s) := X_11.cell 0
  have cX_11_1 : _ = some (Value.slice a n c) := X_11.cell 1
  have cX_11_2 : _ = some (Value.slice b m d) := X_11.cell 2
  have C_11 := C_10.next hB_11
  have cC_11_0 : _ = some (Value.bool s) := C_11.cell 0
  have cC_11_1 : _ = some (Value.slice a n' c) := C_11.cell 1
  have cC_11_2 : _ = some (Value.slice b m' d) := C_11.cell 2
  have D_11 := D_10.next hB_11
  have cD_11_0 : _ = some (Value.bool (decide ((x).num < 0))) := D_11.cell 0
  have cD_11_1 : _ = some (Value.slice xa xn xc) := D_11.cell 1
  have cD_11_2 : _ = some (Value.slice xb xm xd) := D_11.cell 2
  have E_11 := E_10.next hB_11
  have cE_11_0 : _ = some (Value.bool (decide ((q).num < 0))) := E_11.cell 0
  have cE_11_1 : _ = some (Value.slice ya yn yc) := E_11.cell 1
  have cE_11_2 : _ = some (Value.slice yb ym yd) := E_11.cell 2
  have Q_11 := Q_10.below hB_11
  have Ox_11 := Ox_10.below hB_11
  have Px_11 := Px_10.below hB_11
  have Oy_11 := Oy_10.below hB_11
  have Py_11 := Py_10.below hB_11
  have K_11 := K_10.below hB_11
  have hbel_11 := hbel_10.next hB_11
  have hsz_11 := hB_11.size
  clear X_10 cX_10_0 cX_10_1 cX_10_2 C_10 cC_10_0 cC_10_1 cC_10_2 D_10 cD_10_0 cD_10_1 cD_10_2 E_10 cE_10_0 cE_10_1 cE_10_2 Q_10 Ox_10 Px_10 Oy_10 Py_10 K_10 hbel_10 hB_11
  have J_11 := hO.rdN slh.out
  clear hO
  have hfm := field_mag
  try clear hB
  go_wp2_with fail
  refine (ntextR J_11 (by omega)).mono ?_
  rintro e w12 ⟨rfl, hB⟩
  have hB_12 : Below w11.heap.size w11 w12 := (by first | exact hB | exact below_drew hB | exact bel_alloc hB | exact below_drew (bel_alloc hB) | exact bel_alloc (below_drew hB) | exact bel_alloc (bel_alloc hB))
  have X_12 := X_11.next hB_12
  have cX_12_0 : _ = some (Value.bool s) := X_12.cell 0
  have cX_12_1 : _ = some (Value.slice a n c) := X_12.cell 1
  have cX_12_2 : _ = some (Value.slice b m d) := X_12.cell 2
  have C_12 := C_11.next hB_12
  have cC_12_0 : _ = some (Value.bool s) := C_12.cell 0
  have cC_12_1 : _ = some (Value.slice a n' c) := C_12.cell 1
  have cC_12_2 : _ = some (Value.slice b m' d) := C_12.cell 2
  have D_12 := D_11.next hB_12
  have cD_12_0 : _ = some (Value.bool (decide ((x).num < 0))) := D_12.cell 0
  have cD_12_1 : _ = some (Value.slice xa xn xc) := D_12.cell 1
  have cD_12_2 : _ = some (Value.slice xb xm xd) := D_12.cell 2
  have E_12 := E_11.next hB_12
  have cE_12_0 : _ = some (Value.bool (decide ((q).num < 0))) := E_12.cell 0
  have cE_12_1 : _ = some (Value.slice ya yn yc) := E_12.cell 1
  have cE_12_2 : _ = some (Value.slice yb ym yd) := E_12.cell 2
  have Q_12 := Q_11.below hB_12
  have Ox_12 := Ox_11.below hB_12
  have Px_12 := Px_11.below hB_12
  have Oy_12 := Oy_11.below hB_12
  have Py_12 := Py_11.below hB_12
  have K_12 := K_11.below hB_12
  have J_12 := J_11.below hB_12
  have hbel_12 := hbel_11.next hB_12
  have hsz_12 := hB_12.size
  clear X_11 cX_11_0 cX_11_1 cX_11_2 C_11 cC_11_0 cC_11_1 cC_11_2 D_11 cD_11_0 cD_11_1 cD_11_2 E_11 cE_11_0 cE_11_1 cE_11_2 Q_11 Ox_11 Px_11 Oy_11 Py_11 K_11 J_11 hbel_11 hB_12
  try clear hB
  go_wp2_with fail
  refine (HP.out _).mono ?_
  rintro e w13 ⟨za, zn, zc, zb, zm, zd, rfl, hO, hO', hDz, hB⟩
  have hB_13 : Below w12.heap.size w12 w13 := (by first | exact hB | exact below_drew hB | exact bel_alloc hB | exact below_drew (bel_alloc hB) | exact bel_alloc (below_drew hB) | exact bel_alloc (bel_alloc hB))
  have X_13 := X_12.next hB_13
  have cX_13_0 : _ = some (Value.bool s) := X_13.cell 0
  have cX_13_1 : _ = some (Value.slice a n c) := X_13.cell 1
  have cX_13_2 : _ = some (Value.slice b m d) := X_13.cell 2
  have C_13 := C_12.next hB_13
  have cC_13_0 : _ = some (Value.bool s) := C_13.cell 0
  have cC_13_1 : _ = some (Value.slice a n' c) := C_13.cell 1
  have cC_13_2 : _ = some (Value.slice b m' d) := C_13.cell 2
  have D_13 := D_12.next hB_13
  have cD_13_0 : _ = some (Value.bool (decide ((x).num < 0))) := D_13.cell 0
  have cD_13_1 : _ = some (Value.slice xa xn xc) := D_13.cell 1
  have cD_13_2 : _ = some (Value.slice xb xm xd) := D_13.cell 2
  have E_13 := E_12.next hB_13
  have cE_13_0 : _ = some (Value.bool (decide ((q).num < 0))) := E_13.cell 0
  have cE_13_1 : _ = some (Value.slice ya yn yc) := E_13.cell 1
  have cE_13_2 : _ = some (Value.slice yb ym yd) := E_13.cell 2
  have Q_13 := Q_12.below hB_13
  have Ox_13 := Ox_12.below hB_13
  have Px_13 := Px_12.below hB_13
  have Oy_13 := Oy_12.below hB_13
  have Py_13 := Py_12.below hB_13
  have K_13 := K_12.below hB_13
  have J_13 := J_12.below hB_13
  have hbel_13 := hbel_12.next hB_13
  have hsz_13 := hB_13.size
  clear X_12 cX_12_0 cX_12_1 cX_12_2 C_12 cC_12_0 cC_12_1 cC_12_2 D_12 cD_12_0 cD_12_1 cD_12_2 E_12 cE_12_0 cE_12_1 cE_12_2 Q_12 Ox_12 Px_12 Oy_12 Py_12 K_12 J_12 hbel_12 hB_13
  have Oz_13 := hO
  have ltOz := hO.ltB
  have Pz_13 := hO'
  have ltPz := hO'.ltB
  clear hO hO'
  try clear hB
  have hbx := blk_new w13 #[Value.bool (decide ((q).num < 0)), Value.slice za zn zc, Value.slice zb zm zd] 32
  have hbB := (Below.refl w13.heap.size w13).alloc (Nat.le_refl _) (.cells #[Value.bool (decide ((q).num < 0)), Value.slice za zn zc, Value.slice zb zm zd] 32)
  have hltG := hbx.lt
  have hB_14 : Below w13.heap.size w13 (w13.alloc (.cells #[Value.bool (decide ((q).num < 0)), Value.slice za zn zc, Value.slice zb zm zd] 32)) := hbB
  have X_14 := X_13.next hB_14
  have cX_14_0 : _ = some (Value.bool s) := X_14.cell 0
  have cX_14_1 : _ = some (Value.slice a n c) := X_14.cell 1
  have cX_14_2 : _ = some (Value.slice b m d) := X_14.cell 2
  have C_14 := C_13.next hB_14
  have cC_14_0 : _ = some (Value.bool s) := C_14.cell 0
  have cC_14_1 : _ = some (Value.slice a n' c) := C_14.cell 1
  have cC_14_2 : _ = some (Value.slice b m' d) := C_14.cell 2
  have D_14 := D_13.next hB_14
  have cD_14_0 : _ = some (Value.bool (decide ((x).num < 0))) := D_14.cell 0
  have cD_14_1 : _ = some (Value.slice xa xn xc) := D_14.cell 1
  have cD_14_2 : _ = some (Value.slice xb xm xd) := D_14.cell 2
  have E_14 := E_13.next hB_14
  have cE_14_0 : _ = some (Value.bool (decide ((q).num < 0))) := E_14.cell 0
  have cE_14_1 : _ = some (Value.slice ya yn yc) := E_14.cell 1
  have cE_14_2 : _ = some (Value.slice yb ym yd) := E_14.cell 2
  have Q_14 := Q_13.below hB_14
  have Ox_14 := Ox_13.below hB_14
  have Px_14 := Px_13.below hB_14
  have Oy_14 := Oy_13.below hB_14
  have Py_14 := Py_13.below hB_14
  have K_14 := K_13.below hB_14
  have J_14 := J_13.below hB_14
  have Oz_14 := Oz_13.below hB_14
  have Pz_14 := Pz_13.below hB_14
  have hbel_14 := hbel_13.next hB_14
  have hsz_14 := hB_14.size
  clear hB_14
  have G_14 := hbx
  clear hbx hbB
  have cG_14_0 : _ = some (Value.bool (decide ((q).num < 0))) := G_14.cell 0
  have cG_14_1 : _ = some (Value.slice za zn zc) := G_14.cell 1
  have cG_14_2 : _ = some (Value.slice zb zm zd) := G_14.cell 2
  go_wp2_with fail
  clear X_13 cX_13_0 cX_13_1 cX_13_2 C_13 cC_13_0 cC_13_1 cC_13_2 D_13 cD_13_0 cD_13_1 cD_13_2 E_13 cE_13_0 cE_13_1 cE_13_2 Q_13 Ox_13 Px_13 Oy_13 Py_13 K_13 J_13 Oz_13 Pz_13 hbel_13
  generalize (w13.alloc (.cells #[Value.bool (decide ((q).num < 0)), Value.slice za zn zc, Value.slice zb zm zd] 32)) = v14 at *
  have RD_14 := Ox_14.rdQ Px_14 hx.out
  go_wp2_with fail
  refine (qcmp Q_14 (by omega) RD_14 (by omega)).mono ?_
  rw [hc0.out]
  rintro e w15 ⟨rfl, hB⟩
  have hB_15 : Below v14.heap.size v14 w15 := (by first | exact hB | exact below_drew hB | exact bel_alloc hB | exact below_drew (bel_alloc hB) | exact bel_alloc (below_drew hB) | exact bel_alloc (bel_alloc hB))
  have X_15 := X_14.next hB_15
  have cX_15_0 : _ = some (Value.bool s) := X_15.cell 0
  have cX_15_1 : _ = some (Value.slice a n c) := X_15.cell 1
  have cX_15_2 : _ = some (Value.slice b m d) := X_15.cell 2
  have C_15 := C_14.next hB_15
  have cC_15_0 : _ = some (Value.bool s) := C_15.cell 0
  have cC_15_1 : _ = some (Value.slice a n' c) := C_15.cell 1
  have cC_15_2 : _ = some (Value.slice b m' d) := C_15.cell 2
  have D_15 := D_14.next hB_15
  have cD_15_0 : _ = some (Value.bool (decide ((x).num < 0))) := D_15.cell 0
  have cD_15_1 : _ = some (Value.slice xa xn xc) := D_15.cell 1
  have cD_15_2 : _ = some (Value.slice xb xm xd) := D_15.cell 2
  have E_15 := E_14.next hB_15
  have cE_15_0 : _ = some (Value.bool (decide ((q).num < 0))) := E_15.cell 0
  have cE_15_1 : _ = some (Value.slice ya yn yc) := E_15.cell 1
  have cE_15_2 : _ = some (Value.slice yb ym yd) := E_15.cell 2
  have G_15 := G_14.next hB_15
  have cG_15_0 : _ = some (Value.bool (decide ((q).num < 0))) := G_15.cell 0
  have cG_15_1 : _ = some (Value.slice za zn zc) := G_15.cell 1
  have cG_15_2 : _ = some (Value.slice zb zm zd) := G_15.cell 2
  have Q_15 := Q_14.below hB_15
  have Ox_15 := Ox_14.below hB_15
  have Px_15 := Px_14.below hB_15
  have Oy_15 := Oy_14.below hB_15
  have Py_15 := Py_14.below hB_15
  have K_15 := K_14.below hB_15
  have J_15 := J_14.below hB_15
  have Oz_15 := Oz_14.below hB_15
  have Pz_15 := Pz_14.below hB_15
  have RD_15 := RD_14.below hB_15
  have hbel_15 := hbel_14.next hB_15
  have hsz_15 := hB_15.size
  clear X_14 cX_14_0 cX_14_1 cX_14_2 C_14 cC_14_0 cC_14_1 cC_14_2 D_14 cD_14_0 cD_14_1 cD_14_2 E_14 cE_14_0 cE_14_1 cE_14_2 G_14 cG_14_0 cG_14_1 cG_14_2 Q_14 Ox_14 Px_14 Oy_14 Py_14 K_14 J_14 Oz_14 Pz_14 RD_14 hbel_14 hB_15
  try clear hB
  go_wp2_with fail
  refine (flowest Ox_15 Px_15 hx.out (by omega)).mono ?_
  rintro e w16 ⟨rfl, hB⟩
  have hB_16 : Below w15.heap.size w15 w16 := (by first | exact hB | exact below_drew hB | exact bel_alloc hB | exact below_drew (bel_alloc hB) | exact bel_alloc (below_drew hB) | exact bel_alloc (bel_alloc hB))
  have X_16 := X_15.next hB_16
  have cX_16_0 : _ = some (Value.bool s) := X_16.cell 0
  have cX_16_1 : _ = some (Value.slice a n c) := X_16.cell 1
  have cX_16_2 : _ = some (Value.slice b m d) := X_16.cell 2
  have C_16 := C_15.next hB_16
  have cC_16_0 : _ = some (Value.bool s) := C_16.cell 0
  have cC_16_1 : _ = some (Value.slice a n' c) := C_16.cell 1
  have cC_16_2 : _ = some (Value.slice b m' d) := C_16.cell 2
  have D_16 := D_15.next hB_16
  have cD_16_0 : _ = some (Value.bool (decide ((x).num < 0))) := D_16.cell 0
  have cD_16_1 : _ = some (Value.slice xa xn xc) := D_16.cell 1
  have cD_16_2 : _ = some (Value.slice xb xm xd) := D_16.cell 2
  have E_16 := E_15.next hB_16
  have cE_16_0 : _ = some (Value.bool (decide ((q).num < 0))) := E_16.cell 0
  have cE_16_1 : _ = some (Value.slice ya yn yc) := E_16.cell 1
  have cE_16_2 : _ = some (Value.slice yb ym yd) := E_16.cell 2
  have G_16 := G_15.next hB_16
  have cG_16_0 : _ = some (Value.bool (decide ((q).num < 0))) := G_16.cell 0
  have cG_16_1 : _ = some (Value.slice za zn zc) := G_16.cell 1
  have cG_16_2 : _ = some (Value.slice zb zm zd) := G_16.cell 2
  have Q_16 := Q_15.below hB_16
  have Ox_16 := Ox_15.below hB_16
  have Px_16 := Px_15.below hB_16
  have Oy_16 := Oy_15.below hB_16
  have Py_16 := Py_15.below hB_16
  have K_16 := K_15.below hB_16
  have J_16 := J_15.below hB_16
  have Oz_16 := Oz_15.below hB_16
  have Pz_16 := Pz_15.below hB_16
  have RD_16 := RD_15.below hB_16
  have hbel_16 := hbel_15.next hB_16
  have hsz_16 := hB_16.size
  clear X_15 cX_15_0 cX_15_1 cX_15_2 C_15 cC_15_0 cC_15_1 cC_15_2 D_15 cD_15_0 cD_15_1 cD_15_2 E_15 cE_15_0 cE_15_1 cE_15_2 G_15 cG_15_0 cG_15_1 cG_15_2 Q_15 Ox_15 Px_15 Oy_15 Py_15 K_15 J_15 Oz_15 Pz_15 RD_15 hbel_15 hB_16
  try clear hB
  go_wp2_with fail
  refine (falike Oy_16 Py_16 Oz_16 Pz_16 hqk.out (by omega) rfl).mono ?_
  rintro e w17 ⟨rfl, hB⟩
  have hB_17 : Below w16.heap.size w16 w17 := (by first | exact hB | exact below_drew hB | exact bel_alloc hB | exact below_drew (bel_alloc hB) | exact bel_alloc (below_drew hB) | exact bel_alloc (bel_alloc hB))
  have X_17 := X_16.next hB_17
  have cX_17_0 : _ = some (Value.bool s) := X_17.cell 0
  have cX_17_1 : _ = some (Value.slice a n c) := X_17.cell 1
  have cX_17_2 : _ = some (Value.slice b m d) := X_17.cell 2
  have C_17 := C_16.next hB_17
  have cC_17_0 : _ = some (Value.bool s) := C_17.cell 0
  have cC_17_1 : _ = some (Value.slice a n' c) := C_17.cell 1
  have cC_17_2 : _ = some (Value.slice b m' d) := C_17.cell 2
  have D_17 := D_16.next hB_17
  have cD_17_0 : _ = some (Value.bool (decide ((x).num < 0))) := D_17.cell 0
  have cD_17_1 : _ = some (Value.slice xa xn xc) := D_17.cell 1
  have cD_17_2 : _ = some (Value.slice xb xm xd) := D_17.cell 2
  have E_17 := E_16.next hB_17
  have cE_17_0 : _ = some (Value.bool (decide ((q).num < 0))) := E_17.cell 0
  have cE_17_1 : _ = some (Value.slice ya yn yc) := E_17.cell 1
  have cE_17_2 : _ = some (Value.slice yb ym yd) := E_17.cell 2
  have G_17 := G_16.next hB_17
  have cG_17_0 : _ = some (Value.bool (decide ((q).num < 0))) := G_17.cell 0
  have cG_17_1 : _ = some (Value.slice za zn zc) := G_17.cell 1
  have cG_17_2 : _ = some (Value.slice zb zm zd) := G_17.cell 2
  have Q_17 := Q_16.below hB_17
  have Ox_17 := Ox_16.below hB_17
  have Px_17 := Px_16.below hB_17
  have Oy_17 := Oy_16.below hB_17
  have Py_17 := Py_16.below hB_17
  have K_17 := K_16.below hB_17
  have J_17 := J_16.below hB_17
  have Oz_17 := Oz_16.below hB_17
  have Pz_17 := Pz_16.below hB_17
  have RD_17 := RD_16.below hB_17
  have hbel_17 := hbel_16.next hB_17
  have hsz_17 := hB_17.size
  clear X_16 cX_16_0 cX_16_1 cX_16_2 C_16 cC_16_0 cC_16_1 cC_16_2 D_16 cD_16_0 cD_16_1 cD_16_2 E_16 cE_16_0 cE_16_1 cE_16_2 G_16 cG_16_0 cG_16_1 cG_16_2 Q_16 Ox_16 Px_16 Oy_16 Py_16 K_16 J_16 Oz_16 Pz_16 RD_16 hbel_16 hB_17
  try clear hB
  go_wp2
  go_ret
  exact ⟨rfl, hbel_17⟩

set_option maxRecDepth 100000 in
set_option maxHeartbeats 8000000 in
theorem fracThereN {w : World} {a b : Option Addr} {n c m d : Nat} {la lb : List Nat} (s : Bool) (ha : Rd w a n c la) (hb : Rd w b m d lb) (k : Int) (h1 : -9223372036854775808 ≤ k) (h2 : k ≤ 9223372036854775807) (l : Int) (h3 : -9223372036854775808 ≤ l) (h4 : l ≤ 9223372036854775807) (hl : l < 0) :
    Calls Try.prog 7 #[.agg #[.bool s, .slice a n c, .slice b m d], .int .i64 k, .int .i64 l] w (fun e w' => e = .returned (.bool true) ∧ Below w.heap.size w w') := by
  have HC := hid (fun w => (qof (w := w) k l h1 h2 h3 h4).mono fun e w' h => retqe_ok h (zE_pos (by omega)))
  have hT := fp_over k l.natAbs (s := ztx k ++ ⟨#[47]⟩ ++ txt (tx l.natAbs)) (ByteArray.append_assoc ..)
  have sk := szInt h1 h2
  have sl := szInt h3 h4
  have hz1 := ztx_size sk
  have hz2 := txt_sz sl
  have hsz : (ztx k ++ (⟨#[47]⟩ : ByteArray) ++ txt (tx l.natAbs)).size ≤ 46 := by
    rw [ByteArray.size_append, ByteArray.size_append]
    have : (⟨#[47]⟩ : ByteArray).size = 1 := rfl
    omega
  have hsz1 : (ztx k ++ (⟨#[47]⟩ : ByteArray)).size ≤ 24 := by
    rw [ByteArray.size_append]
    have : (⟨#[47]⟩ : ByteArray).size = 1 := rfl
    omega
  have HK := hid (fun w => zofi_any (w := w) k h1 h2)
  have HL := hid (fun w => zofi_any (w := w) l h3 h4)
  have skh := hid sk
  have slh := hid sl
  clear sk sl
  have HP := hid (fun w => qparse (w := w) _ (Nat.le_trans hsz (by omega)))
  rw [hT.1, hT.2] at HP
  have hqk := hid (divInt_szi h1 h2 h3 h4)
  have HP := hid (fun w => (HP.out w).mono fun e w' h => retqe_ok h (zE_pos (show ((l.natAbs : Nat) : Int) ≠ 0 by omega)))
  have hng : -(Rat.divInt k ((l.natAbs : Nat) : Int)) = Rat.divInt k l := by rw [Rat.neg_divInt, show ((l.natAbs : Nat) : Int) = -l by omega, Rat.divInt_neg', Int.neg_neg]
  have hqg := hid (show QS (Rat.divInt k ((l.natAbs : Nat) : Int)) 2 by have := hqk.out.neg; rw [← hng, Rat.neg_neg] at this; exact this)
  have hngh := hid hng
  clear hng
  clear hT
  generalize hq0 : Rat.divInt k ((l.natAbs : Nat) : Int) = g0 at *
  clear hq0
  generalize hq1 : Rat.divInt k l = q at *
  clear hq1
  have hll : (l == 0) = false := by simp; omega
  have hll2 : (l != 0) = true := by simp; omega
  have hlt : decide (l < 0) = true := decide_eq_true hl
  have HA := hid ha
  have HB := hid hb
  have hent := ent1 w #[Value.bool s, Value.slice a n c, Value.slice b m d] 32
  go_enter Try.func7, Try.ntmps7
  go_wp2_with fail
  generalize (w.alloc (.cells #[Value.bool s, Value.slice a n c, Value.slice b m d] 32)) = W0 at hent ⊢
  obtain ⟨X_0, hbel_0, hsz_0⟩ := hent
  have cX_0_0 : _ = some (Value.bool s) := X_0.cell 0
  have cX_0_1 : _ = some (Value.slice a n c) := X_0.cell 1
  have cX_0_2 : _ = some (Value.slice b m d) := X_0.cell 2
  have ha_0 := ha.below hbel_0
  clear ha
  have hb_0 := hb.below hbel_0
  clear hb
  go_wp2_with fail
  refine (fawake).mono ?_
  rintro e w1 ⟨rfl, hB⟩
  have hB_1 : Below W0.heap.size W0 w1 := (by first | exact hB | exact below_drew hB | exact bel_alloc hB | exact below_drew (bel_alloc hB) | exact bel_alloc (below_drew hB) | exact bel_alloc (bel_alloc hB))
  have X_1 := X_0.next hB_1
  have cX_1_0 : _ = some (Value.bool s) := X_1.cell 0
  have cX_1_1 : _ = some (Value.slice a n c) := X_1.cell 1
  have cX_1_2 : _ = some (Value.slice b m d) := X_1.cell 2
  have ha_1 := ha_0.below hB_1
  have hb_1 := hb_0.below hB_1
  have hbel_1 := hbel_0.next hB_1
  have hsz_1 := hB_1.size
  clear X_0 cX_0_0 cX_0_1 cX_0_2 ha_0 hb_0 hbel_0 hB_1
  try clear hB
  go_wp2_with fail
  refine (fcut 12 (by omega) ha_1 hb_1).mono ?_
  rintro e w2 ⟨n', l1, m', l2, rfl, hn', hm', hln, hlm, hR, hR', hB⟩
  have hB_2 : Below w1.heap.size w1 w2 := (by first | exact hB | exact below_drew hB | exact bel_alloc hB | exact below_drew (bel_alloc hB) | exact bel_alloc (below_drew hB) | exact bel_alloc (bel_alloc hB))
  have X_2 := X_1.next hB_2
  have cX_2_0 : _ = some (Value.bool s) := X_2.cell 0
  have cX_2_1 : _ = some (Value.slice a n c) := X_2.cell 1
  have cX_2_2 : _ = some (Value.slice b m d) := X_2.cell 2
  have ha_2 := ha_1.below hB_2
  have hb_2 := hb_1.below hB_2
  have hbel_2 := hbel_1.next hB_2
  have hsz_2 := hB_2.size
  clear X_1 cX_1_0 cX_1_1 cX_1_2 ha_1 hb_1 hbel_1 hB_2
  have A_2 := hR
  have B_2 := hR'
  clear hR hR'
  try clear hB
  have hbx := blk_new w2 #[Value.bool s, Value.slice a n' c, Value.slice b m' d] 32
  have hbB := (Below.refl w2.heap.size w2).alloc (Nat.le_refl _) (.cells #[Value.bool s, Value.slice a n' c, Value.slice b m' d] 32)
  have hltC := hbx.lt
  have hB_3 : Below w2.heap.size w2 (w2.alloc (.cells #[Value.bool s, Value.slice a n' c, Value.slice b m' d] 32)) := hbB
  have X_3 := X_2.next hB_3
  have cX_3_0 : _ = some (Value.bool s) := X_3.cell 0
  have cX_3_1 : _ = some (Value.slice a n c) := X_3.cell 1
  have cX_3_2 : _ = some (Value.slice b m d) := X_3.cell 2
  have ha_3 := ha_2.below hB_3
  have hb_3 := hb_2.below hB_3
  have A_3 := A_2.below hB_3
  have B_3 := B_2.below hB_3
  have hbel_3 := hbel_2.next hB_3
  have hsz_3 := hB_3.size
  clear hB_3
  have C_3 := hbx
  clear hbx hbB
  have cC_3_0 : _ = some (Value.bool s) := C_3.cell 0
  have cC_3_1 : _ = some (Value.slice a n' c) := C_3.cell 1
  have cC_3_2 : _ = some (Value.slice b m' d) := C_3.cell 2
  go_wp2_with fail
  clear X_2 cX_2_0 cX_2_1 cX_2_2 ha_2 hb_2 A_2 B_2 hbel_2
  generalize (w2.alloc (.cells #[Value.bool s, Value.slice a n' c, Value.slice b m' d] 32)) = v3 at *
  have HQX := hid (fun W (h : Rd W a n' c l1) (h' : Rd W b m' d l2) => rdq_of s h hn' h' hm')
  clear ha_3
  clear hb_3
  have Q_3 := HQX.out _ A_3 B_3
  have hx := hid (show QS (qv s (val l1) (val l2)) 12 from Q_3.qs (by omega))
  generalize qv s (val l1) (val l2) = x at *
  have hxt := qtx_size hx.out
  have HX := hid (fun w => (qparse (w := w) (qtx x) (by omega)).mono fun e w' h => retqe_ok h (fp_qtx x).2)
  rw [(fp_qtx x).1] at HX
  have hc0 := hid (cmpQ_self x)
  go_wp2_with fail
  refine (qtext Q_3 (by omega)).mono ?_
  rintro e w4 ⟨rfl, hB⟩
  have hB_4 : Below v3.heap.size v3 w4 := (by first | exact hB | exact below_drew hB | exact bel_alloc hB | exact below_drew (bel_alloc hB) | exact bel_alloc (below_drew hB) | exact bel_alloc (bel_alloc hB))
  have X_4 := X_3.next hB_4
  have cX_4_0 : _ = some (Value.bool s) := X_4.cell 0
  have cX_4_1 : _ = some (Value.slice a n c) := X_4.cell 1
  have cX_4_2 : _ = some (Value.slice b m d) := X_4.cell 2
  have C_4 := C_3.next hB_4
  have cC_4_0 : _ = some (Value.bool s) := C_4.cell 0
  have cC_4_1 : _ = some (Value.slice a n' c) := C_4.cell 1
  have cC_4_2 : _ = some (Value.slice b m' d) := C_4.cell 2
  have A_4 := A_3.below hB_4
  have B_4 := B_3.below hB_4
  have Q_4 := Q_3.below hB_4
  have hbel_4 := hbel_3.next hB_4
  have hsz_4 := hB_4.size
  clear X_3 cX_3_0 cX_3_1 cX_3_2 C_3 cC_3_0 cC_3_1 cC_3_2 A_3 B_3 Q_3 hbel_3 hB_4
  try clear hB
  go_wp2_with fail
  refine (HX.out _).mono ?_
  rintro e w5 ⟨xa, xn, xc, xb, xm, xd, rfl, hO, hO', hDx, hB⟩
  have hB_5 : Below w4.heap.size w4 w5 := (by first | exact hB | exact below_drew hB | exact bel_alloc hB | exact below_drew (bel_alloc hB) | exact bel_alloc (below_drew hB) | exact bel_alloc (bel_alloc hB))
  have X_5 := X_4.next hB_5
  have cX_5_0 : _ = some (Value.bool s) := X_5.cell 0
  have cX_5_1 : _ = some (Value.slice a n c) := X_5.cell 1
  have cX_5_2 : _ = some (Value.slice b m d) := X_5.cell 2
  have C_5 := C_4.next hB_5
  have cC_5_0 : _ = some (Value.bool s) := C_5.cell 0
  have cC_5_1 : _ = some (Value.slice a n' c) := C_5.cell 1
  have cC_5_2 : _ = some (Value.slice b m' d) := C_5.cell 2
  have A_5 := A_4.below hB_5
  have B_5 := B_4.below hB_5
  have Q_5 := Q_4.below hB_5
  have hbel_5 := hbel_4.next hB_5
  have hsz_5 := hB_5.size
  clear X_4 cX_4_0 cX_4_1 cX_4_2 C_4 cC_4_0 cC_4_1 cC_4_2 A_4 B_4 Q_4 hbel_4 hB_5
  have Ox_5 := hO
  have ltOx := hO.ltB
  have Px_5 := hO'
  have ltPx := hO'.ltB
  clear hO hO'
  try clear hB
  have hbx := blk_new w5 #[Value.bool (decide ((x).num < 0)), Value.slice xa xn xc, Value.slice xb xm xd] 32
  have hbB := (Below.refl w5.heap.size w5).alloc (Nat.le_refl _) (.cells #[Value.bool (decide ((x).num < 0)), Value.slice xa xn xc, Value.slice xb xm xd] 32)
  have hltD := hbx.lt
  have hB_6 : Below w5.heap.size w5 (w5.alloc (.cells #[Value.bool (decide ((x).num < 0)), Value.slice xa xn xc, Value.slice xb xm xd] 32)) := hbB
  have X_6 := X_5.next hB_6
  have cX_6_0 : _ = some (Value.bool s) := X_6.cell 0
  have cX_6_1 : _ = some (Value.slice a n c) := X_6.cell 1
  have cX_6_2 : _ = some (Value.slice b m d) := X_6.cell 2
  have C_6 := C_5.next hB_6
  have cC_6_0 : _ = some (Value.bool s) := C_6.cell 0
  have cC_6_1 : _ = some (Value.slice a n' c) := C_6.cell 1
  have cC_6_2 : _ = some (Value.slice b m' d) := C_6.cell 2
  have A_6 := A_5.below hB_6
  have B_6 := B_5.below hB_6
  have Q_6 := Q_5.below hB_6
  have Ox_6 := Ox_5.below hB_6
  have Px_6 := Px_5.below hB_6
  have hbel_6 := hbel_5.next hB_6
  have hsz_6 := hB_6.size
  clear hB_6
  have D_6 := hbx
  clear hbx hbB
  have cD_6_0 : _ = some (Value.bool (decide ((x).num < 0))) := D_6.cell 0
  have cD_6_1 : _ = some (Value.slice xa xn xc) := D_6.cell 1
  have cD_6_2 : _ = some (Value.slice xb xm xd) := D_6.cell 2
  go_wp2_with fail
  clear X_5 cX_5_0 cX_5_1 cX_5_2 C_5 cC_5_0 cC_5_1 cC_5_2 A_5 B_5 Q_5 Ox_5 Px_5 hbel_5
  generalize (w5.alloc (.cells #[Value.bool (decide ((x).num < 0)), Value.slice xa xn xc, Value.slice xb xm xd] 32)) = v6 at *
  go_wp2_with fail
  refine (HC.out _).mono ?_
  rintro e w7 ⟨ya, yn, yc, yb, ym, yd, rfl, hO, hO', hDy, hB⟩
  have hB_7 : Below v6.heap.size v6 w7 := (by first | exact hB | exact below_drew hB | exact bel_alloc hB | exact below_drew (bel_alloc hB) | exact bel_alloc (below_drew hB) | exact bel_alloc (bel_alloc hB))
  have X_7 := X_6.next hB_7
  have cX_7_0 : _ = some (Value.bool s) := X_7.cell 0
  have cX_7_1 : _ = some (Value.slice a n c) := X_7.cell 1
  have cX_7_2 : _ = some (Value.slice b m d) := X_7.cell 2
  have C_7 := C_6.next hB_7
  have cC_7_0 : _ = some (Value.bool s) := C_7.cell 0
  have cC_7_1 : _ = some (Value.slice a n' c) := C_7.cell 1
  have cC_7_2 : _ = some (Value.slice b m' d) := C_7.cell 2
  have D_7 := D_6.next hB_7
  have cD_7_0 : _ = some (Value.bool (decide ((x).num < 0))) := D_7.cell 0
  have cD_7_1 : _ = some (Value.slice xa xn xc) := D_7.cell 1
  have cD_7_2 : _ = some (Value.slice xb xm xd) := D_7.cell 2
  have A_7 := A_6.below hB_7
  have B_7 := B_6.below hB_7
  have Q_7 := Q_6.below hB_7
  have Ox_7 := Ox_6.below hB_7
  have Px_7 := Px_6.below hB_7
  have hbel_7 := hbel_6.next hB_7
  have hsz_7 := hB_7.size
  clear X_6 cX_6_0 cX_6_1 cX_6_2 C_6 cC_6_0 cC_6_1 cC_6_2 D_6 cD_6_0 cD_6_1 cD_6_2 A_6 B_6 Q_6 Ox_6 Px_6 hbel_6 hB_7
  have Oy_7 := hO
  have ltOy := hO.ltB
  have Py_7 := hO'
  have ltPy := hO'.ltB
  clear hO hO'
  try clear hB
  have hbx := blk_new w7 #[Value.bool (decide ((q).num < 0)), Value.slice ya yn yc, Value.slice yb ym yd] 32
  have hbB := (Below.refl w7.heap.size w7).alloc (Nat.le_refl _) (.cells #[Value.bool (decide ((q).num < 0)), Value.slice ya yn yc, Value.slice yb ym yd] 32)
  have hltE := hbx.lt
  have hB_8 : Below w7.heap.size w7 (w7.alloc (.cells #[Value.bool (decide ((q).num < 0)), Value.slice ya yn yc, Value.slice yb ym yd] 32)) := hbB
  have X_8 := X_7.next hB_8
  have cX_8_0 : _ = some (Value.bool s) := X_8.cell 0
  have cX_8_1 : _ = some (Value.slice a n c) := X_8.cell 1
  have cX_8_2 : _ = some (Value.slice b m d) := X_8.cell 2
  have C_8 := C_7.next hB_8
  have cC_8_0 : _ = some (Value.bool s) := C_8.cell 0
  have cC_8_1 : _ = some (Value.slice a n' c) := C_8.cell 1
  have cC_8_2 : _ = some (Value.slice b m' d) := C_8.cell 2
  have D_8 := D_7.next hB_8
  have cD_8_0 : _ = some (Value.bool (decide ((x).num < 0))) := D_8.cell 0
  have cD_8_1 : _ = some (Value.slice xa xn xc) := D_8.cell 1
  have cD_8_2 : _ = some (Value.slice xb xm xd) := D_8.cell 2
  have A_8 := A_7.below hB_8
  have B_8 := B_7.below hB_8
  have Q_8 := Q_7.below hB_8
  have Ox_8 := Ox_7.below hB_8
  have Px_8 := Px_7.below hB_8
  have Oy_8 := Oy_7.below hB_8
  have Py_8 := Py_7.below hB_8
  have hbel_8 := hbel_7.next hB_8
  have hsz_8 := hB_8.size
  clear hB_8
  have E_8 := hbx
  clear hbx hbB
  have cE_8_0 : _ = some (Value.bool (decide ((q).num < 0))) := E_8.cell 0
  have cE_8_1 : _ = some (Value.slice ya yn yc) := E_8.cell 1
  have cE_8_2 : _ = some (Value.slice yb ym yd) := E_8.cell 2
  go_wp2_with fail
  clear X_7 cX_7_0 cX_7_1 cX_7_2 C_7 cC_7_0 cC_7_1 cC_7_2 D_7 cD_7_0 cD_7_1 cD_7_2 A_7 B_7 Q_7 Ox_7 Px_7 Oy_7 Py_7 hbel_7
  generalize (w7.alloc (.cells #[Value.bool (decide ((q).num < 0)), Value.slice ya yn yc, Value.slice yb ym yd] 32)) = v8 at *
  go_wp2_with fail
  refine (HK.out _).mono ?_
  rintro e w9 ⟨ka, kn, kc, rfl, hO, hB⟩
  have hB_9 : Below v8.heap.size v8 w9 := (by first | exact hB | exact below_drew hB | exact bel_alloc hB | exact below_drew (bel_alloc hB) | exact bel_alloc (below_drew hB) | exact bel_alloc (bel_alloc hB))
  have X_9 := X_8.next hB_9
  have cX_9_0 : _ = some (Value.bool s) := X_9.cell 0
  have cX_9_1 : _ = some (Value.slice a n c) := X_9.cell 1
  have cX_9_2 : _ = some (Value.slice b m d) := X_9.cell 2
  have C_9 := C_8.next hB_9
  have cC_9_0 : _ = some (Value.bool s) := C_9.cell 0
  have cC_9_1 : _ = some (Value.slice a n' c) := C_9.cell 1
  have cC_9_2 : _ = some (Value.slice b m' d) := C_9.cell 2
  have D_9 := D_8.next hB_9
  have cD_9_0 : _ = some (Value.bool (decide ((x).num < 0))) := D_9.cell 0
  have cD_9_1 : _ = some (Value.slice xa xn xc) := D_9.cell 1
  have cD_9_2 : _ = some (Value.slice xb xm xd) := D_9.cell 2
  have E_9 := E_8.next hB_9
  have cE_9_0 : _ = some (Value.bool (decide ((q).num < 0))) := E_9.cell 0
  have cE_9_1 : _ = some (Value.slice ya yn yc) := E_9.cell 1
  have cE_9_2 : _ = some (Value.slice yb ym yd) := E_9.cell 2
  have A_9 := A_8.below hB_9
  have B_9 := B_8.below hB_9
  have Q_9 := Q_8.below hB_9
  have Ox_9 := Ox_8.below hB_9
  have Px_9 := Px_8.below hB_9
  have Oy_9 := Oy_8.below hB_9
  have Py_9 := Py_8.below hB_9
  have hbel_9 := hbel_8.next hB_9
  have hsz_9 := hB_9.size
  clear X_8 cX_8_0 cX_8_1 cX_8_2 C_8 cC_8_0 cC_8_1 cC_8_2 D_8 cD_8_0 cD_8_1 cD_8_2 E_8 cE_8_0 cE_8_1 cE_8_2 A_8 B_8 Q_8 Ox_8 Px_8 Oy_8 Py_8 hbel_8 hB_9
  have K_9 := hO.rdZ skh.out
  clear hO
  try clear hB
  go_wp2_with fail
  refine (ztextR K_9 (by omega)).mono ?_
  rintro e w10 ⟨rfl, hB⟩
  have hB_10 : Below w9.heap.size w9 w10 := (by first | exact hB | exact below_drew hB | exact bel_alloc hB | exact below_drew (bel_alloc hB) | exact bel_alloc (below_drew hB) | exact bel_alloc (bel_alloc hB))
  have X_10 := X_9.next hB_10
  have cX_10_0 : _ = some (Value.bool s) := X_10.cell 0
  have cX_10_1 : _ = some (Value.slice a n c) := X_10.cell 1
  have cX_10_2 : _ = some (Value.slice b m d) := X_10.cell 2
  have C_10 := C_9.next hB_10
  have cC_10_0 : _ = some (Value.bool s) := C_10.cell 0
  have cC_10_1 : _ = some (Value.slice a n' c) := C_10.cell 1
  have cC_10_2 : _ = some (Value.slice b m' d) := C_10.cell 2
  have D_10 := D_9.next hB_10
  have cD_10_0 : _ = some (Value.bool (decide ((x).num < 0))) := D_10.cell 0
  have cD_10_1 : _ = some (Value.slice xa xn xc) := D_10.cell 1
  have cD_10_2 : _ = some (Value.slice xb xm xd) := D_10.cell 2
  have E_10 := E_9.next hB_10
  have cE_10_0 : _ = some (Value.bool (decide ((q).num < 0))) := E_10.cell 0
  have cE_10_1 : _ = some (Value.slice ya yn yc) := E_10.cell 1
  have cE_10_2 : _ = some (Value.slice yb ym yd) := E_10.cell 2
  have A_10 := A_9.below hB_10
  have B_10 := B_9.below hB_10
  have Q_10 := Q_9.below hB_10
  have Ox_10 := Ox_9.below hB_10
  have Px_10 := Px_9.below hB_10
  have Oy_10 := Oy_9.below hB_10
  have Py_10 := Py_9.below hB_10
  have K_10 := K_9.below hB_10
  have hbel_10 := hbel_9.next hB_10
  have hsz_10 := hB_10.size
  clear X_9 cX_9_0 cX_9_1 cX_9_2 C_9 cC_9_0 cC_9_1 cC_9_2 D_9 cD_9_0 cD_9_1 cD_9_2 E_9 cE_9_0 cE_9_1 cE_9_2 A_9 B_9 Q_9 Ox_9 Px_9 Oy_9 Py_9 K_9 hbel_9 hB_10
  try clear hB
  go_wp2_with fail
  refine (HL.out _).mono ?_
  rintro e w11 ⟨ja, jn, jc, rfl, hO, hB⟩
  have hB_11 : Below w10.heap.size w10 w11 := (by first | exact hB | exact below_drew hB | exact bel_alloc hB | exact below_drew (bel_alloc hB) | exact bel_alloc (below_drew hB) | exact bel_alloc (bel_alloc hB))
  have X_11 := X_10.next hB_11
  have cX_11_0 : _ = some (Value.bool s) := X_11.cell 0
  have cX_11_1 : _ = some (Value.slice a n c) := X_11.cell 1
  have cX_11_2 : _ = some (Value.slice b m d) := X_11.cell 2
  have C_11 := C_10.next hB_11
  have cC_11_0 : _ = some (Value.bool s) := C_11.cell 0
  have cC_11_1 : _ = some (Value.slice a n' c) := C_11.cell 1
  have cC_11_2 : _ = some (Value.slice b m' d) := C_11.cell 2
  have D_11 := D_10.next hB_11
  have cD_11_0 : _ = some (Value.bool (decide ((x).num < 0))) := D_11.cell 0
  have cD_11_1 : _ = some (Value.slice xa xn xc) := D_11.cell 1
  have cD_11_2 : _ = some (Value.slice xb xm xd) := D_11.cell 2
  have E_11 := E_10.next hB_11
  have cE_11_0 : _ = some (Value.bool (decide ((q).num < 0))) := E_11.cell 0
  have cE_11_1 : _ = some (Value.slice ya yn yc) := E_11.cell 1
  have cE_11_2 : _ = some (Value.slice yb ym yd) := E_11.cell 2
  have A_11 := A_10.below hB_11
  have B_11 := B_10.below hB_11
  have Q_11 := Q_10.below hB_11
  have Ox_11 := Ox_10.below hB_11
  have Px_11 := Px_10.below hB_11
  have Oy_11 := Oy_10.below hB_11
  have Py_11 := Py_10.below hB_11
  have K_11 := K_10.below hB_11
  have hbel_11 := hbel_10.next hB_11
  have hsz_11 := hB_11.size
  clear X_10 cX_10_0 cX_10_1 cX_10_2 C_10 cC_10_0 cC_10_1 cC_10_2 D_10 cD_10_0 cD_10_1 cD_10_2 E_10 cE_10_0 cE_10_1 cE_10_2 A_10 B_10 Q_10 Ox_10 Px_10 Oy_10 Py_10 K_10 hbel_10 hB_11
  have J_11 := hO.rdN slh.out
  clear hO
  have hfm := field_mag
  try clear hB
  go_wp2_with fail
  refine (ntextR J_11 (by omega)).mono ?_
  rintro e w12 ⟨rfl, hB⟩
  have hB_12 : Below w11.heap.size w11 w12 := (by first | exact hB | exact below_drew hB | exact bel_alloc hB | exact below_drew (bel_alloc hB) | exact bel_alloc (below_drew hB) | exact bel_alloc (bel_alloc hB))
  have X_12 := X_11.next hB_12
  have cX_12_0 : _ = some (Value.bool s) := X_12.cell 0
  have cX_12_1 : _ = some (Value.slice a n c) := X_12.cell 1
  have cX_12_2 : _ = some (Value.slice b m d) := X_12.cell 2
  have C_12 := C_11.next hB_12
  have cC_12_0 : _ = some (Value.bool s) := C_12.cell 0
  have cC_12_1 : _ = some (Value.slice a n' c) := C_12.cell 1
  have cC_12_2 : _ = some (Value.slice b m' d) := C_12.cell 2
  have D_12 := D_11.next hB_12
  have cD_12_0 : _ = some (Value.bool (decide ((x).num < 0))) := D_12.cell 0
  have cD_12_1 : _ = some (Value.slice xa xn xc) := D_12.cell 1
  have cD_12_2 : _ = some (Value.slice xb xm xd) := D_12.cell 2
  have E_12 := E_11.next hB_12
  have cE_12_0 : _ = some (Value.bool (decide ((q).num < 0))) := E_12.cell 0
  have cE_12_1 : _ = some (Value.slice ya yn yc) := E_12.cell 1
  have cE_12_2 : _ = some (Value.slice yb ym yd) := E_12.cell 2
  have A_12 := A_11.below hB_12
  have B_12 := B_11.below hB_12
  have Q_12 := Q_11.below hB_12
  have Ox_12 := Ox_11.below hB_12
  have Px_12 := Px_11.below hB_12
  have Oy_12 := Oy_11.below hB_12
  have Py_12 := Py_11.below hB_12
  have K_12 := K_11.below hB_12
  have J_12 := J_11.below hB_12
  have hbel_12 := hbel_11.next hB_12
  have hsz_12 := hB_12.size
  clear X_11 cX_11_0 cX_11_1 cX_11_2 C_11 cC_11_0 cC_11_1 cC_11_2 D_11 cD_11_0 cD_11_1 cD_11_2 E_11 cE_11_0 cE_11_1 cE_11_2 A_11 B_11 Q_11 Ox_11 Px_11 Oy_11 Py_11 K_11 J_11 hbel_11 hB_12
  try clear hB
  go_wp2_with fail
  refine (HP.out _).mono ?_
  rintro e w13 ⟨za, zn, zc, zb, zm, zd, rfl, hO, hO', hDz, hB⟩
  have hB_13 : Below w12.heap.size w12 w13 := (by first | exact hB | exact below_drew hB | exact bel_alloc hB | exact below_drew (bel_alloc hB) | exact bel_alloc (below_drew hB) | exact bel_alloc (bel_alloc hB))
  have X_13 := X_12.next hB_13
  have cX_13_0 : _ = some (Value.bool s) := X_13.cell 0
  have cX_13_1 : _ = some (Value.slice a n c) := X_13.cell 1
  have cX_13_2 : _ = some (Value.slice b m d) := X_13.cell 2
  have C_13 := C_12.next hB_13
  have cC_13_0 : _ = some (Value.bool s) := C_13.cell 0
  have cC_13_1 : _ = some (Value.slice a n' c) := C_13.cell 1
  have cC_13_2 : _ = some (Value.slice b m' d) := C_13.cell 2
  have D_13 := D_12.next hB_13
  have cD_13_0 : _ = some (Value.bool (decide ((x).num < 0))) := D_13.cell 0
  have cD_13_1 : _ = some (Value.slice xa xn xc) := D_13.cell 1
  have cD_13_2 : _ = some (Value.slice xb xm xd) := D_13.cell 2
  have E_13 := E_12.next hB_13
  have cE_13_0 : _ = some (Value.bool (decide ((q).num < 0))) := E_13.cell 0
  have cE_13_1 : _ = some (Value.slice ya yn yc) := E_13.cell 1
  have cE_13_2 : _ = some (Value.slice yb ym yd) := E_13.cell 2
  have A_13 := A_12.below hB_13
  have B_13 := B_12.below hB_13
  have Q_13 := Q_12.below hB_13
  have Ox_13 := Ox_12.below hB_13
  have Px_13 := Px_12.below hB_13
  have Oy_13 := Oy_12.below hB_13
  have Py_13 := Py_12.below hB_13
  have K_13 := K_12.below hB_13
  have J_13 := J_12.below hB_13
  have hbel_13 := hbel_12.next hB_13
  have hsz_13 := hB_13.size
  clear X_12 cX_12_0 cX_12_1 cX_12_2 C_12 cC_12_0 cC_12_1 cC_12_2 D_12 cD_12_0 cD_12_1 cD_12_2 E_12 cE_12_0 cE_12_1 cE_12_2 A_12 B_12 Q_12 Ox_12 Px_12 Oy_12 Py_12 K_12 J_12 hbel_12 hB_13
  have Oz_13 := hO
  have ltOz := hO.ltB
  have Pz_13 := hO'
  have ltPz := hO'.ltB
  clear hO hO'
  try clear hB
  have hbx := blk_new w13 #[Value.bool (decide ((g0).num < 0)), Value.slice za zn zc, Value.slice zb zm zd] 32
  have hbB := (Below.refl w13.heap.size w13).alloc (Nat.le_refl _) (.cells #[Value.bool (decide ((g0).num < 0)), Value.slice za zn zc, Value.slice zb zm zd] 32)
  have hltG := hbx.lt
  have hB_14 : Below w13.heap.size w13 (w13.alloc (.cells #[Value.bool (decide ((g0).num < 0)), Value.slice za zn zc, Value.slice zb zm zd] 32)) := hbB
  have X_14 := X_13.next hB_14
  have cX_14_0 : _ = some (Value.bool s) := X_14.cell 0
  have cX_14_1 : _ = some (Value.slice a n c) := X_14.cell 1
  have cX_14_2 : _ = some (Value.slice b m d) := X_14.cell 2
  have C_14 := C_13.next hB_14
  have cC_14_0 : _ = some (Value.bool s) := C_14.cell 0
  have cC_14_1 : _ = some (Value.slice a n' c) := C_14.cell 1
  have cC_14_2 : _ = some (Value.slice b m' d) := C_14.cell 2
  have D_14 := D_13.next hB_14
  have cD_14_0 : _ = some (Value.bool (decide ((x).num < 0))) := D_14.cell 0
  have cD_14_1 : _ = some (Value.slice xa xn xc) := D_14.cell 1
  have cD_14_2 : _ = some (Value.slice xb xm xd) := D_14.cell 2
  have E_14 := E_13.next hB_14
  have cE_14_0 : _ = some (Value.bool (decide ((q).num < 0))) := E_14.cell 0
  have cE_14_1 : _ = some (Value.slice ya yn yc) := E_14.cell 1
  have cE_14_2 : _ = some (Value.slice yb ym yd) := E_14.cell 2
  have A_14 := A_13.below hB_14
  have B_14 := B_13.below hB_14
  have Q_14 := Q_13.below hB_14
  have Ox_14 := Ox_13.below hB_14
  have Px_14 := Px_13.below hB_14
  have Oy_14 := Oy_13.below hB_14
  have Py_14 := Py_13.below hB_14
  have K_14 := K_13.below hB_14
  have J_14 := J_13.below hB_14
  have Oz_14 := Oz_13.below hB_14
  have Pz_14 := Pz_13.below hB_14
  have hbel_14 := hbel_13.next hB_14
  have hsz_14 := hB_14.size
  clear hB_14
  have G_14 := hbx
  clear hbx hbB
  have cG_14_0 : _ = some (Value.bool (decide ((g0).num < 0))) := G_14.cell 0
  have fG_14_0 := G_14.free 0
  have cG_14_1 : _ = some (Value.slice za zn zc) := G_14.cell 1
  have fG_14_1 := G_14.free 1
  have cG_14_2 : _ = some (Value.slice zb zm zd) := G_14.cell 2
  have fG_14_2 := G_14.free 2
  go_wp2_with fail
  clear X_13 cX_13_0 cX_13_1 cX_13_2 C_13 cC_13_0 cC_13_1 cC_13_2 D_13 cD_13_0 cD_13_1 cD_13_2 E_13 cE_13_0 cE_13_1 cE_13_2 A_13 B_13 Q_13 Ox_13 Px_13 Oy_13 Py_13 K_13 J_13 Oz_13 Pz_13 hbel_13
  generalize (w13.alloc (.cells #[Value.bool (decide ((g0).num < 0)), Value.slice za zn zc, Value.slice zb zm zd] 32)) = v14 at *
  have RG_14 := Oz_14.rdQ Pz_14 hqg.out
  go_wp2_with fail
  refine (qneg RG_14 (by omega)).mono ?_
  rw [hngh.out]
  rintro e w15 ⟨ta, tn, tc, tb, tm, td, rfl, hO, hO', hDt, hB⟩
  have hB_15 : Below v14.heap.size v14 w15 := (by first | exact hB | exact below_drew hB | exact bel_alloc hB | exact below_drew (bel_alloc hB) | exact bel_alloc (below_drew hB) | exact bel_alloc (bel_alloc hB))
  have X_15 := X_14.next hB_15
  have cX_15_0 : _ = some (Value.bool s) := X_15.cell 0
  have cX_15_1 : _ = some (Value.slice a n c) := X_15.cell 1
  have cX_15_2 : _ = some (Value.slice b m d) := X_15.cell 2
  have C_15 := C_14.next hB_15
  have cC_15_0 : _ = some (Value.bool s) := C_15.cell 0
  have cC_15_1 : _ = some (Value.slice a n' c) := C_15.cell 1
  have cC_15_2 : _ = some (Value.slice b m' d) := C_15.cell 2
  have D_15 := D_14.next hB_15
  have cD_15_0 : _ = some (Value.bool (decide ((x).num < 0))) := D_15.cell 0
  have cD_15_1 : _ = some (Value.slice xa xn xc) := D_15.cell 1
  have cD_15_2 : _ = some (Value.slice xb xm xd) := D_15.cell 2
  have E_15 := E_14.next hB_15
  have cE_15_0 : _ = some (Value.bool (decide ((q).num < 0))) := E_15.cell 0
  have cE_15_1 : _ = some (Value.slice ya yn yc) := E_15.cell 1
  have cE_15_2 : _ = some (Value.slice yb ym yd) := E_15.cell 2
  have G_15 := G_14.next hB_15
  have cG_15_0 : _ = some (Value.bool (decide ((g0).num < 0))) := G_15.cell 0
  have fG_15_0 := G_15.free 0
  have cG_15_1 : _ = some (Value.slice za zn zc) := G_15.cell 1
  have fG_15_1 := G_15.free 1
  have cG_15_2 : _ = some (Value.slice zb zm zd) := G_15.cell 2
  have fG_15_2 := G_15.free 2
  have A_15 := A_14.below hB_15
  have B_15 := B_14.below hB_15
  have Q_15 := Q_14.below hB_15
  have Ox_15 := Ox_14.below hB_15
  have Px_15 := Px_14.below hB_15
  have Oy_15 := Oy_14.below hB_15
  have Py_15 := Py_14.below hB_15
  have K_15 := K_14.below hB_15
  have J_15 := J_14.below hB_15
  have Oz_15 := Oz_14.below hB_15
  have Pz_15 := Pz_14.below hB_15
  have RG_15 := RG_14.below hB_15
  have hbel_15 := hbel_14.next hB_15
  have hsz_15 := hB_15.size
  clear X_14 cX_14_0 cX_14_1 cX_14_2 C_14 cC_14_0 cC_14_1 cC_14_2 D_14 cD_14_0 cD_14_1 cD_14_2 E_14 cE_14_0 cE_14_1 cE_14_2 G_14 cG_14_0 fG_14_0 cG_14_1 fG_14_1 cG_14_2 fG_14_2 A_14 B_14 Q_14 Ox_14 Px_14 Oy_14 Py_14 K_14 J_14 Oz_14 Pz_14 RG_14 hbel_14 hB_15
  have Ot_15 := hO
  have ltOt := hO.ltB
  have Pt_15 := hO'
  have ltPt := hO'.ltB
  clear hO hO'
  try clear hB
  have hltG := G_15.lt
  have hkp := kp_set3 w15 (w13.heap.size) (Value.bool (decide (q.num < 0))) (Value.slice ta tn tc) (Value.slice tb tm td)
  have G_16 := (show Blk _ _ #[Value.bool (decide (q.num < 0)), Value.slice ta tn tc, Value.slice tb tm td] from (((G_15).setCell (i := 0) (v := Value.bool (decide (q.num < 0))) (by simp)).setCell (i := 1) (v := Value.slice ta tn tc) (by simp)).setCell (i := 2) (v := Value.slice tb tm td) (by simp))
  have X_16 := X_15.set3 (show w.heap.size ≠ w13.heap.size by omega) (Value.bool (decide (q.num < 0))) (Value.slice ta tn tc) (Value.slice tb tm td)
  have C_16 := C_15.set3 (show w2.heap.size ≠ w13.heap.size by omega) (Value.bool (decide (q.num < 0))) (Value.slice ta tn tc) (Value.slice tb tm td)
  have D_16 := D_15.set3 (show w5.heap.size ≠ w13.heap.size by omega) (Value.bool (decide (q.num < 0))) (Value.slice ta tn tc) (Value.slice tb tm td)
  have E_16 := E_15.set3 (show w7.heap.size ≠ w13.heap.size by omega) (Value.bool (decide (q.num < 0))) (Value.slice ta tn tc) (Value.slice tb tm td)
  have Ot_16 := Ot_15.set3 (show w13.heap.size < _ by omega) (Value.bool (decide (q.num < 0))) (Value.slice ta tn tc) (Value.slice tb tm td)
  have Pt_16 := Pt_15.set3 (show w13.heap.size < _ by omega) (Value.bool (decide (q.num < 0))) (Value.slice ta tn tc) (Value.slice tb tm td)
  have Ox_16 := Ox_15.set_lt3 ltOx (show _ ≤ w13.heap.size by omega) (Value.bool (decide (q.num < 0))) (Value.slice ta tn tc) (Value.slice tb tm td)
  have Px_16 := Px_15.set_lt3 ltPx (show _ ≤ w13.heap.size by omega) (Value.bool (decide (q.num < 0))) (Value.slice ta tn tc) (Value.slice tb tm td)
  have Oy_16 := Oy_15.set_lt3 ltOy (show _ ≤ w13.heap.size by omega) (Value.bool (decide (q.num < 0))) (Value.slice ta tn tc) (Value.slice tb tm td)
  have Py_16 := Py_15.set_lt3 ltPy (show _ ≤ w13.heap.size by omega) (Value.bool (decide (q.num < 0))) (Value.slice ta tn tc) (Value.slice tb tm td)
  have A_16 := HA.out.kp_old hln A_15 hkp (fun b hb => by show ¬ (b = _); omega)
  have B_16 := HB.out.kp_old hlm B_15 hkp (fun b hb => by show ¬ (b = _); omega)
  have hbel_16 := Below.set3 hbel_15 (show w.heap.size ≤ w13.heap.size by omega) (Value.bool (decide (q.num < 0))) (Value.slice ta tn tc) (Value.slice tb tm td)
  have hsz_16 := hkp.size
  have cX_16_0 : _ = some (Value.bool s) := X_16.cell 0
  have cX_16_1 : _ = some (Value.slice a n c) := X_16.cell 1
  have cX_16_2 : _ = some (Value.slice b m d) := X_16.cell 2
  have cC_16_0 : _ = some (Value.bool s) := C_16.cell 0
  have cC_16_1 : _ = some (Value.slice a n' c) := C_16.cell 1
  have cC_16_2 : _ = some (Value.slice b m' d) := C_16.cell 2
  have cD_16_0 : _ = some (Value.bool (decide ((x).num < 0))) := D_16.cell 0
  have cD_16_1 : _ = some (Value.slice xa xn xc) := D_16.cell 1
  have cD_16_2 : _ = some (Value.slice xb xm xd) := D_16.cell 2
  have cE_16_0 : _ = some (Value.bool (decide ((q).num < 0))) := E_16.cell 0
  have cE_16_1 : _ = some (Value.slice ya yn yc) := E_16.cell 1
  have cE_16_2 : _ = some (Value.slice yb ym yd) := E_16.cell 2
  have cG_16_0 : _ = some (Value.bool (decide (q.num < 0))) := G_16.cell 0
  have fG_16_0 := G_16.free 0
  have cG_16_1 : _ = some (Value.slice ta tn tc) := G_16.cell 1
  have fG_16_1 := G_16.free 1
  have cG_16_2 : _ = some (Value.slice tb tm td) := G_16.cell 2
  have fG_16_2 := G_16.free 2
  go_wp2_with fail
  clear X_15 C_15 D_15 E_15 G_15 cX_15_0 cX_15_1 cX_15_2 cC_15_0 cC_15_1 cC_15_2 cD_15_0 cD_15_1 cD_15_2 cE_15_0 cE_15_1 cE_15_2 cG_15_0 fG_15_0 cG_15_1 fG_15_1 cG_15_2 fG_15_2 A_15 B_15 Q_15 Ox_15 Px_15 Oy_15 Py_15 K_15 J_15 Oz_15 Pz_15 RG_15 Ot_15 Pt_15 hbel_15 hkp
  generalize (((w15.setCell ⟨w13.heap.size, 0, none⟩ (Value.bool (decide (q.num < 0)))).setCell ⟨w13.heap.size, 1, none⟩ (Value.slice ta tn tc)).setCell ⟨w13.heap.size, 2, none⟩ (Value.slice tb tm td)) = v16 at *
  have RD_16 := Ox_16.rdQ Px_16 hx.out
  have Q_16 := HQX.out _ A_16 B_16
  go_wp2_with fail
  refine (qcmp Q_16 (by omega) RD_16 (by omega)).mono ?_
  rw [hc0.out]
  rintro e w17 ⟨rfl, hB⟩
  have hB_17 : Below v16.heap.size v16 w17 := (by first | exact hB | exact below_drew hB | exact bel_alloc hB | exact below_drew (bel_alloc hB) | exact bel_alloc (below_drew hB) | exact bel_alloc (bel_alloc hB))
  have X_17 := X_16.next hB_17
  have cX_17_0 : _ = some (Value.bool s) := X_17.cell 0
  have cX_17_1 : _ = some (Value.slice a n c) := X_17.cell 1
  have cX_17_2 : _ = some (Value.slice b m d) := X_17.cell 2
  have C_17 := C_16.next hB_17
  have cC_17_0 : _ = some (Value.bool s) := C_17.cell 0
  have cC_17_1 : _ = some (Value.slice a n' c) := C_17.cell 1
  have cC_17_2 : _ = some (Value.slice b m' d) := C_17.cell 2
  have D_17 := D_16.next hB_17
  have cD_17_0 : _ = some (Value.bool (decide ((x).num < 0))) := D_17.cell 0
  have cD_17_1 : _ = some (Value.slice xa xn xc) := D_17.cell 1
  have cD_17_2 : _ = some (Value.slice xb xm xd) := D_17.cell 2
  have E_17 := E_16.next hB_17
  have cE_17_0 : _ = some (Value.bool (decide ((q).num < 0))) := E_17.cell 0
  have cE_17_1 : _ = some (Value.slice ya yn yc) := E_17.cell 1
  have cE_17_2 : _ = some (Value.slice yb ym yd) := E_17.cell 2
  have G_17 := G_16.next hB_17
  have cG_17_0 : _ = some (Value.bool (decide (q.num < 0))) := G_17.cell 0
  have fG_17_0 := G_17.free 0
  have cG_17_1 : _ = some (Value.slice ta tn tc) := G_17.cell 1
  have fG_17_1 := G_17.free 1
  have cG_17_2 : _ = some (Value.slice tb tm td) := G_17.cell 2
  have fG_17_2 := G_17.free 2
  have Ot_17 := Ot_16.below hB_17
  have Pt_17 := Pt_16.below hB_17
  have Ox_17 := Ox_16.below hB_17
  have Px_17 := Px_16.below hB_17
  have Oy_17 := Oy_16.below hB_17
  have Py_17 := Py_16.below hB_17
  have A_17 := A_16.below hB_17
  have B_17 := B_16.below hB_17
  have RD_17 := RD_16.below hB_17
  have Q_17 := Q_16.below hB_17
  have hbel_17 := hbel_16.next hB_17
  have hsz_17 := hB_17.size
  clear X_16 cX_16_0 cX_16_1 cX_16_2 C_16 cC_16_0 cC_16_1 cC_16_2 D_16 cD_16_0 cD_16_1 cD_16_2 E_16 cE_16_0 cE_16_1 cE_16_2 G_16 cG_16_0 fG_16_0 cG_16_1 fG_16_1 cG_16_2 fG_16_2 Ot_16 Pt_16 Ox_16 Px_16 Oy_16 Py_16 A_16 B_16 RD_16 Q_16 hbel_16 hB_17
  try clear hB
  go_wp2_with fail
  refine (flowest Ox_17 Px_17 hx.out (by omega)).mono ?_
  rintro e w18 ⟨rfl, hB⟩
  have hB_18 : Below w17.heap.size w17 w18 := (by first | exact hB | exact below_drew hB | exact bel_alloc hB | exact below_drew (bel_alloc hB) | exact bel_alloc (below_drew hB) | exact bel_alloc (bel_alloc hB))
  have X_18 := X_17.next hB_18
  have cX_18_0 : _ = some (Value.bool s) := X_18.cell 0
  have cX_18_1 : _ = some (Value.slice a n c) := X_18.cell 1
  have cX_18_2 : _ = some (Value.slice b m d) := X_18.cell 2
  have C_18 := C_17.next hB_18
  have cC_18_0 : _ = some (Value.bool s) := C_18.cell 0
  have cC_18_1 : _ = some (Value.slice a n' c) := C_18.cell 1
  have cC_18_2 : _ = some (Value.slice b m' d) := C_18.cell 2
  have D_18 := D_17.next hB_18
  have cD_18_0 : _ = some (Value.bool (decide ((x).num < 0))) := D_18.cell 0
  have cD_18_1 : _ = some (Value.slice xa xn xc) := D_18.cell 1
  have cD_18_2 : _ = some (Value.slice xb xm xd) := D_18.cell 2
  have E_18 := E_17.next hB_18
  have cE_18_0 : _ = some (Value.bool (decide ((q).num < 0))) := E_18.cell 0
  have cE_18_1 : _ = some (Value.slice ya yn yc) := E_18.cell 1
  have cE_18_2 : _ = some (Value.slice yb ym yd) := E_18.cell 2
  have G_18 := G_17.next hB_18
  have cG_18_0 : _ = some (Value.bool (decide (q.num < 0))) := G_18.cell 0
  have fG_18_0 := G_18.free 0
  have cG_18_1 : _ = some (Value.slice ta tn tc) := G_18.cell 1
  have fG_18_1 := G_18.free 1
  have cG_18_2 : _ = some (Value.slice tb tm td) := G_18.cell 2
  have fG_18_2 := G_18.free 2
  have Ot_18 := Ot_17.below hB_18
  have Pt_18 := Pt_17.below hB_18
  have Ox_18 := Ox_17.below hB_18
  have Px_18 := Px_17.below hB_18
  have Oy_18 := Oy_17.below hB_18
  have Py_18 := Py_17.below hB_18
  have A_18 := A_17.below hB_18
  have B_18 := B_17.below hB_18
  have RD_18 := RD_17.below hB_18
  have Q_18 := Q_17.below hB_18
  have hbel_18 := hbel_17.next hB_18
  have hsz_18 := hB_18.size
  clear X_17 cX_17_0 cX_17_1 cX_17_2 C_17 cC_17_0 cC_17_1 cC_17_2 D_17 cD_17_0 cD_17_1 cD_17_2 E_17 cE_17_0 cE_17_1 cE_17_2 G_17 cG_17_0 fG_17_0 cG_17_1 fG_17_1 cG_17_2 fG_17_2 Ot_17 Pt_17 Ox_17 Px_17 Oy_17 Py_17 A_17 B_17 RD_17 Q_17 hbel_17 hB_18
  try clear hB
  go_wp2_with fail
  refine (falike Oy_18 Py_18 Ot_18 Pt_18 hqk.out (by omega) rfl).mono ?_
  rintro e w19 ⟨rfl, hB⟩
  have hB_19 : Below w18.heap.size w18 w19 := (by first | exact hB | exact below_drew hB | exact bel_alloc hB | exact below_drew (bel_alloc hB) | exact bel_alloc (below_drew hB) | exact bel_alloc (bel_alloc hB))
  have X_19 := X_18.next hB_19
  have cX_19_0 : _ = some (Value.bool s) := X_19.cell 0
  have cX_19_1 : _ = some (Value.slice a n c) := X_19.cell 1
  have cX_19_2 : _ = some (Value.slice b m d) := X_19.cell 2
  have C_19 := C_18.next hB_19
  have cC_19_0 : _ = some (Value.bool s) := C_19.cell 0
  have cC_19_1 : _ = some (Value.slice a n' c) := C_19.cell 1
  have cC_19_2 : _ = some (Value.slice b m' d) := C_19.cell 2
  have D_19 := D_18.next hB_19
  have cD_19_0 : _ = some (Value.bool (decide ((x).num < 0))) := D_19.cell 0
  have cD_19_1 : _ = some (Value.slice xa xn xc) := D_19.cell 1
  have cD_19_2 : _ = some (Value.slice xb xm xd) := D_19.cell 2
  have E_19 := E_18.next hB_19
  have cE_19_0 : _ = some (Value.bool (decide ((q).num < 0))) := E_19.cell 0
  have cE_19_1 : _ = some (Value.slice ya yn yc) := E_19.cell 1
  have cE_19_2 : _ = some (Value.slice yb ym yd) := E_19.cell 2
  have G_19 := G_18.next hB_19
  have cG_19_0 : _ = some (Value.bool (decide (q.num < 0))) := G_19.cell 0
  have fG_19_0 := G_19.free 0
  have cG_19_1 : _ = some (Value.slice ta tn tc) := G_19.cell 1
  have fG_19_1 := G_19.free 1
  have cG_19_2 : _ = some (Value.slice tb tm td) := G_19.cell 2
  have fG_19_2 := G_19.free 2
  have Ot_19 := Ot_18.below hB_19
  have Pt_19 := Pt_18.below hB_19
  have Ox_19 := Ox_18.below hB_19
  have Px_19 := Px_18.below hB_19
  have Oy_19 := Oy_18.below hB_19
  have Py_19 := Py_18.below hB_19
  have A_19 := A_18.below hB_19
  have B_19 := B_18.below hB_19
  have RD_19 := RD_18.below hB_19
  have Q_19 := Q_18.below hB_19
  have hbel_19 := hbel_18.next hB_19
  have hsz_19 := hB_19.size
  clear X_18 cX_18_0 cX_18_1 cX_18_2 C_18 cC_18_0 cC_18_1 cC_18_2 D_18 cD_18_0 cD_18_1 cD_18_2 E_18 cE_18_0 cE_18_1 cE_18_2 G_18 cG_18_0 fG_18_0 cG_18_1 fG_18_1 cG_18_2 fG_18_2 Ot_18 Pt_18 Ox_18 Px_18 Oy_18 Py_18 A_18 B_18 RD_18 Q_18 hbel_18 hB_19
  try clear hB
  go_wp2
  go_ret
  exact ⟨rfl, hbel_19⟩

theorem fracThere_walk {w : World} {a b : Option Addr} {n c m d : Nat} {la lb : List Nat} (s : Bool) (ha : Rd w a n c la) (hb : Rd w b m d lb) (k : Int) (h1 : -9223372036854775808 ≤ k) (h2 : k ≤ 9223372036854775807) (l : Int) (h3 : -9223372036854775808 ≤ l) (h4 : l ≤ 9223372036854775807) : Calls Try.prog 7 #[.agg #[.bool s, .slice a n c, .slice b m d], .int .i64 k, .int .i64 l] w (fun e w' => e = .returned (.bool true) ∧ Below w.heap.size w w') := by
  rcases Int.lt_trichotomy l 0 with h | h | h
  · exact fracThereN s ha hb k h1 h2 l h3 h4 h
  · exact fracThere0 s ha hb k h1 h2 l h3 h4 h
  · exact fracThereP s ha hb k h1 h2 l h3 h4 h

end Go.Proofs.Ytenmjgnhneofjaa
