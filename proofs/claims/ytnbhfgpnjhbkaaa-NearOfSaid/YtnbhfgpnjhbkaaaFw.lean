/- WALKS OF FLOATS, 9: the reference's Of. -/
import Derived.Test.YtnbhfgpnjhbkaaaFu
namespace Go.Proofs.Ytnbhfgpnjhbkaaa
set_option linter.unusedVariables false
set_option linter.unusedSimpArgs false
open Go.ChangeShapes Go.WideShapes Go.ChangeAt Go.RowKit Go.NatP Go.FloatP

theorem two_sz {k j : Nat} (h : k < 32 * j) : Sz (2 ^ k) j := by
  show 2 ^ k < 4294967296 ^ j
  rw [show (4294967296 : Nat) = 2 ^ 32 from rfl, ← Nat.pow_mul]
  exact Nat.pow_lt_pow_right (by decide) h
theorem fg_sz {r : Nat} (h : r < 9218868437227405312) : Sz (fg r) 66 := by
  unfold fg
  split
  · rename_i h1
    exact (show Sz r 2 by show r < 4294967296 ^ 2; omega).mono (Nat.le_refl _) (by omega)
  · obtain ⟨k, hk⟩ : ∃ k, r / 4503599627370496 - 1 = k := ⟨_, rfl⟩
    have h1 : Sz (4503599627370496 + r % 4503599627370496) 2 := by
      show _ < 4294967296 ^ 2
      have := Nat.mod_lt r (show 0 < 4503599627370496 by decide); omega
    rw [hk]
    exact h1.mul (two_sz (k := k) (j := 64) (by omega))
theorem e74_sz : Sz (2 ^ E74) 66 := two_sz (by show 1074 < 32 * 66; decide)
theorem retqe_nil0 {w w2 : World} {q : Rat} {er : Int} (he : er ≠ 0) (hB : Below w.heap.size w w2) :
    RetQE w q er (.returned (.tuple #[.agg #[.bool false, .slice none 0 0, .slice none 0 0], .int .i64 er])) w2 := by
  obtain ⟨h1, h2, h3⟩ := q_err q he
  refine ⟨none, 0, 0, none, 0, 0, by rw [h1], ?_, ?_, diff_nil _, hB⟩
  · rw [h2]; exact own_nil _ _
  · rw [h3]; exact own_nil _ _
theorem flow_z {w : World} {z : Int} {a b : Option Addr} {n c m d v : Nat} (ha : RdN 4194304 w a n c z.natAbs) (hb : RdN 4194304 w b m d v) (hv : v ≠ 0) : Calls Try.prog 27 #[.agg #[.bool (decide (z < 0)), .slice a n c], .slice b m d] w (RetQ w (mkRat z v)) := by
  have h := flow (decide (z < 0)) ha hb hv
  have e : zv (decide (z < 0)) z.natAbs = z := by unfold zv; by_cases hz : z < 0 <;> simp [hz] <;> omega
  rwa [e] at h

set_option maxRecDepth 100000 in
set_option maxHeartbeats 8000000 in
theorem rof_neg {w : World} (x : Nat) (hx : x < 18446744073709551616) (hf : fr x < 9218868437227405312) (hl : (FloatKind.f64.format.order x 0 == some .lt) = true) :
    Calls Try.prog 6 #[.float .f64 x] w (RetQE w (flV (fs x) (fr x)) 0) := by
  have hne : (FloatKind.f64.format.order x x != some .eq) = false := by rw [fcmp_self]; exact fin_num hf
  have h00 : (FloatKind.f64.format.order 0 0 != some .eq) = false := by decide +kernel
  have hsub := fun w => run_float_arith (P := Try.prog) w .sub 22 .f64 x x 0 (sub_self_fin hf)
  have hl2 := hl
  rw [lt_zero hf] at hl2
  have hs : fs x = true ∧ fr x ≠ 0 := by simpa using hl2
  clear hl2
  have hxh : 9223372036854775808 ≤ x := Nat.not_lt.1 fun h => by rw [(fs_low h).1] at hs; exact absurd hs.1 (by decide)
  have hng := negf hxh hx
  rw [← (fs_high hxh hx).2] at hng
  rw [hs.1]
  have hadd := fun w => run_float_arith (P := Try.prog) w .add 22 .f64 (fr x) 0 (fr x) (add_zero_fin hf)
  clear hs hxh
  have hbt := f64bits (fr x)
  have HV := hid (fun w => fvalue (w := w) (fr x) hf)
  have hgz := fg_sz hf
  unfold flV
  generalize fr x = r at *
  obtain ⟨G, hG⟩ : ∃ G, fg r = G := ⟨_, rfl⟩
  rw [hG] at HV hgz ⊢
  have hgs := hid hgz
  have hle := hid (show (lm G).length ≤ 16777216 by have := hgz.len; omega)
  obtain ⟨z, hz⟩ : ∃ z, zv true G = z := ⟨_, rfl⟩
  have hzn : z.natAbs = G := by rw [← hz, zv_abs]
  have HM := hid (fun (W : World) (a : Option Addr) (n c B : Nat) (h : Own B W a n c (lm G)) (hn : n ≤ 16777216) => rmake_any true h.rd hn)
  simp only [val_lm] at HM
  rw [hz] at HM ⊢
  have hzs := hid (show Sz z.natAbs 66 by rw [hzn]; exact hgz)
  have hes := hid e74_sz
  have hE0 : 2 ^ E74 ≠ 0 := two_ne E74
  obtain ⟨E, hE⟩ : ∃ E, 2 ^ E74 = E := ⟨_, rfl⟩
  have HP := hid (fun w => fpower (w := w))
  rw [hE] at HP hes hE0 ⊢
  have hEh := hid hE0
  clear hz hzn hgz hG hf hE hE0 hx
  have hent := ent1 w #[Value.bool false, Value.slice none 0 0, Value.slice none 0 0] 29
  go_enter Try.func6, Try.ntmps6
  go_wp2_with fail
  generalize (w.alloc (.cells #[Value.bool false, Value.slice none 0 0, Value.slice none 0 0] 29)) = W0 at hent ⊢
  obtain ⟨R_0, hbel_0, hsz_0⟩ := hent
  have cR_0_0 : _ = some (Value.bool false) := R_0.cell 0
  have fR_0_0 := R_0.free 0
  have cR_0_1 : _ = some (Value.slice none 0 0) := R_0.cell 1
  have fR_0_1 := R_0.free 1
  have cR_0_2 : _ = some (Value.slice none 0 0) := R_0.cell 2
  have fR_0_2 := R_0.free 2
  go_wp2_with fail
  refine (flong).mono ?_
  rintro e w1 ⟨rfl, hB⟩
  have hB_1 : Below W0.heap.size W0 w1 := (bl.next hB)
  have R_1 := R_0.next hB_1
  have cR_1_0 : _ = some (Value.bool false) := R_1.cell 0
  have fR_1_0 := R_1.free 0
  have cR_1_1 : _ = some (Value.slice none 0 0) := R_1.cell 1
  have fR_1_1 := R_1.free 1
  have cR_1_2 : _ = some (Value.slice none 0 0) := R_1.cell 2
  have fR_1_2 := R_1.free 2
  have hbel_1 := hbel_0.next hB_1
  have hsz_1 := hB_1.size
  clear R_0 cR_0_0 fR_0_0 cR_0_1 fR_0_1 cR_0_2 fR_0_2 hbel_0 hB_1
  try clear hB
  have hbx := blk_new w1 #[Value.int .i64 52, Value.int .u64 9218868437227405312, Value.int .i64 (-1074)] 64
  have hbB := (Below.refl w1.heap.size w1).alloc (Nat.le_refl _) (.cells #[Value.int .i64 52, Value.int .u64 9218868437227405312, Value.int .i64 (-1074)] 64)
  have hltK := hbx.lt
  have hB_2 : Below w1.heap.size w1 (w1.alloc (.cells #[Value.int .i64 52, Value.int .u64 9218868437227405312, Value.int .i64 (-1074)] 64)) := hbB
  have R_2 := R_1.next hB_2
  have cR_2_0 : _ = some (Value.bool false) := R_2.cell 0
  have fR_2_0 := R_2.free 0
  have cR_2_1 : _ = some (Value.slice none 0 0) := R_2.cell 1
  have fR_2_1 := R_2.free 1
  have cR_2_2 : _ = some (Value.slice none 0 0) := R_2.cell 2
  have fR_2_2 := R_2.free 2
  have hbel_2 := hbel_1.next hB_2
  have hsz_2 := hB_2.size
  clear hB_2
  have K_2 := hbx
  clear hbx hbB
  have cK_2_0 : _ = some (Value.int .i64 52) := K_2.cell 0
  have cK_2_1 : _ = some (Value.int .u64 9218868437227405312) := K_2.cell 1
  have cK_2_2 : _ = some (Value.int .i64 (-1074)) := K_2.cell 2
  go_wp2_with fail
  clear R_1 cR_1_0 fR_1_0 cR_1_1 fR_1_1 cR_1_2 fR_1_2 hbel_1
  generalize (w1.alloc (.cells #[Value.int .i64 52, Value.int .u64 9218868437227405312, Value.int .i64 (-1074)] 64)) = v2 at *
  go_wp2_with fail
  go_region_held3 (fun w' => w'.cell? ⟨w1.heap.size, 0, none⟩ = some (Value.int .i64 52) ∧ w'.cell? ⟨w1.heap.size, 1, none⟩ = some (Value.int .u64 9218868437227405312) ∧ w'.cell? ⟨w1.heap.size, 2, none⟩ = some (Value.int .i64 (-1074)))
    (first | exact ⟨cK_2_0, cK_2_1, cK_2_2⟩ | exact ⟨cK_3_0, cK_3_1, cK_3_2⟩ | exact ⟨cK_4_0, cK_4_1, cK_4_2⟩ | exact ⟨cK_5_0, cK_5_1, cK_5_2⟩ | exact ⟨cK_6_0, cK_6_1, cK_6_2⟩ | exact ⟨(cell_set3 (by omega) _ _ _).trans (cK_6_0), (cell_set3 (by omega) _ _ _).trans (cK_6_1), (cell_set3 (by omega) _ _ _).trans (cK_6_2)⟩ | go_keep)
    (first
      | (go_at_call 29; ((with_reducible refine (HV.out _).mono ?_); (rintro e w3 ⟨va, vn, vc, rfl, hO, hB⟩; have hB_3 : Below v2.heap.size v2 w3 := (bl.next hB); have R_3 := R_2.next hB_3; have cR_3_0 : _ = some (Value.bool false) := R_3.cell 0; have fR_3_0 := R_3.free 0; have cR_3_1 : _ = some (Value.slice none 0 0) := R_3.cell 1; have fR_3_1 := R_3.free 1; have cR_3_2 : _ = some (Value.slice none 0 0) := R_3.cell 2; have fR_3_2 := R_3.free 2; have K_3 := K_2.next hB_3; have cK_3_0 : _ = some (Value.int .i64 52) := K_3.cell 0; have cK_3_1 : _ = some (Value.int .u64 9218868437227405312) := K_3.cell 1; have cK_3_2 : _ = some (Value.int .i64 (-1074)) := K_3.cell 2; have hbel_3 := hbel_2.next hB_3; have hsz_3 := hB_3.size; clear R_2 cR_2_0 fR_2_0 cR_2_1 fR_2_1 cR_2_2 fR_2_2 K_2 cK_2_0 cK_2_1 cK_2_2 hbel_2 hB_3; have V_3 := hO; have ltV := hO.ltB; have hvn : vn ≤ 16777216 := (by have := hO.len; have := hle.out; omega); clear hO; try clear hB)))
      | (go_at_call 28; ((with_reducible refine (HM.out _ _ _ _ _ (V_3.below bl) hvn).mono ?_); (rintro e w4 ⟨ma, mn, mc, rfl, hO, hB⟩; have hB_4 : Below w3.heap.size w3 w4 := (bl.next hB); have R_4 := R_3.next hB_4; have cR_4_0 : _ = some (Value.bool false) := R_4.cell 0; have fR_4_0 := R_4.free 0; have cR_4_1 : _ = some (Value.slice none 0 0) := R_4.cell 1; have fR_4_1 := R_4.free 1; have cR_4_2 : _ = some (Value.slice none 0 0) := R_4.cell 2; have fR_4_2 := R_4.free 2; have K_4 := K_3.next hB_4; have cK_4_0 : _ = some (Value.int .i64 52) := K_4.cell 0; have cK_4_1 : _ = some (Value.int .u64 9218868437227405312) := K_4.cell 1; have cK_4_2 : _ = some (Value.int .i64 (-1074)) := K_4.cell 2; have V_4 := V_3.below hB_4; have hbel_4 := hbel_3.next hB_4; have hsz_4 := hB_4.size; clear R_3 cR_3_0 fR_3_0 cR_3_1 fR_3_1 cR_3_2 fR_3_2 K_3 cK_3_0 cK_3_1 cK_3_2 V_3 hbel_3 hB_4; have M_4 := (hO.rdN hzs.out).mono (show 66 ≤ 4194304 by omega); clear hO; try clear hB)))
      | (go_at_call 31; ((with_reducible refine (HP.out _).mono ?_); (rintro e w5 ⟨pa, pn, pc, rfl, hO, hB⟩; have hB_5 : Below w4.heap.size w4 w5 := (bl.next hB); have R_5 := R_4.next hB_5; have cR_5_0 : _ = some (Value.bool false) := R_5.cell 0; have fR_5_0 := R_5.free 0; have cR_5_1 : _ = some (Value.slice none 0 0) := R_5.cell 1; have fR_5_1 := R_5.free 1; have cR_5_2 : _ = some (Value.slice none 0 0) := R_5.cell 2; have fR_5_2 := R_5.free 2; have K_5 := K_4.next hB_5; have cK_5_0 : _ = some (Value.int .i64 52) := K_5.cell 0; have cK_5_1 : _ = some (Value.int .u64 9218868437227405312) := K_5.cell 1; have cK_5_2 : _ = some (Value.int .i64 (-1074)) := K_5.cell 2; have V_5 := V_4.below hB_5; have M_5 := M_4.below hB_5; have hbel_5 := hbel_4.next hB_5; have hsz_5 := hB_5.size; clear R_4 cR_4_0 fR_4_0 cR_4_1 fR_4_1 cR_4_2 fR_4_2 K_4 cK_4_0 cK_4_1 cK_4_2 V_4 M_4 hbel_4 hB_5; have P_5 := (hO.rdN hes.out).mono (show 66 ≤ 4194304 by omega); clear hO; try clear hB)))
      | (go_at_call 27; ((with_reducible refine (flow_z (M_5.below bl) (P_5.below bl) hEh.out).mono ?_); (rintro e w6 ⟨qa, qn, qc, ra, rn, rc, rfl, hO, hO', hD, hB⟩; have hB_6 : Below w5.heap.size w5 w6 := (bl.next hB); have R_6 := R_5.next hB_6; have cR_6_0 : _ = some (Value.bool false) := R_6.cell 0; have fR_6_0 := R_6.free 0; have cR_6_1 : _ = some (Value.slice none 0 0) := R_6.cell 1; have fR_6_1 := R_6.free 1; have cR_6_2 : _ = some (Value.slice none 0 0) := R_6.cell 2; have fR_6_2 := R_6.free 2; have K_6 := K_5.next hB_6; have cK_6_0 : _ = some (Value.int .i64 52) := K_6.cell 0; have cK_6_1 : _ = some (Value.int .u64 9218868437227405312) := K_6.cell 1; have cK_6_2 : _ = some (Value.int .i64 (-1074)) := K_6.cell 2; have V_6 := V_5.below hB_6; have M_6 := M_5.below hB_6; have P_6 := P_5.below hB_6; have hbel_6 := hbel_5.next hB_6; have hsz_6 := hB_6.size; clear R_5 cR_5_0 fR_5_0 cR_5_1 fR_5_1 cR_5_2 fR_5_2 K_5 cK_5_0 cK_5_1 cK_5_2 V_5 M_5 P_5 hbel_5 hB_6; have OQ_6 := hO; have ltOQ := hO.ltB; have OD_6 := hO'; have ltOD := hO'.ltB; clear hO hO'; try clear hB))))
  go_wp2
  refine bodyPost_ret (v := .tuple #[.agg #[.bool (decide ((mkRat z E).num < 0)), .slice qa qn qc, .slice ra rn rc], .int .i64 0]) (by simp [results, Try.results6, go_sem, cR_6_0, cR_6_1, cR_6_2]) rfl ?_
  exact retqe_set (er := 0) OQ_6 OD_6 hD hbel_6 (by omega) (by omega)

set_option maxRecDepth 100000 in
set_option maxHeartbeats 8000000 in
theorem rof_pos {w : World} (x : Nat) (hx : x < 18446744073709551616) (hf : fr x < 9218868437227405312) (hl : (FloatKind.f64.format.order x 0 == some .lt) = false) :
    Calls Try.prog 6 #[.float .f64 x] w (RetQE w (flV (fs x) (fr x)) 0) := by
  have hne : (FloatKind.f64.format.order x x != some .eq) = false := by rw [fcmp_self]; exact fin_num hf
  have h00 : (FloatKind.f64.format.order 0 0 != some .eq) = false := by decide +kernel
  have hsub := fun w => run_float_arith (P := Try.prog) w .sub 22 .f64 x x 0 (sub_self_fin hf)
  have hl2 := hl
  rw [lt_zero hf] at hl2
  have hV : flV (fs x) (fr x) = flV false (fr x) := by
    cases hs : fs x
    · rfl
    · rw [hs] at hl2
      have h0 : fr x = 0 := by simpa using hl2
      rw [h0]
      have h1 := flV_zero true
      have h2 := flV_zero false
      exact Rat.ext (h1.1.trans h2.1.symm) (h1.2.trans h2.2.symm)
  rw [hV]
  have ha : Ieee.double.add x 0 = some (fr x) := by
    rcases Nat.lt_or_ge x 9223372036854775808 with h | h
    · rw [(fs_low h).2] at hf ⊢; exact add_zero_fin hf
    · rw [(fs_high h hx).1] at hl2
      have h0 : fr x = 0 := by simpa using hl2
      have h1 := (fs_high h hx).2
      have h3 : x = 9223372036854775808 := by omega
      rw [h0, h3]; exact add_zero_neg
  have hadd := fun w => run_float_arith (P := Try.prog) w .add 22 .f64 x 0 (fr x) ha
  clear hl2 hV ha
  have hbt := f64bits (fr x)
  have HV := hid (fun w => fvalue (w := w) (fr x) hf)
  have hgz := fg_sz hf
  unfold flV
  generalize fr x = r at *
  obtain ⟨G, hG⟩ : ∃ G, fg r = G := ⟨_, rfl⟩
  rw [hG] at HV hgz ⊢
  have hgs := hid hgz
  have hle := hid (show (lm G).length ≤ 16777216 by have := hgz.len; omega)
  obtain ⟨z, hz⟩ : ∃ z, zv false G = z := ⟨_, rfl⟩
  have hzn : z.natAbs = G := by rw [← hz, zv_abs]
  have HM := hid (fun (W : World) (a : Option Addr) (n c B : Nat) (h : Own B W a n c (lm G)) (hn : n ≤ 16777216) => rmake_any false h.rd hn)
  simp only [val_lm] at HM
  rw [hz] at HM ⊢
  have hzs := hid (show Sz z.natAbs 66 by rw [hzn]; exact hgz)
  have hes := hid e74_sz
  have hE0 : 2 ^ E74 ≠ 0 := two_ne E74
  obtain ⟨E, hE⟩ : ∃ E, 2 ^ E74 = E := ⟨_, rfl⟩
  have HP := hid (fun w => fpower (w := w))
  rw [hE] at HP hes hE0 ⊢
  have hEh := hid hE0
  clear hz hzn hgz hG hf hE hE0 hx
  have hent := ent1 w #[Value.bool false, Value.slice none 0 0, Value.slice none 0 0] 29
  go_enter Try.func6, Try.ntmps6
  go_wp2_with fail
  generalize (w.alloc (.cells #[Value.bool false, Value.slice none 0 0, Value.slice none 0 0] 29)) = W0 at hent ⊢
  obtain ⟨R_0, hbel_0, hsz_0⟩ := hent
  have cR_0_0 : _ = some (Value.bool false) := R_0.cell 0
  have fR_0_0 := R_0.free 0
  have cR_0_1 : _ = some (Value.slice none 0 0) := R_0.cell 1
  have fR_0_1 := R_0.free 1
  have cR_0_2 : _ = some (Value.slice none 0 0) := R_0.cell 2
  have fR_0_2 := R_0.free 2
  go_wp2_with fail
  refine (flong).mono ?_
  rintro e w1 ⟨rfl, hB⟩
  have hB_1 : Below W0.heap.size W0 w1 := (bl.next hB)
  have R_1 := R_0.next hB_1
  have cR_1_0 : _ = some (Value.bool false) := R_1.cell 0
  have fR_1_0 := R_1.free 0
  have cR_1_1 : _ = some (Value.slice none 0 0) := R_1.cell 1
  have fR_1_1 := R_1.free 1
  have cR_1_2 : _ = some (Value.slice none 0 0) := R_1.cell 2
  have fR_1_2 := R_1.free 2
  have hbel_1 := hbel_0.next hB_1
  have hsz_1 := hB_1.size
  clear R_0 cR_0_0 fR_0_0 cR_0_1 fR_0_1 cR_0_2 fR_0_2 hbel_0 hB_1
  try clear hB
  have hbx := blk_new w1 #[Value.int .i64 52, Value.int .u64 9218868437227405312, Value.int .i64 (-1074)] 64
  have hbB := (Below.refl w1.heap.size w1).alloc (Nat.le_refl _) (.cells #[Value.int .i64 52, Value.int .u64 9218868437227405312, Value.int .i64 (-1074)] 64)
  have hltK := hbx.lt
  have hB_2 : Below w1.heap.size w1 (w1.alloc (.cells #[Value.int .i64 52, Value.int .u64 9218868437227405312, Value.int .i64 (-1074)] 64)) := hbB
  have R_2 := R_1.next hB_2
  have cR_2_0 : _ = some (Value.bool false) := R_2.cell 0
  have fR_2_0 := R_2.free 0
  have cR_2_1 : _ = some (Value.slice none 0 0) := R_2.cell 1
  have fR_2_1 := R_2.free 1
  have cR_2_2 : _ = some (Value.slice none 0 0) := R_2.cell 2
  have fR_2_2 := R_2.free 2
  have hbel_2 := hbel_1.next hB_2
  have hsz_2 := hB_2.size
  clear hB_2
  have K_2 := hbx
  clear hbx hbB
  have cK_2_0 : _ = some (Value.int .i64 52) := K_2.cell 0
  have cK_2_1 : _ = some (Value.int .u64 9218868437227405312) := K_2.cell 1
  have cK_2_2 : _ = some (Value.int .i64 (-1074)) := K_2.cell 2
  go_wp2_with fail
  clear R_1 cR_1_0 fR_1_0 cR_1_1 fR_1_1 cR_1_2 fR_1_2 hbel_1
  generalize (w1.alloc (.cells #[Value.int .i64 52, Value.int .u64 9218868437227405312, Value.int .i64 (-1074)] 64)) = v2 at *
  go_wp2_with fail
  go_region_held3 (fun w' => w'.cell? ⟨w1.heap.size, 0, none⟩ = some (Value.int .i64 52) ∧ w'.cell? ⟨w1.heap.size, 1, none⟩ = some (Value.int .u64 9218868437227405312) ∧ w'.cell? ⟨w1.heap.size, 2, none⟩ = some (Value.int .i64 (-1074)))
    (first | exact ⟨cK_2_0, cK_2_1, cK_2_2⟩ | exact ⟨cK_3_0, cK_3_1, cK_3_2⟩ | exact ⟨cK_4_0, cK_4_1, cK_4_2⟩ | exact ⟨cK_5_0, cK_5_1, cK_5_2⟩ | exact ⟨cK_6_0, cK_6_1, cK_6_2⟩ | exact ⟨(cell_set3 (by omega) _ _ _).trans (cK_6_0), (cell_set3 (by omega) _ _ _).trans (cK_6_1), (cell_set3 (by omega) _ _ _).trans (cK_6_2)⟩ | go_keep)
    (first
      | (go_at_call 29; ((with_reducible refine (HV.out _).mono ?_); (rintro e w3 ⟨va, vn, vc, rfl, hO, hB⟩; have hB_3 : Below v2.heap.size v2 w3 := (bl.next hB); have R_3 := R_2.next hB_3; have cR_3_0 : _ = some (Value.bool false) := R_3.cell 0; have fR_3_0 := R_3.free 0; have cR_3_1 : _ = some (Value.slice none 0 0) := R_3.cell 1; have fR_3_1 := R_3.free 1; have cR_3_2 : _ = some (Value.slice none 0 0) := R_3.cell 2; have fR_3_2 := R_3.free 2; have K_3 := K_2.next hB_3; have cK_3_0 : _ = some (Value.int .i64 52) := K_3.cell 0; have cK_3_1 : _ = some (Value.int .u64 9218868437227405312) := K_3.cell 1; have cK_3_2 : _ = some (Value.int .i64 (-1074)) := K_3.cell 2; have hbel_3 := hbel_2.next hB_3; have hsz_3 := hB_3.size; clear R_2 cR_2_0 fR_2_0 cR_2_1 fR_2_1 cR_2_2 fR_2_2 K_2 cK_2_0 cK_2_1 cK_2_2 hbel_2 hB_3; have V_3 := hO; have ltV := hO.ltB; have hvn : vn ≤ 16777216 := (by have := hO.len; have := hle.out; omega); clear hO; try clear hB)))
      | (go_at_call 28; ((with_reducible refine (HM.out _ _ _ _ _ (V_3.below bl) hvn).mono ?_); (rintro e w4 ⟨ma, mn, mc, rfl, hO, hB⟩; have hB_4 : Below w3.heap.size w3 w4 := (bl.next hB); have R_4 := R_3.next hB_4; have cR_4_0 : _ = some (Value.bool false) := R_4.cell 0; have fR_4_0 := R_4.free 0; have cR_4_1 : _ = some (Value.slice none 0 0) := R_4.cell 1; have fR_4_1 := R_4.free 1; have cR_4_2 : _ = some (Value.slice none 0 0) := R_4.cell 2; have fR_4_2 := R_4.free 2; have K_4 := K_3.next hB_4; have cK_4_0 : _ = some (Value.int .i64 52) := K_4.cell 0; have cK_4_1 : _ = some (Value.int .u64 9218868437227405312) := K_4.cell 1; have cK_4_2 : _ = some (Value.int .i64 (-1074)) := K_4.cell 2; have V_4 := V_3.below hB_4; have hbel_4 := hbel_3.next hB_4; have hsz_4 := hB_4.size; clear R_3 cR_3_0 fR_3_0 cR_3_1 fR_3_1 cR_3_2 fR_3_2 K_3 cK_3_0 cK_3_1 cK_3_2 V_3 hbel_3 hB_4; have M_4 := (hO.rdN hzs.out).mono (show 66 ≤ 4194304 by omega); clear hO; try clear hB)))
      | (go_at_call 31; ((with_reducible refine (HP.out _).mono ?_); (rintro e w5 ⟨pa, pn, pc, rfl, hO, hB⟩; have hB_5 : Below w4.heap.size w4 w5 := (bl.next hB); have R_5 := R_4.next hB_5; have cR_5_0 : _ = some (Value.bool false) := R_5.cell 0; have fR_5_0 := R_5.free 0; have cR_5_1 : _ = some (Value.slice none 0 0) := R_5.cell 1; have fR_5_1 := R_5.free 1; have cR_5_2 : _ = some (Value.slice none 0 0) := R_5.cell 2; have fR_5_2 := R_5.free 2; have K_5 := K_4.next hB_5; have cK_5_0 : _ = some (Value.int .i64 52) := K_5.cell 0; have cK_5_1 : _ = some (Value.int .u64 9218868437227405312) := K_5.cell 1; have cK_5_2 : _ = some (Value.int .i64 (-1074)) := K_5.cell 2; have V_5 := V_4.below hB_5; have M_5 := M_4.below hB_5; have hbel_5 := hbel_4.next hB_5; have hsz_5 := hB_5.size; clear R_4 cR_4_0 fR_4_0 cR_4_1 fR_4_1 cR_4_2 fR_4_2 K_4 cK_4_0 cK_4_1 cK_4_2 V_4 M_4 hbel_4 hB_5; have P_5 := (hO.rdN hes.out).mono (show 66 ≤ 4194304 by omega); clear hO; try clear hB)))
      | (go_at_call 27; ((with_reducible refine (flow_z (M_5.below bl) (P_5.below bl) hEh.out).mono ?_); (rintro e w6 ⟨qa, qn, qc, ra, rn, rc, rfl, hO, hO', hD, hB⟩; have hB_6 : Below w5.heap.size w5 w6 := (bl.next hB); have R_6 := R_5.next hB_6; have cR_6_0 : _ = some (Value.bool false) := R_6.cell 0; have fR_6_0 := R_6.free 0; have cR_6_1 : _ = some (Value.slice none 0 0) := R_6.cell 1; have fR_6_1 := R_6.free 1; have cR_6_2 : _ = some (Value.slice none 0 0) := R_6.cell 2; have fR_6_2 := R_6.free 2; have K_6 := K_5.next hB_6; have cK_6_0 : _ = some (Value.int .i64 52) := K_6.cell 0; have cK_6_1 : _ = some (Value.int .u64 9218868437227405312) := K_6.cell 1; have cK_6_2 : _ = some (Value.int .i64 (-1074)) := K_6.cell 2; have V_6 := V_5.below hB_6; have M_6 := M_5.below hB_6; have P_6 := P_5.below hB_6; have hbel_6 := hbel_5.next hB_6; have hsz_6 := hB_6.size; clear R_5 cR_5_0 fR_5_0 cR_5_1 fR_5_1 cR_5_2 fR_5_2 K_5 cK_5_0 cK_5_1 cK_5_2 V_5 M_5 P_5 hbel_5 hB_6; have OQ_6 := hO; have ltOQ := hO.ltB; have OD_6 := hO'; have ltOD := hO'.ltB; clear hO hO'; try clear hB))))
  go_wp2
  refine bodyPost_ret (v := .tuple #[.agg #[.bool (decide ((mkRat z E).num < 0)), .slice qa qn qc, .slice ra rn rc], .int .i64 0]) (by simp [results, Try.results6, go_sem, cR_6_0, cR_6_1, cR_6_2]) rfl ?_
  exact retqe_set (er := 0) OQ_6 OD_6 hD hbel_6 (by omega) (by omega)

theorem nb_nan (x y : Nat) (t : Nat) : fnan ((Question.nanBits .f64 x y).cut t) = true := by
  unfold Question.cut
  show decide (9218868437227405312 < fr (t % 2 * 2 ^ 63 + 0x7ff0000000000000 + 1 + t / 2 % (2 ^ 52 - 1))) = true
  have h1 : t / 2 % (2 ^ 52 - 1) < 4503599627370495 := Nat.mod_lt _ (by decide)
  generalize t / 2 % (2 ^ 52 - 1) = m at *
  have h2 : t % 2 < 2 := Nat.mod_lt _ (by decide)
  generalize t % 2 = k at *
  unfold fr
  exact decide_eq_true (by omega)
def nB (x : Nat) (w : World) : Nat := (Question.nanBits .f64 x x).cut (w.tape w.drawn (.nanBits .f64 x x))
theorem nB_ne (x : Nat) (w : World) : (FloatKind.f64.format.order (nB x w) 0 != some .eq) = true := by
  have h : fnan (nB x w) = true := nb_nan _ _ _
  have h2 : FloatKind.f64.format.order (nB x w) 0 = none := fcmp_nan (.inl h)
  rw [h2]; rfl
theorem run_sub_inf {x : Nat} (h : fr x = 9218868437227405312) (w : World) : (binOp .sub 22 (.float .f64 x) (.float .f64 x)).run Try.prog w = .ok (.float .f64 (nB x w)) w.drew := by
  have hs : FloatKind.f64.format.sub x x = none := sub_self_inf h
  have hq : (Question.nanBits FloatKind.f64 x x).forced = false := rfl
  simp [binOp, Op.floatArith, hs, hq]
  rfl

set_option maxRecDepth 100000 in
set_option maxHeartbeats 4000000 in
theorem rof_en {w : World} (x : Nat) (hx : x < 18446744073709551616) (hf : fnan x = true) :
    Calls Try.prog 6 #[.float .f64 x] w (RetQE w 0 13) := by
  have hne : (FloatKind.f64.format.order x x != some .eq) = true := by rw [fcmp_self]; exact hf
  clear hf
  go_enter Try.func6, Try.ntmps6
  have hA := blk_new w #[Value.bool false, Value.slice none 0 0, Value.slice none 0 0] 29
  have q0 := hA.cell 0
  have q1 := hA.cell 1
  have q2 := hA.cell 2
  go_wp2
  refine bodyPost_ret (v := .tuple #[.agg #[.bool false, .slice none 0 0, .slice none 0 0], .int .i64 13]) (by simp [results, Try.results6, go_sem, q0, q1, q2]) rfl ?_
  exact retqe_nil0 (by decide) (by first | exact (Below.refl _ _).alloc (Nat.le_refl _) _ | exact ((Below.refl _ _).alloc (Nat.le_refl _) _).drew | exact (Below.refl _ _).drew.alloc (Nat.le_refl _) _)

set_option maxRecDepth 100000 in
set_option maxHeartbeats 4000000 in
theorem rof_ei {w : World} (x : Nat) (hx : x < 18446744073709551616) (hf : fr x = 9218868437227405312) :
    Calls Try.prog 6 #[.float .f64 x] w (RetQE w 0 13) := by
  have hne : (FloatKind.f64.format.order x x != some .eq) = false := by rw [fcmp_self]; unfold fnan; rw [hf]; rfl
  have hsub := run_sub_inf hf
  have hn0 := nB_ne x
  clear hf
  go_enter Try.func6, Try.ntmps6
  have hA := blk_new w #[Value.bool false, Value.slice none 0 0, Value.slice none 0 0] 29
  have q0 := hA.cell 0
  have q1 := hA.cell 1
  have q2 := hA.cell 2
  go_wp2
  refine bodyPost_ret (v := .tuple #[.agg #[.bool false, .slice none 0 0, .slice none 0 0], .int .i64 13]) (by simp [results, Try.results6, go_sem, q0, q1, q2]) rfl ?_
  exact retqe_nil0 (by decide) (by first | exact (Below.refl _ _).alloc (Nat.le_refl _) _ | exact ((Below.refl _ _).alloc (Nat.le_refl _) _).drew | exact (Below.refl _ _).drew.alloc (Nat.le_refl _) _)

theorem rof {w : World} (x : Nat) (hx : x < 18446744073709551616) : Calls Try.prog 6 #[.float .f64 x] w (RetQE w (fq x) (fe x)) := by
  unfold fq fe
  by_cases h : fr x < 9218868437227405312
  · rw [if_pos h, if_pos h]
    cases hl : (FloatKind.f64.format.order x 0 == some .lt)
    · exact rof_pos x hx h hl
    · exact rof_neg x hx h hl
  · rw [if_neg h, if_neg h]
    by_cases h2 : fr x = 9218868437227405312
    · exact rof_ei x hx h2
    · exact rof_en x hx (fnan_of h h2)
end Go.Proofs.Ytnbhfgpnjhbkaaa
