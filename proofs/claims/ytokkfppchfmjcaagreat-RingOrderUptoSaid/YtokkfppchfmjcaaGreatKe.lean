/- WALKS OF RINGS, 5: what the document's examples say. -/
import Derived.Test.YtokkfppchfmjcaaGreatKb
import Derived.Test.YtokkfppchfmjcaaGreatKc
import Derived.Test.YtokkfppchfmjcaaGreatKd
namespace Go.Proofs.YtokkfppchfmjcaaGreat
set_option linter.unusedVariables false
set_option linter.unusedSimpArgs false
open Go.ChangeShapes Go.WideShapes Go.ChangeAt Go.RowKit Go.NatP

theorem rdqs2 {K : Nat} {W : World} {g : Nat} {i j : QI} (hc : Blk W g #[.bool i.s, .slice i.a i.n i.c, .slice i.b i.m i.d, .bool j.s, .slice j.a j.n j.c, .slice j.b j.m j.d])
    (h1 : RdQ K W i.s i.a i.n i.c i.b i.m i.d i.q) (h2 : RdQ K W j.s j.a j.n j.c j.b j.m j.d j.q) : RdQs K W (some ⟨g, 0, none⟩) 2 2 [i, j] := by
  refine ⟨rfl, Nat.le_refl _, by simp [maxLen], fun n hn => ?_⟩
  rcases (by omega : n = 0 ∨ n = 1) with rfl | rfl
  · exact ⟨h1, g, 0, rfl, hc.cell 0, hc.cell 1, hc.cell 2⟩
  · exact ⟨h2, g, 0, rfl, hc.cell 3, hc.cell 4, hc.cell 5⟩
/-- the greatest of the first k -/
def msm (xs : List QI) : Nat → Rat
  | 0 => 0
  | k + 1 => mxQ (msm xs k) (xs.getD k QI.o).q
theorem mxQ_qs {x y : Rat} {J : Nat} (hx : QS x J) (hy : QS y J) : QS (mxQ x y) J := by
  unfold mxQ; split
  · exact hy
  · exact hx
theorem msm_qs {K : Nat} {W : World} {sa : Option Addr} {n c : Nat} {xs : List QI} (h : RdQs K W sa n c xs) (hK : 1 ≤ K) : ∀ k, k ≤ n → QS (msm xs k) K
  | 0, _ => qs_zero.mono hK
  | k + 1, hk => mxQ_qs (msm_qs h hK k (by omega)) ((h.2.2.2 k hk).1.qs hK)
/-- a power -/
def rpw (x : Rat) : Nat → Rat
  | 0 => 1
  | k + 1 => rpw x k * x
theorem rpw_qs {x : Rat} {J : Nat} (h : QS x J) : ∀ k, QS (rpw x k) (k * J + 1)
  | 0 => show QS (1 : Rat) (0 * J + 1) from qs_lit (by decide) (by decide) (by omega)
  | k + 1 => ((rpw_qs h k).mul h).mono (by rw [Nat.add_mul]; omega)
theorem awake_nums : ∃ h12 h13 h23 h31 h11 h56 h827 h61 : Rat, Rat.divInt 1 2 = h12 ∧ Rat.divInt 1 3 = h13 ∧ Rat.divInt 2 3 = h23 ∧ Rat.divInt 3 1 = h31 ∧ Rat.divInt 1 1 = h11 ∧ Rat.divInt 5 6 = h56 ∧ Rat.divInt 8 27 = h827 ∧ Rat.divInt 6 1 = h61 ∧ QS h12 1 ∧ QS h13 1 ∧ QS h23 1 ∧ QS h31 1 ∧ QS h11 1 ∧ QS h56 1 ∧ QS h827 1 ∧ QS h61 1 ∧ 0 + h12 + h13 = h56 ∧ mxQ (mxQ 0 h12) h13 = h12 ∧ ((1 * h23) * h23) * h23 = h827 ∧ h31 * h11 + h11 * h31 = h61 :=
  ⟨_, _, _, _, _, _, _, _, rfl, rfl, rfl, rfl, rfl, rfl, rfl, rfl, qs_lit (by decide) (by decide) (Nat.le_refl _), qs_lit (by decide) (by decide) (Nat.le_refl _), qs_lit (by decide) (by decide) (Nat.le_refl _), qs_lit (by decide) (by decide) (Nat.le_refl _), qs_lit (by decide) (by decide) (Nat.le_refl _), qs_lit (by decide) (by decide) (Nat.le_refl _), qs_lit (by decide) (by decide) (Nat.le_refl _), qs_lit (by decide) (by decide) (Nat.le_refl _), by decide +kernel, by decide +kernel, by decide +kernel, by decide +kernel⟩
theorem feq_t {w : World} {a1 b1 : Option Addr} {n1 c1 m1 d1 : Nat} {s : Bool} {x : Rat} {a2 b2 : Option Addr} {n2 c2 m2 d2 : Nat} {t : Bool} {y : Rat} {J K : Nat} (hx : RdQ J w s a1 n1 c1 b1 m1 d1 x) (hJ : J ≤ 1000000) (hy : RdQ K w t a2 n2 c2 b2 m2 d2 y) (hK : K ≤ 1000000) (he : x = y) : Calls Tryz.prog 37 #[.agg #[.bool s, .slice a1 n1 c1, .slice b1 m1 d1], .agg #[.bool t, .slice a2 n2 c2, .slice b2 m2 d2]] w (RetBo w true) := by
  have h := fequal hx hJ hy hK
  rwa [show (cmpQ x y == 0) = true by rw [he, cmpQ_self]; rfl] at h

set_option maxRecDepth 100000 in
set_option maxHeartbeats 16000000 in
theorem kawake {w : World}  :
    Calls Tryz.prog 7 #[] w (fun e w' => e = .returned (.bool true) ∧ Below w.heap.size w w') := by
  obtain ⟨h12, h13, h23, h31, h11, h56, h827, h61, eh12, eh13, eh23, eh31, eh11, eh56, eh827, eh61, zh12, zh13, zh23, zh31, zh11, zh56, zh827, zh61, s1, s2, s3, s4⟩ := awake_nums
  have Hh12 := hid (fun w => (show Calls Tryz.prog 34 #[.int .i64 1, .int .i64 2] w (RetQ w h12) from eh12 ▸ fhalf (w := w) 1 2 (by omega) (by omega) (by omega) (by omega) (by omega)))
  have Qh12 := hid zh12
  clear eh12 zh12
  have Hh13 := hid (fun w => (show Calls Tryz.prog 34 #[.int .i64 1, .int .i64 3] w (RetQ w h13) from eh13 ▸ fhalf (w := w) 1 3 (by omega) (by omega) (by omega) (by omega) (by omega)))
  have Qh13 := hid zh13
  clear eh13 zh13
  have Hh23 := hid (fun w => (show Calls Tryz.prog 34 #[.int .i64 2, .int .i64 3] w (RetQ w h23) from eh23 ▸ fhalf (w := w) 2 3 (by omega) (by omega) (by omega) (by omega) (by omega)))
  have Qh23 := hid zh23
  clear eh23 zh23
  have Hh31 := hid (fun w => (show Calls Tryz.prog 34 #[.int .i64 3, .int .i64 1] w (RetQ w h31) from eh31 ▸ fhalf (w := w) 3 1 (by omega) (by omega) (by omega) (by omega) (by omega)))
  have Qh31 := hid zh31
  clear eh31 zh31
  have Hh11 := hid (fun w => (show Calls Tryz.prog 34 #[.int .i64 1, .int .i64 1] w (RetQ w h11) from eh11 ▸ fhalf (w := w) 1 1 (by omega) (by omega) (by omega) (by omega) (by omega)))
  have Qh11 := hid zh11
  clear eh11 zh11
  have Hh56 := hid (fun w => (show Calls Tryz.prog 34 #[.int .i64 5, .int .i64 6] w (RetQ w h56) from eh56 ▸ fhalf (w := w) 5 6 (by omega) (by omega) (by omega) (by omega) (by omega)))
  have Qh56 := hid zh56
  clear eh56 zh56
  have Hh827 := hid (fun w => (show Calls Tryz.prog 34 #[.int .i64 8, .int .i64 27] w (RetQ w h827) from eh827 ▸ fhalf (w := w) 8 27 (by omega) (by omega) (by omega) (by omega) (by omega)))
  have Qh827 := hid zh827
  clear eh827 zh827
  have Hh61 := hid (fun w => (show Calls Tryz.prog 34 #[.int .i64 6, .int .i64 1] w (RetQ w h61) from eh61 ▸ fhalf (w := w) 6 1 (by omega) (by omega) (by omega) (by omega) (by omega)))
  have Qh61 := hid zh61
  clear eh61 zh61
  have S1 := hid s1
  clear s1
  have S2 := hid s2
  clear s2
  have S3 := hid s3
  clear s3
  have S4 := hid s4
  clear s4
  go_enter Tryz.func7, Tryz.ntmps7
  have hbel_0 : Below w.heap.size w w := Below.refl _ _
  go_wp2_with fail
  refine (Hh12.out _).mono ?_
  rintro e w1 ⟨aa, an, ac, ab, am, ad, rfl, hO, hO', hDa, hB⟩
  have hB_1 : Below w.heap.size w w1 := (bl.next hB)
  have hbel_1 := hbel_0.next hB_1
  have hsz_1 := hB_1.size
  clear hbel_0 hB_1
  have Oa_1 := hO
  have ltOa := hO.ltB
  have Pa_1 := hO'
  have ltPa := hO'.ltB
  clear hO hO'
  try clear hB
  have Qa_1 := Oa_1.rdQ Pa_1 Qh12.out
  clear Oa_1
  clear Pa_1
  go_wp2_with fail
  refine (Hh13.out _).mono ?_
  rintro e w2 ⟨ba, bn, bc, bb, bm, bd, rfl, hO, hO', hDb, hB⟩
  have hB_2 : Below w1.heap.size w1 w2 := (bl.next hB)
  have Qa_2 := Qa_1.below hB_2
  have hbel_2 := hbel_1.next hB_2
  have hsz_2 := hB_2.size
  clear Qa_1 hbel_1 hB_2
  have Ob_2 := hO
  have ltOb := hO.ltB
  have Pb_2 := hO'
  have ltPb := hO'.ltB
  clear hO hO'
  try clear hB
  have Qb_2 := Ob_2.rdQ Pb_2 Qh13.out
  clear Ob_2
  clear Pb_2
  have hbx := blk_new w2 #[Value.bool (decide (h12.num < 0)), Value.slice aa an ac, Value.slice ab am ad, Value.bool (decide (h13.num < 0)), Value.slice ba bn bc, Value.slice bb bm bd] 39
  have hbB := (Below.refl w2.heap.size w2).alloc (Nat.le_refl _) (.cells #[Value.bool (decide (h12.num < 0)), Value.slice aa an ac, Value.slice ab am ad, Value.bool (decide (h13.num < 0)), Value.slice ba bn bc, Value.slice bb bm bd] 39)
  have hltLu := hbx.lt
  have hB_3 : Below w2.heap.size w2 (w2.alloc (.cells #[Value.bool (decide (h12.num < 0)), Value.slice aa an ac, Value.slice ab am ad, Value.bool (decide (h13.num < 0)), Value.slice ba bn bc, Value.slice bb bm bd] 39)) := hbB
  have Qa_3 := Qa_2.below hB_3
  have Qb_3 := Qb_2.below hB_3
  have hbel_3 := hbel_2.next hB_3
  have hsz_3 := hB_3.size
  clear hB_3
  have Lu_3 := hbx
  clear hbx hbB
  have cLu_3_0 : _ = some (Value.bool (decide (h12.num < 0))) := Lu_3.cell 0
  have cLu_3_1 : _ = some (Value.slice aa an ac) := Lu_3.cell 1
  have cLu_3_2 : _ = some (Value.slice ab am ad) := Lu_3.cell 2
  have cLu_3_3 : _ = some (Value.bool (decide (h13.num < 0))) := Lu_3.cell 3
  have cLu_3_4 : _ = some (Value.slice ba bn bc) := Lu_3.cell 4
  have cLu_3_5 : _ = some (Value.slice bb bm bd) := Lu_3.cell 5
  go_wp2_with fail
  clear Qa_2 Qb_2 hbel_2
  generalize (w2.alloc (.cells #[Value.bool (decide (h12.num < 0)), Value.slice aa an ac, Value.slice ab am ad, Value.bool (decide (h13.num < 0)), Value.slice ba bn bc, Value.slice bb bm bd] 39)) = v3 at *
  have HL := rdqs2 (i := (⟨(decide (h12.num < 0)), aa, an, ac, ab, am, ad, h12⟩ : QI)) (j := (⟨(decide (h13.num < 0)), ba, bn, bc, bb, bm, bd, h13⟩ : QI)) Lu_3 Qa_3 Qb_3
  have HS := hid (fun k (hk : k ≤ 2) => (HL.sum (Nat.le_refl _) k hk).mono (show k * (1 + 1) + 1 ≤ 5 by omega))
  have e1 : qsm [(⟨(decide (h12.num < 0)), aa, an, ac, ab, am, ad, h12⟩ : QI), (⟨(decide (h13.num < 0)), ba, bn, bc, bb, bm, bd, h13⟩ : QI)] 2 = h56 := S1.out
  go_wp2_with fail
  refine (ksum_add (qsm _) rfl (fun _ _ => rfl) HL (by omega : 1 ≤ 5) (by omega) (Nat.le_refl _) (by omega) HS.out).mono ?_
  rw [e1]
  rintro e w4 ⟨ua, un, uc, ub, um, ud, rfl, hO, hO', hDu, hB⟩
  have hB_4 : Below v3.heap.size v3 w4 := (bl.next hB)
  have Lu_4 := Lu_3.next hB_4
  have cLu_4_0 : _ = some (Value.bool (decide (h12.num < 0))) := Lu_4.cell 0
  have cLu_4_1 : _ = some (Value.slice aa an ac) := Lu_4.cell 1
  have cLu_4_2 : _ = some (Value.slice ab am ad) := Lu_4.cell 2
  have cLu_4_3 : _ = some (Value.bool (decide (h13.num < 0))) := Lu_4.cell 3
  have cLu_4_4 : _ = some (Value.slice ba bn bc) := Lu_4.cell 4
  have cLu_4_5 : _ = some (Value.slice bb bm bd) := Lu_4.cell 5
  have Qa_4 := Qa_3.below hB_4
  have Qb_4 := Qb_3.below hB_4
  have hbel_4 := hbel_3.next hB_4
  have hsz_4 := hB_4.size
  clear Lu_3 cLu_3_0 cLu_3_1 cLu_3_2 cLu_3_3 cLu_3_4 cLu_3_5 Qa_3 Qb_3 hbel_3 hB_4
  have Ou_4 := hO
  have ltOu := hO.ltB
  have Pu_4 := hO'
  have ltPu := hO'.ltB
  clear hO hO'
  try clear hB
  clear HL HS e1
  clear Qa_4
  clear Qb_4
  have hbx := blk_new w4 #[Value.bool (decide (h56.num < 0)), Value.slice ua un uc, Value.slice ub um ud] 39
  have hbB := (Below.refl w4.heap.size w4).alloc (Nat.le_refl _) (.cells #[Value.bool (decide (h56.num < 0)), Value.slice ua un uc, Value.slice ub um ud] 39)
  have hltSu := hbx.lt
  have hB_5 : Below w4.heap.size w4 (w4.alloc (.cells #[Value.bool (decide (h56.num < 0)), Value.slice ua un uc, Value.slice ub um ud] 39)) := hbB
  have Ou_5 := Ou_4.below hB_5
  have Pu_5 := Pu_4.below hB_5
  have hbel_5 := hbel_4.next hB_5
  have hsz_5 := hB_5.size
  clear hB_5
  have Su_5 := hbx
  clear hbx hbB
  have cSu_5_0 : _ = some (Value.bool (decide (h56.num < 0))) := Su_5.cell 0
  have cSu_5_1 : _ = some (Value.slice ua un uc) := Su_5.cell 1
  have cSu_5_2 : _ = some (Value.slice ub um ud) := Su_5.cell 2
  go_wp2_with fail
  clear Ou_4 Pu_4 hbel_4
  generalize (w4.alloc (.cells #[Value.bool (decide (h56.num < 0)), Value.slice ua un uc, Value.slice ub um ud] 39)) = v5 at *
  go_wp2_with fail
  refine (Hh12.out _).mono ?_
  rintro e w6 ⟨ca, cn, cc, cb, cm, cd, rfl, hO, hO', hDc, hB⟩
  have hB_6 : Below v5.heap.size v5 w6 := (bl.next hB)
  have Su_6 := Su_5.next hB_6
  have cSu_6_0 : _ = some (Value.bool (decide (h56.num < 0))) := Su_6.cell 0
  have cSu_6_1 : _ = some (Value.slice ua un uc) := Su_6.cell 1
  have cSu_6_2 : _ = some (Value.slice ub um ud) := Su_6.cell 2
  have Ou_6 := Ou_5.below hB_6
  have Pu_6 := Pu_5.below hB_6
  have hbel_6 := hbel_5.next hB_6
  have hsz_6 := hB_6.size
  clear Su_5 cSu_5_0 cSu_5_1 cSu_5_2 Ou_5 Pu_5 hbel_5 hB_6
  have Oc_6 := hO
  have ltOc := hO.ltB
  have Pc_6 := hO'
  have ltPc := hO'.ltB
  clear hO hO'
  try clear hB
  have Qc_6 := Oc_6.rdQ Pc_6 Qh12.out
  clear Oc_6
  clear Pc_6
  go_wp2_with fail
  refine (Hh13.out _).mono ?_
  rintro e w7 ⟨da, dn, dc, db, dm, dd, rfl, hO, hO', hDd, hB⟩
  have hB_7 : Below w6.heap.size w6 w7 := (bl.next hB)
  have Su_7 := Su_6.next hB_7
  have cSu_7_0 : _ = some (Value.bool (decide (h56.num < 0))) := Su_7.cell 0
  have cSu_7_1 : _ = some (Value.slice ua un uc) := Su_7.cell 1
  have cSu_7_2 : _ = some (Value.slice ub um ud) := Su_7.cell 2
  have Ou_7 := Ou_6.below hB_7
  have Pu_7 := Pu_6.below hB_7
  have Qc_7 := Qc_6.below hB_7
  have hbel_7 := hbel_6.next hB_7
  have hsz_7 := hB_7.size
  clear Su_6 cSu_6_0 cSu_6_1 cSu_6_2 Ou_6 Pu_6 Qc_6 hbel_6 hB_7
  have Od_7 := hO
  have ltOd := hO.ltB
  have Pd_7 := hO'
  have ltPd := hO'.ltB
  clear hO hO'
  try clear hB
  have Qd_7 := Od_7.rdQ Pd_7 Qh13.out
  clear Od_7
  clear Pd_7
  have hbx := blk_new w7 #[Value.bool (decide (h12.num < 0)), Value.slice ca cn cc, Value.slice cb cm cd, Value.bool (decide (h13.num < 0)), Value.slice da dn dc, Value.slice db dm dd] 39
  have hbB := (Below.refl w7.heap.size w7).alloc (Nat.le_refl _) (.cells #[Value.bool (decide (h12.num < 0)), Value.slice ca cn cc, Value.slice cb cm cd, Value.bool (decide (h13.num < 0)), Value.slice da dn dc, Value.slice db dm dd] 39)
  have hltLv := hbx.lt
  have hB_8 : Below w7.heap.size w7 (w7.alloc (.cells #[Value.bool (decide (h12.num < 0)), Value.slice ca cn cc, Value.slice cb cm cd, Value.bool (decide (h13.num < 0)), Value.slice da dn dc, Value.slice db dm dd] 39)) := hbB
  have Su_8 := Su_7.next hB_8
  have cSu_8_0 : _ = some (Value.bool (decide (h56.num < 0))) := Su_8.cell 0
  have cSu_8_1 : _ = some (Value.slice ua un uc) := Su_8.cell 1
  have cSu_8_2 : _ = some (Value.slice ub um ud) := Su_8.cell 2
  have Ou_8 := Ou_7.below hB_8
  have Pu_8 := Pu_7.below hB_8
  have Qc_8 := Qc_7.below hB_8
  have Qd_8 := Qd_7.below hB_8
  have hbel_8 := hbel_7.next hB_8
  have hsz_8 := hB_8.size
  clear hB_8
  have Lv_8 := hbx
  clear hbx hbB
  have cLv_8_0 : _ = some (Value.bool (decide (h12.num < 0))) := Lv_8.cell 0
  have cLv_8_1 : _ = some (Value.slice ca cn cc) := Lv_8.cell 1
  have cLv_8_2 : _ = some (Value.slice cb cm cd) := Lv_8.cell 2
  have cLv_8_3 : _ = some (Value.bool (decide (h13.num < 0))) := Lv_8.cell 3
  have cLv_8_4 : _ = some (Value.slice da dn dc) := Lv_8.cell 4
  have cLv_8_5 : _ = some (Value.slice db dm dd) := Lv_8.cell 5
  go_wp2_with fail
  clear Su_7 cSu_7_0 cSu_7_1 cSu_7_2 Ou_7 Pu_7 Qc_7 Qd_7 hbel_7
  generalize (w7.alloc (.cells #[Value.bool (decide (h12.num < 0)), Value.slice ca cn cc, Value.slice cb cm cd, Value.bool (decide (h13.num < 0)), Value.slice da dn dc, Value.slice db dm dd] 39)) = v8 at *
  have HL := rdqs2 (i := (⟨(decide (h12.num < 0)), ca, cn, cc, cb, cm, cd, h12⟩ : QI)) (j := (⟨(decide (h13.num < 0)), da, dn, dc, db, dm, dd, h13⟩ : QI)) Lv_8 Qc_8 Qd_8
  have HS := hid (fun k (hk : k ≤ 2) => (msm_qs HL (Nat.le_refl _) k hk).mono (show 1 ≤ 5 by omega))
  have e1 : msm [(⟨(decide (h12.num < 0)), ca, cn, cc, cb, cm, cd, h12⟩ : QI), (⟨(decide (h13.num < 0)), da, dn, dc, db, dm, dd, h13⟩ : QI)] 2 = h12 := S2.out
  go_wp2_with fail
  refine (ksum_most (msm _) rfl (fun _ _ => rfl) HL (by omega : 1 ≤ 5) (by omega) (Nat.le_refl _) (by omega) HS.out).mono ?_
  rw [e1]
  rintro e w9 ⟨va, vn, vc, vb, vm, vd, rfl, hO, hO', hDv, hB⟩
  have hB_9 : Below v8.heap.size v8 w9 := (bl.next hB)
  have Su_9 := Su_8.next hB_9
  have cSu_9_0 : _ = some (Value.bool (decide (h56.num < 0))) := Su_9.cell 0
  have cSu_9_1 : _ = some (Value.slice ua un uc) := Su_9.cell 1
  have cSu_9_2 : _ = some (Value.slice ub um ud) := Su_9.cell 2
  have Lv_9 := Lv_8.next hB_9
  have cLv_9_0 : _ = some (Value.bool (decide (h12.num < 0))) := Lv_9.cell 0
  have cLv_9_1 : _ = some (Value.slice ca cn cc) := Lv_9.cell 1
  have cLv_9_2 : _ = some (Value.slice cb cm cd) := Lv_9.cell 2
  have cLv_9_3 : _ = some (Value.bool (decide (h13.num < 0))) := Lv_9.cell 3
  have cLv_9_4 : _ = some (Value.slice da dn dc) := Lv_9.cell 4
  have cLv_9_5 : _ = some (Value.slice db dm dd) := Lv_9.cell 5
  have Ou_9 := Ou_8.below hB_9
  have Pu_9 := Pu_8.below hB_9
  have Qc_9 := Qc_8.below hB_9
  have Qd_9 := Qd_8.below hB_9
  have hbel_9 := hbel_8.next hB_9
  have hsz_9 := hB_9.size
  clear Su_8 cSu_8_0 cSu_8_1 cSu_8_2 Lv_8 cLv_8_0 cLv_8_1 cLv_8_2 cLv_8_3 cLv_8_4 cLv_8_5 Ou_8 Pu_8 Qc_8 Qd_8 hbel_8 hB_9
  have Ov_9 := hO
  have ltOv := hO.ltB
  have Pv_9 := hO'
  have ltPv := hO'.ltB
  clear hO hO'
  try clear hB
  clear HL HS e1
  clear Qc_9
  clear Qd_9
  have hbx := blk_new w9 #[Value.bool (decide (h12.num < 0)), Value.slice va vn vc, Value.slice vb vm vd] 39
  have hbB := (Below.refl w9.heap.size w9).alloc (Nat.le_refl _) (.cells #[Value.bool (decide (h12.num < 0)), Value.slice va vn vc, Value.slice vb vm vd] 39)
  have hltSv := hbx.lt
  have hB_10 : Below w9.heap.size w9 (w9.alloc (.cells #[Value.bool (decide (h12.num < 0)), Value.slice va vn vc, Value.slice vb vm vd] 39)) := hbB
  have Su_10 := Su_9.next hB_10
  have cSu_10_0 : _ = some (Value.bool (decide (h56.num < 0))) := Su_10.cell 0
  have cSu_10_1 : _ = some (Value.slice ua un uc) := Su_10.cell 1
  have cSu_10_2 : _ = some (Value.slice ub um ud) := Su_10.cell 2
  have Ou_10 := Ou_9.below hB_10
  have Pu_10 := Pu_9.below hB_10
  have Ov_10 := Ov_9.below hB_10
  have Pv_10 := Pv_9.below hB_10
  have hbel_10 := hbel_9.next hB_10
  have hsz_10 := hB_10.size
  clear hB_10
  have Sv_10 := hbx
  clear hbx hbB
  have cSv_10_0 : _ = some (Value.bool (decide (h12.num < 0))) := Sv_10.cell 0
  have cSv_10_1 : _ = some (Value.slice va vn vc) := Sv_10.cell 1
  have cSv_10_2 : _ = some (Value.slice vb vm vd) := Sv_10.cell 2
  go_wp2_with fail
  clear Su_9 cSu_9_0 cSu_9_1 cSu_9_2 Ou_9 Pu_9 Ov_9 Pv_9 hbel_9
  generalize (w9.alloc (.cells #[Value.bool (decide (h12.num < 0)), Value.slice va vn vc, Value.slice vb vm vd] 39)) = v10 at *
  have QU_10 := Ou_10.rdQ Pu_10 Qh56.out
  have QV_10 := Ov_10.rdQ Pv_10 Qh12.out
  clear Ou_10
  clear Pu_10
  clear Ov_10
  clear Pv_10
  go_wp2_with fail
  refine (Hh23.out _).mono ?_
  rintro e w11 ⟨pa, pn, pc, pb, pm, pd, rfl, hO, hO', hDp, hB⟩
  have hB_11 : Below v10.heap.size v10 w11 := (bl.next hB)
  have Su_11 := Su_10.next hB_11
  have cSu_11_0 : _ = some (Value.bool (decide (h56.num < 0))) := Su_11.cell 0
  have cSu_11_1 : _ = some (Value.slice ua un uc) := Su_11.cell 1
  have cSu_11_2 : _ = some (Value.slice ub um ud) := Su_11.cell 2
  have Sv_11 := Sv_10.next hB_11
  have cSv_11_0 : _ = some (Value.bool (decide (h12.num < 0))) := Sv_11.cell 0
  have cSv_11_1 : _ = some (Value.slice va vn vc) := Sv_11.cell 1
  have cSv_11_2 : _ = some (Value.slice vb vm vd) := Sv_11.cell 2
  have QU_11 := QU_10.below hB_11
  have QV_11 := QV_10.below hB_11
  have hbel_11 := hbel_10.next hB_11
  have hsz_11 := hB_11.size
  clear Su_10 cSu_10_0 cSu_10_1 cSu_10_2 Sv_10 cSv_10_0 cSv_10_1 cSv_10_2 QU_10 QV_10 hbel_10 hB_11
  have Op_11 := hO
  have ltOp := hO.ltB
  have Pp_11 := hO'
  have ltPp := hO'.ltB
  clear hO hO'
  try clear hB
  have Qp_11 := Op_11.rdQ Pp_11 Qh23.out
  clear Op_11
  clear Pp_11
  have HS := hid (fun k (hk : k ≤ 3) => (rpw_qs Qh23.out k).mono (show k * 1 + 1 ≤ 4 by omega))
  have e1 : rpw h23 3 = h827 := S3.out
  go_wp2_with fail
  refine ((kpower 3 (by omega) (rpw h23) rfl (fun _ _ => rfl) (Qp_11.mono (by omega)) (by omega : 1 ≤ 4) (by omega) HS.out).mono fun e w' h => retqe_ok h rfl).mono ?_
  rw [e1]
  rintro e w12 ⟨ra, rn, rc, rb, rm, rd, rfl, hO, hO', hDr, hB⟩
  have hB_12 : Below w11.heap.size w11 w12 := (bl.next hB)
  have Su_12 := Su_11.next hB_12
  have cSu_12_0 : _ = some (Value.bool (decide (h56.num < 0))) := Su_12.cell 0
  have cSu_12_1 : _ = some (Value.slice ua un uc) := Su_12.cell 1
  have cSu_12_2 : _ = some (Value.slice ub um ud) := Su_12.cell 2
  have Sv_12 := Sv_11.next hB_12
  have cSv_12_0 : _ = some (Value.bool (decide (h12.num < 0))) := Sv_12.cell 0
  have cSv_12_1 : _ = some (Value.slice va vn vc) := Sv_12.cell 1
  have cSv_12_2 : _ = some (Value.slice vb vm vd) := Sv_12.cell 2
  have QU_12 := QU_11.below hB_12
  have QV_12 := QV_11.below hB_12
  have Qp_12 := Qp_11.below hB_12
  have hbel_12 := hbel_11.next hB_12
  have hsz_12 := hB_12.size
  clear Su_11 cSu_11_0 cSu_11_1 cSu_11_2 Sv_11 cSv_11_0 cSv_11_1 cSv_11_2 QU_11 QV_11 Qp_11 hbel_11 hB_12
  have Or_12 := hO
  have ltOr := hO.ltB
  have Pr_12 := hO'
  have ltPr := hO'.ltB
  clear hO hO'
  try clear hB
  clear HS e1
  clear Qp_12
  have hbx := blk_new w12 #[Value.bool (decide (h827.num < 0)), Value.slice ra rn rc, Value.slice rb rm rd] 39
  have hbB := (Below.refl w12.heap.size w12).alloc (Nat.le_refl _) (.cells #[Value.bool (decide (h827.num < 0)), Value.slice ra rn rc, Value.slice rb rm rd] 39)
  have hltSR := hbx.lt
  have hB_13 : Below w12.heap.size w12 (w12.alloc (.cells #[Value.bool (decide (h827.num < 0)), Value.slice ra rn rc, Value.slice rb rm rd] 39)) := hbB
  have Su_13 := Su_12.next hB_13
  have cSu_13_0 : _ = some (Value.bool (decide (h56.num < 0))) := Su_13.cell 0
  have cSu_13_1 : _ = some (Value.slice ua un uc) := Su_13.cell 1
  have cSu_13_2 : _ = some (Value.slice ub um ud) := Su_13.cell 2
  have Sv_13 := Sv_12.next hB_13
  have cSv_13_0 : _ = some (Value.bool (decide (h12.num < 0))) := Sv_13.cell 0
  have cSv_13_1 : _ = some (Value.slice va vn vc) := Sv_13.cell 1
  have cSv_13_2 : _ = some (Value.slice vb vm vd) := Sv_13.cell 2
  have QU_13 := QU_12.below hB_13
  have QV_13 := QV_12.below hB_13
  have Or_13 := Or_12.below hB_13
  have Pr_13 := Pr_12.below hB_13
  have hbel_13 := hbel_12.next hB_13
  have hsz_13 := hB_13.size
  clear hB_13
  have SR_13 := hbx
  clear hbx hbB
  have cSR_13_0 : _ = some (Value.bool (decide (h827.num < 0))) := SR_13.cell 0
  have cSR_13_1 : _ = some (Value.slice ra rn rc) := SR_13.cell 1
  have cSR_13_2 : _ = some (Value.slice rb rm rd) := SR_13.cell 2
  go_wp2_with fail
  clear Su_12 cSu_12_0 cSu_12_1 cSu_12_2 Sv_12 cSv_12_0 cSv_12_1 cSv_12_2 QU_12 QV_12 Or_12 Pr_12 hbel_12
  generalize (w12.alloc (.cells #[Value.bool (decide (h827.num < 0)), Value.slice ra rn rc, Value.slice rb rm rd] 39)) = v13 at *
  have QR_13 := Or_13.rdQ Pr_13 Qh827.out
  clear Or_13
  clear Pr_13
  go_wp2_with fail
  refine (Hh23.out _).mono ?_
  rintro e w14 ⟨oa, on, oc, ob, om, od, rfl, hO, hO', hDo, hB⟩
  have hB_14 : Below v13.heap.size v13 w14 := (bl.next hB)
  have Su_14 := Su_13.next hB_14
  have cSu_14_0 : _ = some (Value.bool (decide (h56.num < 0))) := Su_14.cell 0
  have cSu_14_1 : _ = some (Value.slice ua un uc) := Su_14.cell 1
  have cSu_14_2 : _ = some (Value.slice ub um ud) := Su_14.cell 2
  have Sv_14 := Sv_13.next hB_14
  have cSv_14_0 : _ = some (Value.bool (decide (h12.num < 0))) := Sv_14.cell 0
  have cSv_14_1 : _ = some (Value.slice va vn vc) := Sv_14.cell 1
  have cSv_14_2 : _ = some (Value.slice vb vm vd) := Sv_14.cell 2
  have SR_14 := SR_13.next hB_14
  have cSR_14_0 : _ = some (Value.bool (decide (h827.num < 0))) := SR_14.cell 0
  have cSR_14_1 : _ = some (Value.slice ra rn rc) := SR_14.cell 1
  have cSR_14_2 : _ = some (Value.slice rb rm rd) := SR_14.cell 2
  have QU_14 := QU_13.below hB_14
  have QV_14 := QV_13.below hB_14
  have QR_14 := QR_13.below hB_14
  have hbel_14 := hbel_13.next hB_14
  have hsz_14 := hB_14.size
  clear Su_13 cSu_13_0 cSu_13_1 cSu_13_2 Sv_13 cSv_13_0 cSv_13_1 cSv_13_2 SR_13 cSR_13_0 cSR_13_1 cSR_13_2 QU_13 QV_13 QR_13 hbel_13 hB_14
  have Oo_14 := hO
  have ltOo := hO.ltB
  have Po_14 := hO'
  have ltPo := hO'.ltB
  clear hO hO'
  try clear hB
  have Qo_14 := Oo_14.rdQ Po_14 Qh23.out
  clear Oo_14
  clear Po_14
  go_wp2_with fail
  refine (kpower_nil (-1) 0).mono ?_
  rintro e w15 ⟨na, nn, nc, nb, nm, nd, rfl, hO, hO', hDn, hB⟩
  have hB_15 : Below w14.heap.size w14 w15 := (bl.next hB)
  have Su_15 := Su_14.next hB_15
  have cSu_15_0 : _ = some (Value.bool (decide (h56.num < 0))) := Su_15.cell 0
  have cSu_15_1 : _ = some (Value.slice ua un uc) := Su_15.cell 1
  have cSu_15_2 : _ = some (Value.slice ub um ud) := Su_15.cell 2
  have Sv_15 := Sv_14.next hB_15
  have cSv_15_0 : _ = some (Value.bool (decide (h12.num < 0))) := Sv_15.cell 0
  have cSv_15_1 : _ = some (Value.slice va vn vc) := Sv_15.cell 1
  have cSv_15_2 : _ = some (Value.slice vb vm vd) := Sv_15.cell 2
  have SR_15 := SR_14.next hB_15
  have cSR_15_0 : _ = some (Value.bool (decide (h827.num < 0))) := SR_15.cell 0
  have cSR_15_1 : _ = some (Value.slice ra rn rc) := SR_15.cell 1
  have cSR_15_2 : _ = some (Value.slice rb rm rd) := SR_15.cell 2
  have QU_15 := QU_14.below hB_15
  have QV_15 := QV_14.below hB_15
  have QR_15 := QR_14.below hB_15
  have Qo_15 := Qo_14.below hB_15
  have hbel_15 := hbel_14.next hB_15
  have hsz_15 := hB_15.size
  clear Su_14 cSu_14_0 cSu_14_1 cSu_14_2 Sv_14 cSv_14_0 cSv_14_1 cSv_14_2 SR_14 cSR_14_0 cSR_14_1 cSR_14_2 QU_14 QV_14 QR_14 Qo_14 hbel_14 hB_15
  clear hO hO' hDn
  try clear hB
  clear Qo_15
  have hbx := blk_new w15 #[Value.bool (qsg 0 2), Value.slice na nn nc, Value.slice nb nm nd] 39
  have hbB := (Below.refl w15.heap.size w15).alloc (Nat.le_refl _) (.cells #[Value.bool (qsg 0 2), Value.slice na nn nc, Value.slice nb nm nd] 39)
  have hltSN := hbx.lt
  have hB_16 : Below w15.heap.size w15 (w15.alloc (.cells #[Value.bool (qsg 0 2), Value.slice na nn nc, Value.slice nb nm nd] 39)) := hbB
  have Su_16 := Su_15.next hB_16
  have cSu_16_0 : _ = some (Value.bool (decide (h56.num < 0))) := Su_16.cell 0
  have cSu_16_1 : _ = some (Value.slice ua un uc) := Su_16.cell 1
  have cSu_16_2 : _ = some (Value.slice ub um ud) := Su_16.cell 2
  have Sv_16 := Sv_15.next hB_16
  have cSv_16_0 : _ = some (Value.bool (decide (h12.num < 0))) := Sv_16.cell 0
  have cSv_16_1 : _ = some (Value.slice va vn vc) := Sv_16.cell 1
  have cSv_16_2 : _ = some (Value.slice vb vm vd) := Sv_16.cell 2
  have SR_16 := SR_15.next hB_16
  have cSR_16_0 : _ = some (Value.bool (decide (h827.num < 0))) := SR_16.cell 0
  have cSR_16_1 : _ = some (Value.slice ra rn rc) := SR_16.cell 1
  have cSR_16_2 : _ = some (Value.slice rb rm rd) := SR_16.cell 2
  have QU_16 := QU_15.below hB_16
  have QV_16 := QV_15.below hB_16
  have QR_16 := QR_15.below hB_16
  have hbel_16 := hbel_15.next hB_16
  have hsz_16 := hB_16.size
  clear hB_16
  have SN_16 := hbx
  clear hbx hbB
  have cSN_16_0 : _ = some (Value.bool (qsg 0 2)) := SN_16.cell 0
  have cSN_16_1 : _ = some (Value.slice na nn nc) := SN_16.cell 1
  have cSN_16_2 : _ = some (Value.slice nb nm nd) := SN_16.cell 2
  go_wp2_with fail
  clear Su_15 cSu_15_0 cSu_15_1 cSu_15_2 Sv_15 cSv_15_0 cSv_15_1 cSv_15_2 SR_15 cSR_15_0 cSR_15_1 cSR_15_2 QU_15 QV_15 QR_15 hbel_15
  generalize (w15.alloc (.cells #[Value.bool (qsg 0 2), Value.slice na nn nc, Value.slice nb nm nd] 39)) = v16 at *
  go_wp2_with fail
  refine (Hh31.out _).mono ?_
  rintro e w17 ⟨ga, gn, gc, gb, gm, gd, rfl, hO, hO', hDg, hB⟩
  have hB_17 : Below v16.heap.size v16 w17 := (bl.next hB)
  have Su_17 := Su_16.next hB_17
  have cSu_17_0 : _ = some (Value.bool (decide (h56.num < 0))) := Su_17.cell 0
  have cSu_17_1 : _ = some (Value.slice ua un uc) := Su_17.cell 1
  have cSu_17_2 : _ = some (Value.slice ub um ud) := Su_17.cell 2
  have Sv_17 := Sv_16.next hB_17
  have cSv_17_0 : _ = some (Value.bool (decide (h12.num < 0))) := Sv_17.cell 0
  have cSv_17_1 : _ = some (Value.slice va vn vc) := Sv_17.cell 1
  have cSv_17_2 : _ = some (Value.slice vb vm vd) := Sv_17.cell 2
  have SR_17 := SR_16.next hB_17
  have cSR_17_0 : _ = some (Value.bool (decide (h827.num < 0))) := SR_17.cell 0
  have cSR_17_1 : _ = some (Value.slice ra rn rc) := SR_17.cell 1
  have cSR_17_2 : _ = some (Value.slice rb rm rd) := SR_17.cell 2
  have SN_17 := SN_16.next hB_17
  have cSN_17_0 : _ = some (Value.bool (qsg 0 2)) := SN_17.cell 0
  have cSN_17_1 : _ = some (Value.slice na nn nc) := SN_17.cell 1
  have cSN_17_2 : _ = some (Value.slice nb nm nd) := SN_17.cell 2
  have QU_17 := QU_16.below hB_17
  have QV_17 := QV_16.below hB_17
  have QR_17 := QR_16.below hB_17
  have hbel_17 := hbel_16.next hB_17
  have hsz_17 := hB_17.size
  clear Su_16 cSu_16_0 cSu_16_1 cSu_16_2 Sv_16 cSv_16_0 cSv_16_1 cSv_16_2 SR_16 cSR_16_0 cSR_16_1 cSR_16_2 SN_16 cSN_16_0 cSN_16_1 cSN_16_2 QU_16 QV_16 QR_16 hbel_16 hB_17
  have Og_17 := hO
  have ltOg := hO.ltB
  have Pg_17 := hO'
  have ltPg := hO'.ltB
  clear hO hO'
  try clear hB
  have Qg_17 := Og_17.rdQ Pg_17 Qh31.out
  clear Og_17
  clear Pg_17
  go_wp2_with fail
  refine (Hh11.out _).mono ?_
  rintro e w18 ⟨ha, hn, hc, hb, hm, hd, rfl, hO, hO', hDh, hB⟩
  have hB_18 : Below w17.heap.size w17 w18 := (bl.next hB)
  have Su_18 := Su_17.next hB_18
  have cSu_18_0 : _ = some (Value.bool (decide (h56.num < 0))) := Su_18.cell 0
  have cSu_18_1 : _ = some (Value.slice ua un uc) := Su_18.cell 1
  have cSu_18_2 : _ = some (Value.slice ub um ud) := Su_18.cell 2
  have Sv_18 := Sv_17.next hB_18
  have cSv_18_0 : _ = some (Value.bool (decide (h12.num < 0))) := Sv_18.cell 0
  have cSv_18_1 : _ = some (Value.slice va vn vc) := Sv_18.cell 1
  have cSv_18_2 : _ = some (Value.slice vb vm vd) := Sv_18.cell 2
  have SR_18 := SR_17.next hB_18
  have cSR_18_0 : _ = some (Value.bool (decide (h827.num < 0))) := SR_18.cell 0
  have cSR_18_1 : _ = some (Value.slice ra rn rc) := SR_18.cell 1
  have cSR_18_2 : _ = some (Value.slice rb rm rd) := SR_18.cell 2
  have SN_18 := SN_17.next hB_18
  have cSN_18_0 : _ = some (Value.bool (qsg 0 2)) := SN_18.cell 0
  have cSN_18_1 : _ = some (Value.slice na nn nc) := SN_18.cell 1
  have cSN_18_2 : _ = some (Value.slice nb nm nd) := SN_18.cell 2
  have QU_18 := QU_17.below hB_18
  have QV_18 := QV_17.below hB_18
  have QR_18 := QR_17.below hB_18
  have Qg_18 := Qg_17.below hB_18
  have hbel_18 := hbel_17.next hB_18
  have hsz_18 := hB_18.size
  clear Su_17 cSu_17_0 cSu_17_1 cSu_17_2 Sv_17 cSv_17_0 cSv_17_1 cSv_17_2 SR_17 cSR_17_0 cSR_17_1 cSR_17_2 SN_17 cSN_17_0 cSN_17_1 cSN_17_2 QU_17 QV_17 QR_17 Qg_17 hbel_17 hB_18
  have Oh_18 := hO
  have ltOh := hO.ltB
  have Ph_18 := hO'
  have ltPh := hO'.ltB
  clear hO hO'
  try clear hB
  have Qh_18 := Oh_18.rdQ Ph_18 Qh11.out
  clear Oh_18
  clear Ph_18
  go_wp2_with fail
  refine (Hh31.out _).mono ?_
  rintro e w19 ⟨ya, yn, yc, yb, ym, yd, rfl, hO, hO', hDy, hB⟩
  have hB_19 : Below w18.heap.size w18 w19 := (bl.next hB)
  have Su_19 := Su_18.next hB_19
  have cSu_19_0 : _ = some (Value.bool (decide (h56.num < 0))) := Su_19.cell 0
  have cSu_19_1 : _ = some (Value.slice ua un uc) := Su_19.cell 1
  have cSu_19_2 : _ = some (Value.slice ub um ud) := Su_19.cell 2
  have Sv_19 := Sv_18.next hB_19
  have cSv_19_0 : _ = some (Value.bool (decide (h12.num < 0))) := Sv_19.cell 0
  have cSv_19_1 : _ = some (Value.slice va vn vc) := Sv_19.cell 1
  have cSv_19_2 : _ = some (Value.slice vb vm vd) := Sv_19.cell 2
  have SR_19 := SR_18.next hB_19
  have cSR_19_0 : _ = some (Value.bool (decide (h827.num < 0))) := SR_19.cell 0
  have cSR_19_1 : _ = some (Value.slice ra rn rc) := SR_19.cell 1
  have cSR_19_2 : _ = some (Value.slice rb rm rd) := SR_19.cell 2
  have SN_19 := SN_18.next hB_19
  have cSN_19_0 : _ = some (Value.bool (qsg 0 2)) := SN_19.cell 0
  have cSN_19_1 : _ = some (Value.slice na nn nc) := SN_19.cell 1
  have cSN_19_2 : _ = some (Value.slice nb nm nd) := SN_19.cell 2
  have QU_19 := QU_18.below hB_19
  have QV_19 := QV_18.below hB_19
  have QR_19 := QR_18.below hB_19
  have Qg_19 := Qg_18.below hB_19
  have Qh_19 := Qh_18.below hB_19
  have hbel_19 := hbel_18.next hB_19
  have hsz_19 := hB_19.size
  clear Su_18 cSu_18_0 cSu_18_1 cSu_18_2 Sv_18 cSv_18_0 cSv_18_1 cSv_18_2 SR_18 cSR_18_0 cSR_18_1 cSR_18_2 SN_18 cSN_18_0 cSN_18_1 cSN_18_2 QU_18 QV_18 QR_18 Qg_18 Qh_18 hbel_18 hB_19
  have Oy_19 := hO
  have ltOy := hO.ltB
  have Py_19 := hO'
  have ltPy := hO'.ltB
  clear hO hO'
  try clear hB
  have Qy_19 := Oy_19.rdQ Py_19 Qh31.out
  clear Oy_19
  clear Py_19
  go_wp2_with fail
  refine (Hh11.out _).mono ?_
  rintro e w20 ⟨ja, jn, jc, jb, jm, jd, rfl, hO, hO', hDj, hB⟩
  have hB_20 : Below w19.heap.size w19 w20 := (bl.next hB)
  have Su_20 := Su_19.next hB_20
  have cSu_20_0 : _ = some (Value.bool (decide (h56.num < 0))) := Su_20.cell 0
  have cSu_20_1 : _ = some (Value.slice ua un uc) := Su_20.cell 1
  have cSu_20_2 : _ = some (Value.slice ub um ud) := Su_20.cell 2
  have Sv_20 := Sv_19.next hB_20
  have cSv_20_0 : _ = some (Value.bool (decide (h12.num < 0))) := Sv_20.cell 0
  have cSv_20_1 : _ = some (Value.slice va vn vc) := Sv_20.cell 1
  have cSv_20_2 : _ = some (Value.slice vb vm vd) := Sv_20.cell 2
  have SR_20 := SR_19.next hB_20
  have cSR_20_0 : _ = some (Value.bool (decide (h827.num < 0))) := SR_20.cell 0
  have cSR_20_1 : _ = some (Value.slice ra rn rc) := SR_20.cell 1
  have cSR_20_2 : _ = some (Value.slice rb rm rd) := SR_20.cell 2
  have SN_20 := SN_19.next hB_20
  have cSN_20_0 : _ = some (Value.bool (qsg 0 2)) := SN_20.cell 0
  have cSN_20_1 : _ = some (Value.slice na nn nc) := SN_20.cell 1
  have cSN_20_2 : _ = some (Value.slice nb nm nd) := SN_20.cell 2
  have QU_20 := QU_19.below hB_20
  have QV_20 := QV_19.below hB_20
  have QR_20 := QR_19.below hB_20
  have Qg_20 := Qg_19.below hB_20
  have Qh_20 := Qh_19.below hB_20
  have Qy_20 := Qy_19.below hB_20
  have hbel_20 := hbel_19.next hB_20
  have hsz_20 := hB_20.size
  clear Su_19 cSu_19_0 cSu_19_1 cSu_19_2 Sv_19 cSv_19_0 cSv_19_1 cSv_19_2 SR_19 cSR_19_0 cSR_19_1 cSR_19_2 SN_19 cSN_19_0 cSN_19_1 cSN_19_2 QU_19 QV_19 QR_19 Qg_19 Qh_19 Qy_19 hbel_19 hB_20
  have Oj_20 := hO
  have ltOj := hO.ltB
  have Pj_20 := hO'
  have ltPj := hO'.ltB
  clear hO hO'
  try clear hB
  have Qj_20 := Oj_20.rdQ Pj_20 Qh11.out
  clear Oj_20
  clear Pj_20
  go_wp2_with fail
  refine (ksmul Qg_20 Qh_20 Qy_20 Qj_20 (Nat.le_refl 1) (by omega)).mono ?_
  rw [S4.out]
  rintro e w21 ⟨sa, sn, sc, sb, sm, sd, ta, tn, tc, tb, tm, td, rfl, hO1, hO2, hO3, hO4, hDs, hB⟩
  have hB_21 : Below w20.heap.size w20 w21 := (bl.next hB)
  have Su_21 := Su_20.next hB_21
  have cSu_21_0 : _ = some (Value.bool (decide (h56.num < 0))) := Su_21.cell 0
  have cSu_21_1 : _ = some (Value.slice ua un uc) := Su_21.cell 1
  have cSu_21_2 : _ = some (Value.slice ub um ud) := Su_21.cell 2
  have Sv_21 := Sv_20.next hB_21
  have cSv_21_0 : _ = some (Value.bool (decide (h12.num < 0))) := Sv_21.cell 0
  have cSv_21_1 : _ = some (Value.slice va vn vc) := Sv_21.cell 1
  have cSv_21_2 : _ = some (Value.slice vb vm vd) := Sv_21.cell 2
  have SR_21 := SR_20.next hB_21
  have cSR_21_0 : _ = some (Value.bool (decide (h827.num < 0))) := SR_21.cell 0
  have cSR_21_1 : _ = some (Value.slice ra rn rc) := SR_21.cell 1
  have cSR_21_2 : _ = some (Value.slice rb rm rd) := SR_21.cell 2
  have SN_21 := SN_20.next hB_21
  have cSN_21_0 : _ = some (Value.bool (qsg 0 2)) := SN_21.cell 0
  have cSN_21_1 : _ = some (Value.slice na nn nc) := SN_21.cell 1
  have cSN_21_2 : _ = some (Value.slice nb nm nd) := SN_21.cell 2
  have QU_21 := QU_20.below hB_21
  have QV_21 := QV_20.below hB_21
  have QR_21 := QR_20.below hB_21
  have Qg_21 := Qg_20.below hB_21
  have Qh_21 := Qh_20.below hB_21
  have Qy_21 := Qy_20.below hB_21
  have Qj_21 := Qj_20.below hB_21
  have hbel_21 := hbel_20.next hB_21
  have hsz_21 := hB_21.size
  clear Su_20 cSu_20_0 cSu_20_1 cSu_20_2 Sv_20 cSv_20_0 cSv_20_1 cSv_20_2 SR_20 cSR_20_0 cSR_20_1 cSR_20_2 SN_20 cSN_20_0 cSN_20_1 cSN_20_2 QU_20 QV_20 QR_20 Qg_20 Qh_20 Qy_20 Qj_20 hbel_20 hB_21
  have Oz_21 := hO3
  have ltOz := hO3.ltB
  have Pz_21 := hO4
  have ltPz := hO4.ltB
  clear hO1 hO2 hO3 hO4 hDs
  try clear hB
  clear Qg_21
  clear Qh_21
  clear Qy_21
  clear Qj_21
  generalize h31 * h31 = h9 at *
  have hbx := blk_new w21 #[Value.bool (decide (h9.num < 0)), Value.slice sa sn sc, Value.slice sb sm sd, Value.bool (decide (h61.num < 0)), Value.slice ta tn tc, Value.slice tb tm td] 73
  have hbB := (Below.refl w21.heap.size w21).alloc (Nat.le_refl _) (.cells #[Value.bool (decide (h9.num < 0)), Value.slice sa sn sc, Value.slice sb sm sd, Value.bool (decide (h61.num < 0)), Value.slice ta tn tc, Value.slice tb tm td] 73)
  have hltT := hbx.lt
  have hB_22 : Below w21.heap.size w21 (w21.alloc (.cells #[Value.bool (decide (h9.num < 0)), Value.slice sa sn sc, Value.slice sb sm sd, Value.bool (decide (h61.num < 0)), Value.slice ta tn tc, Value.slice tb tm td] 73)) := hbB
  have Su_22 := Su_21.next hB_22
  have cSu_22_0 : _ = some (Value.bool (decide (h56.num < 0))) := Su_22.cell 0
  have cSu_22_1 : _ = some (Value.slice ua un uc) := Su_22.cell 1
  have cSu_22_2 : _ = some (Value.slice ub um ud) := Su_22.cell 2
  have Sv_22 := Sv_21.next hB_22
  have cSv_22_0 : _ = some (Value.bool (decide (h12.num < 0))) := Sv_22.cell 0
  have cSv_22_1 : _ = some (Value.slice va vn vc) := Sv_22.cell 1
  have cSv_22_2 : _ = some (Value.slice vb vm vd) := Sv_22.cell 2
  have SR_22 := SR_21.next hB_22
  have cSR_22_0 : _ = some (Value.bool (decide (h827.num < 0))) := SR_22.cell 0
  have cSR_22_1 : _ = some (Value.slice ra rn rc) := SR_22.cell 1
  have cSR_22_2 : _ = some (Value.slice rb rm rd) := SR_22.cell 2
  have SN_22 := SN_21.next hB_22
  have cSN_22_0 : _ = some (Value.bool (qsg 0 2)) := SN_22.cell 0
  have cSN_22_1 : _ = some (Value.slice na nn nc) := SN_22.cell 1
  have cSN_22_2 : _ = some (Value.slice nb nm nd) := SN_22.cell 2
  have QU_22 := QU_21.below hB_22
  have QV_22 := QV_21.below hB_22
  have QR_22 := QR_21.below hB_22
  have Oz_22 := Oz_21.below hB_22
  have Pz_22 := Pz_21.below hB_22
  have hbel_22 := hbel_21.next hB_22
  have hsz_22 := hB_22.size
  clear hB_22
  have T_22 := hbx
  clear hbx hbB
  have cT_22_0 : _ = some (Value.bool (decide (h9.num < 0))) := T_22.cell 0
  have cT_22_1 : _ = some (Value.slice sa sn sc) := T_22.cell 1
  have cT_22_2 : _ = some (Value.slice sb sm sd) := T_22.cell 2
  have cT_22_3 : _ = some (Value.bool (decide (h61.num < 0))) := T_22.cell 3
  have cT_22_4 : _ = some (Value.slice ta tn tc) := T_22.cell 4
  have cT_22_5 : _ = some (Value.slice tb tm td) := T_22.cell 5
  go_wp2_with fail
  clear Su_21 cSu_21_0 cSu_21_1 cSu_21_2 Sv_21 cSv_21_0 cSv_21_1 cSv_21_2 SR_21 cSR_21_0 cSR_21_1 cSR_21_2 SN_21 cSN_21_0 cSN_21_1 cSN_21_2 QU_21 QV_21 QR_21 Oz_21 Pz_21 hbel_21
  generalize (w21.alloc (.cells #[Value.bool (decide (h9.num < 0)), Value.slice sa sn sc, Value.slice sb sm sd, Value.bool (decide (h61.num < 0)), Value.slice ta tn tc, Value.slice tb tm td] 73)) = v22 at *
  have QT_22 := Oz_22.rdQ Pz_22 Qh61.out
  clear Oz_22
  clear Pz_22
  go_wp2_with fail
  go_region_held3 (fun w' => w'.cell? ⟨w4.heap.size, 0, none⟩ = some (Value.bool (decide (h56.num < 0))) ∧ w'.cell? ⟨w4.heap.size, 1, none⟩ = some (Value.slice ua un uc) ∧ w'.cell? ⟨w4.heap.size, 2, none⟩ = some (Value.slice ub um ud) ∧ w'.cell? ⟨w9.heap.size, 0, none⟩ = some (Value.bool (decide (h12.num < 0))) ∧ w'.cell? ⟨w9.heap.size, 1, none⟩ = some (Value.slice va vn vc) ∧ w'.cell? ⟨w9.heap.size, 2, none⟩ = some (Value.slice vb vm vd) ∧ w'.cell? ⟨w12.heap.size, 0, none⟩ = some (Value.bool (decide (h827.num < 0))) ∧ w'.cell? ⟨w12.heap.size, 1, none⟩ = some (Value.slice ra rn rc) ∧ w'.cell? ⟨w12.heap.size, 2, none⟩ = some (Value.slice rb rm rd) ∧ w'.cell? ⟨w21.heap.size, 0, none⟩ = some (Value.bool (decide (h9.num < 0))) ∧ w'.cell? ⟨w21.heap.size, 1, none⟩ = some (Value.slice sa sn sc) ∧ w'.cell? ⟨w21.heap.size, 2, none⟩ = some (Value.slice sb sm sd) ∧ w'.cell? ⟨w21.heap.size, 3, none⟩ = some (Value.bool (decide (h61.num < 0))) ∧ w'.cell? ⟨w21.heap.size, 4, none⟩ = some (Value.slice ta tn tc) ∧ w'.cell? ⟨w21.heap.size, 5, none⟩ = some (Value.slice tb tm td))
    (first | with_reducible exact ⟨cSu_22_0, cSu_22_1, cSu_22_2, cSv_22_0, cSv_22_1, cSv_22_2, cSR_22_0, cSR_22_1, cSR_22_2, cT_22_0, cT_22_1, cT_22_2, cT_22_3, cT_22_4, cT_22_5⟩ | with_reducible exact ⟨cSu_23_0, cSu_23_1, cSu_23_2, cSv_23_0, cSv_23_1, cSv_23_2, cSR_23_0, cSR_23_1, cSR_23_2, cT_23_0, cT_23_1, cT_23_2, cT_23_3, cT_23_4, cT_23_5⟩ | with_reducible exact ⟨cSu_24_0, cSu_24_1, cSu_24_2, cSv_24_0, cSv_24_1, cSv_24_2, cSR_24_0, cSR_24_1, cSR_24_2, cT_24_0, cT_24_1, cT_24_2, cT_24_3, cT_24_4, cT_24_5⟩ | with_reducible exact ⟨cSu_25_0, cSu_25_1, cSu_25_2, cSv_25_0, cSv_25_1, cSv_25_2, cSR_25_0, cSR_25_1, cSR_25_2, cT_25_0, cT_25_1, cT_25_2, cT_25_3, cT_25_4, cT_25_5⟩ | with_reducible exact ⟨cSu_26_0, cSu_26_1, cSu_26_2, cSv_26_0, cSv_26_1, cSv_26_2, cSR_26_0, cSR_26_1, cSR_26_2, cT_26_0, cT_26_1, cT_26_2, cT_26_3, cT_26_4, cT_26_5⟩ | with_reducible exact ⟨cSu_27_0, cSu_27_1, cSu_27_2, cSv_27_0, cSv_27_1, cSv_27_2, cSR_27_0, cSR_27_1, cSR_27_2, cT_27_0, cT_27_1, cT_27_2, cT_27_3, cT_27_4, cT_27_5⟩ | with_reducible exact ⟨cSu_28_0, cSu_28_1, cSu_28_2, cSv_28_0, cSv_28_1, cSv_28_2, cSR_28_0, cSR_28_1, cSR_28_2, cT_28_0, cT_28_1, cT_28_2, cT_28_3, cT_28_4, cT_28_5⟩ | with_reducible exact ⟨cSu_29_0, cSu_29_1, cSu_29_2, cSv_29_0, cSv_29_1, cSv_29_2, cSR_29_0, cSR_29_1, cSR_29_2, cT_29_0, cT_29_1, cT_29_2, cT_29_3, cT_29_4, cT_29_5⟩ | with_reducible exact ⟨cSu_30_0, cSu_30_1, cSu_30_2, cSv_30_0, cSv_30_1, cSv_30_2, cSR_30_0, cSR_30_1, cSR_30_2, cT_30_0, cT_30_1, cT_30_2, cT_30_3, cT_30_4, cT_30_5⟩ | with_reducible exact ⟨cSu_31_0, cSu_31_1, cSu_31_2, cSv_31_0, cSv_31_1, cSv_31_2, cSR_31_0, cSR_31_1, cSR_31_2, cT_31_0, cT_31_1, cT_31_2, cT_31_3, cT_31_4, cT_31_5⟩ | with_reducible exact ⟨cSu_32_0, cSu_32_1, cSu_32_2, cSv_32_0, cSv_32_1, cSv_32_2, cSR_32_0, cSR_32_1, cSR_32_2, cT_32_0, cT_32_1, cT_32_2, cT_32_3, cT_32_4, cT_32_5⟩ | with_reducible exact ⟨(Su_22.alloc _).cell 0, (Su_22.alloc _).cell 1, (Su_22.alloc _).cell 2, (Sv_22.alloc _).cell 0, (Sv_22.alloc _).cell 1, (Sv_22.alloc _).cell 2, (SR_22.alloc _).cell 0, (SR_22.alloc _).cell 1, (SR_22.alloc _).cell 2, (T_22.alloc _).cell 0, (T_22.alloc _).cell 1, (T_22.alloc _).cell 2, (T_22.alloc _).cell 3, (T_22.alloc _).cell 4, (T_22.alloc _).cell 5⟩ | with_reducible exact ⟨(Su_23.alloc _).cell 0, (Su_23.alloc _).cell 1, (Su_23.alloc _).cell 2, (Sv_23.alloc _).cell 0, (Sv_23.alloc _).cell 1, (Sv_23.alloc _).cell 2, (SR_23.alloc _).cell 0, (SR_23.alloc _).cell 1, (SR_23.alloc _).cell 2, (T_23.alloc _).cell 0, (T_23.alloc _).cell 1, (T_23.alloc _).cell 2, (T_23.alloc _).cell 3, (T_23.alloc _).cell 4, (T_23.alloc _).cell 5⟩ | with_reducible exact ⟨(Su_24.alloc _).cell 0, (Su_24.alloc _).cell 1, (Su_24.alloc _).cell 2, (Sv_24.alloc _).cell 0, (Sv_24.alloc _).cell 1, (Sv_24.alloc _).cell 2, (SR_24.alloc _).cell 0, (SR_24.alloc _).cell 1, (SR_24.alloc _).cell 2, (T_24.alloc _).cell 0, (T_24.alloc _).cell 1, (T_24.alloc _).cell 2, (T_24.alloc _).cell 3, (T_24.alloc _).cell 4, (T_24.alloc _).cell 5⟩ | with_reducible exact ⟨(Su_25.alloc _).cell 0, (Su_25.alloc _).cell 1, (Su_25.alloc _).cell 2, (Sv_25.alloc _).cell 0, (Sv_25.alloc _).cell 1, (Sv_25.alloc _).cell 2, (SR_25.alloc _).cell 0, (SR_25.alloc _).cell 1, (SR_25.alloc _).cell 2, (T_25.alloc _).cell 0, (T_25.alloc _).cell 1, (T_25.alloc _).cell 2, (T_25.alloc _).cell 3, (T_25.alloc _).cell 4, (T_25.alloc _).cell 5⟩ | with_reducible exact ⟨(Su_26.alloc _).cell 0, (Su_26.alloc _).cell 1, (Su_26.alloc _).cell 2, (Sv_26.alloc _).cell 0, (Sv_26.alloc _).cell 1, (Sv_26.alloc _).cell 2, (SR_26.alloc _).cell 0, (SR_26.alloc _).cell 1, (SR_26.alloc _).cell 2, (T_26.alloc _).cell 0, (T_26.alloc _).cell 1, (T_26.alloc _).cell 2, (T_26.alloc _).cell 3, (T_26.alloc _).cell 4, (T_26.alloc _).cell 5⟩ | with_reducible exact ⟨(Su_27.alloc _).cell 0, (Su_27.alloc _).cell 1, (Su_27.alloc _).cell 2, (Sv_27.alloc _).cell 0, (Sv_27.alloc _).cell 1, (Sv_27.alloc _).cell 2, (SR_27.alloc _).cell 0, (SR_27.alloc _).cell 1, (SR_27.alloc _).cell 2, (T_27.alloc _).cell 0, (T_27.alloc _).cell 1, (T_27.alloc _).cell 2, (T_27.alloc _).cell 3, (T_27.alloc _).cell 4, (T_27.alloc _).cell 5⟩ | with_reducible exact ⟨(Su_28.alloc _).cell 0, (Su_28.alloc _).cell 1, (Su_28.alloc _).cell 2, (Sv_28.alloc _).cell 0, (Sv_28.alloc _).cell 1, (Sv_28.alloc _).cell 2, (SR_28.alloc _).cell 0, (SR_28.alloc _).cell 1, (SR_28.alloc _).cell 2, (T_28.alloc _).cell 0, (T_28.alloc _).cell 1, (T_28.alloc _).cell 2, (T_28.alloc _).cell 3, (T_28.alloc _).cell 4, (T_28.alloc _).cell 5⟩ | with_reducible exact ⟨(Su_29.alloc _).cell 0, (Su_29.alloc _).cell 1, (Su_29.alloc _).cell 2, (Sv_29.alloc _).cell 0, (Sv_29.alloc _).cell 1, (Sv_29.alloc _).cell 2, (SR_29.alloc _).cell 0, (SR_29.alloc _).cell 1, (SR_29.alloc _).cell 2, (T_29.alloc _).cell 0, (T_29.alloc _).cell 1, (T_29.alloc _).cell 2, (T_29.alloc _).cell 3, (T_29.alloc _).cell 4, (T_29.alloc _).cell 5⟩ | with_reducible exact ⟨(Su_30.alloc _).cell 0, (Su_30.alloc _).cell 1, (Su_30.alloc _).cell 2, (Sv_30.alloc _).cell 0, (Sv_30.alloc _).cell 1, (Sv_30.alloc _).cell 2, (SR_30.alloc _).cell 0, (SR_30.alloc _).cell 1, (SR_30.alloc _).cell 2, (T_30.alloc _).cell 0, (T_30.alloc _).cell 1, (T_30.alloc _).cell 2, (T_30.alloc _).cell 3, (T_30.alloc _).cell 4, (T_30.alloc _).cell 5⟩ | with_reducible exact ⟨(Su_31.alloc _).cell 0, (Su_31.alloc _).cell 1, (Su_31.alloc _).cell 2, (Sv_31.alloc _).cell 0, (Sv_31.alloc _).cell 1, (Sv_31.alloc _).cell 2, (SR_31.alloc _).cell 0, (SR_31.alloc _).cell 1, (SR_31.alloc _).cell 2, (T_31.alloc _).cell 0, (T_31.alloc _).cell 1, (T_31.alloc _).cell 2, (T_31.alloc _).cell 3, (T_31.alloc _).cell 4, (T_31.alloc _).cell 5⟩ | with_reducible exact ⟨(Su_32.alloc _).cell 0, (Su_32.alloc _).cell 1, (Su_32.alloc _).cell 2, (Sv_32.alloc _).cell 0, (Sv_32.alloc _).cell 1, (Sv_32.alloc _).cell 2, (SR_32.alloc _).cell 0, (SR_32.alloc _).cell 1, (SR_32.alloc _).cell 2, (T_32.alloc _).cell 0, (T_32.alloc _).cell 1, (T_32.alloc _).cell 2, (T_32.alloc _).cell 3, (T_32.alloc _).cell 4, (T_32.alloc _).cell 5⟩ | go_keep)
    (first
      | (go_at_call 34; ((with_reducible refine (Hh56.out _).mono ?_); (rintro e w23 ⟨ka, kn, kc, kb, km, kd, rfl, hO, hO', hDk, hB⟩; have hB_23 : Below v22.heap.size v22 w23 := (bl.next hB); have Su_23 := Su_22.next hB_23; have cSu_23_0 : _ = some (Value.bool (decide (h56.num < 0))) := Su_23.cell 0; have cSu_23_1 : _ = some (Value.slice ua un uc) := Su_23.cell 1; have cSu_23_2 : _ = some (Value.slice ub um ud) := Su_23.cell 2; have Sv_23 := Sv_22.next hB_23; have cSv_23_0 : _ = some (Value.bool (decide (h12.num < 0))) := Sv_23.cell 0; have cSv_23_1 : _ = some (Value.slice va vn vc) := Sv_23.cell 1; have cSv_23_2 : _ = some (Value.slice vb vm vd) := Sv_23.cell 2; have SR_23 := SR_22.next hB_23; have cSR_23_0 : _ = some (Value.bool (decide (h827.num < 0))) := SR_23.cell 0; have cSR_23_1 : _ = some (Value.slice ra rn rc) := SR_23.cell 1; have cSR_23_2 : _ = some (Value.slice rb rm rd) := SR_23.cell 2; have SN_23 := SN_22.next hB_23; have cSN_23_0 : _ = some (Value.bool (qsg 0 2)) := SN_23.cell 0; have cSN_23_1 : _ = some (Value.slice na nn nc) := SN_23.cell 1; have cSN_23_2 : _ = some (Value.slice nb nm nd) := SN_23.cell 2; have T_23 := T_22.next hB_23; have cT_23_0 : _ = some (Value.bool (decide (h9.num < 0))) := T_23.cell 0; have cT_23_1 : _ = some (Value.slice sa sn sc) := T_23.cell 1; have cT_23_2 : _ = some (Value.slice sb sm sd) := T_23.cell 2; have cT_23_3 : _ = some (Value.bool (decide (h61.num < 0))) := T_23.cell 3; have cT_23_4 : _ = some (Value.slice ta tn tc) := T_23.cell 4; have cT_23_5 : _ = some (Value.slice tb tm td) := T_23.cell 5; have QU_23 := QU_22.below hB_23; have QV_23 := QV_22.below hB_23; have QR_23 := QR_22.below hB_23; have QT_23 := QT_22.below hB_23; have hbel_23 := hbel_22.next hB_23; have hsz_23 := hB_23.size; clear Su_22 cSu_22_0 cSu_22_1 cSu_22_2 Sv_22 cSv_22_0 cSv_22_1 cSv_22_2 SR_22 cSR_22_0 cSR_22_1 cSR_22_2 SN_22 cSN_22_0 cSN_22_1 cSN_22_2 T_22 cT_22_0 cT_22_1 cT_22_2 cT_22_3 cT_22_4 cT_22_5 QU_22 QV_22 QR_22 QT_22 hbel_22 hB_23; have Qk_23 := hO.rdQ hO' Qh56.out; clear hO hO'; try clear hB)))
      | (go_at_call 37; ((with_reducible refine (feq_t (QU_23.below bl) (by omega) (Qk_23.below bl) (by omega) rfl).mono ?_); (rintro e w24 ⟨rfl, hB⟩; have hB_24 : Below w23.heap.size w23 w24 := (bl.next hB); have Su_24 := Su_23.next hB_24; have cSu_24_0 : _ = some (Value.bool (decide (h56.num < 0))) := Su_24.cell 0; have cSu_24_1 : _ = some (Value.slice ua un uc) := Su_24.cell 1; have cSu_24_2 : _ = some (Value.slice ub um ud) := Su_24.cell 2; have Sv_24 := Sv_23.next hB_24; have cSv_24_0 : _ = some (Value.bool (decide (h12.num < 0))) := Sv_24.cell 0; have cSv_24_1 : _ = some (Value.slice va vn vc) := Sv_24.cell 1; have cSv_24_2 : _ = some (Value.slice vb vm vd) := Sv_24.cell 2; have SR_24 := SR_23.next hB_24; have cSR_24_0 : _ = some (Value.bool (decide (h827.num < 0))) := SR_24.cell 0; have cSR_24_1 : _ = some (Value.slice ra rn rc) := SR_24.cell 1; have cSR_24_2 : _ = some (Value.slice rb rm rd) := SR_24.cell 2; have SN_24 := SN_23.next hB_24; have cSN_24_0 : _ = some (Value.bool (qsg 0 2)) := SN_24.cell 0; have cSN_24_1 : _ = some (Value.slice na nn nc) := SN_24.cell 1; have cSN_24_2 : _ = some (Value.slice nb nm nd) := SN_24.cell 2; have T_24 := T_23.next hB_24; have cT_24_0 : _ = some (Value.bool (decide (h9.num < 0))) := T_24.cell 0; have cT_24_1 : _ = some (Value.slice sa sn sc) := T_24.cell 1; have cT_24_2 : _ = some (Value.slice sb sm sd) := T_24.cell 2; have cT_24_3 : _ = some (Value.bool (decide (h61.num < 0))) := T_24.cell 3; have cT_24_4 : _ = some (Value.slice ta tn tc) := T_24.cell 4; have cT_24_5 : _ = some (Value.slice tb tm td) := T_24.cell 5; have QU_24 := QU_23.below hB_24; have QV_24 := QV_23.below hB_24; have QR_24 := QR_23.below hB_24; have QT_24 := QT_23.below hB_24; have Qk_24 := Qk_23.below hB_24; have hbel_24 := hbel_23.next hB_24; have hsz_24 := hB_24.size; clear Su_23 cSu_23_0 cSu_23_1 cSu_23_2 Sv_23 cSv_23_0 cSv_23_1 cSv_23_2 SR_23 cSR_23_0 cSR_23_1 cSR_23_2 SN_23 cSN_23_0 cSN_23_1 cSN_23_2 T_23 cT_23_0 cT_23_1 cT_23_2 cT_23_3 cT_23_4 cT_23_5 QU_23 QV_23 QR_23 QT_23 Qk_23 hbel_23 hB_24; try clear hB)))
      | (go_at_call 34; ((with_reducible refine (Hh12.out _).mono ?_); (rintro e w25 ⟨la, ln, lc, lb, lm, ld, rfl, hO, hO', hDl, hB⟩; have hB_25 : Below w24.heap.size w24 w25 := (bl.next hB); have Su_25 := Su_24.next hB_25; have cSu_25_0 : _ = some (Value.bool (decide (h56.num < 0))) := Su_25.cell 0; have cSu_25_1 : _ = some (Value.slice ua un uc) := Su_25.cell 1; have cSu_25_2 : _ = some (Value.slice ub um ud) := Su_25.cell 2; have Sv_25 := Sv_24.next hB_25; have cSv_25_0 : _ = some (Value.bool (decide (h12.num < 0))) := Sv_25.cell 0; have cSv_25_1 : _ = some (Value.slice va vn vc) := Sv_25.cell 1; have cSv_25_2 : _ = some (Value.slice vb vm vd) := Sv_25.cell 2; have SR_25 := SR_24.next hB_25; have cSR_25_0 : _ = some (Value.bool (decide (h827.num < 0))) := SR_25.cell 0; have cSR_25_1 : _ = some (Value.slice ra rn rc) := SR_25.cell 1; have cSR_25_2 : _ = some (Value.slice rb rm rd) := SR_25.cell 2; have SN_25 := SN_24.next hB_25; have cSN_25_0 : _ = some (Value.bool (qsg 0 2)) := SN_25.cell 0; have cSN_25_1 : _ = some (Value.slice na nn nc) := SN_25.cell 1; have cSN_25_2 : _ = some (Value.slice nb nm nd) := SN_25.cell 2; have T_25 := T_24.next hB_25; have cT_25_0 : _ = some (Value.bool (decide (h9.num < 0))) := T_25.cell 0; have cT_25_1 : _ = some (Value.slice sa sn sc) := T_25.cell 1; have cT_25_2 : _ = some (Value.slice sb sm sd) := T_25.cell 2; have cT_25_3 : _ = some (Value.bool (decide (h61.num < 0))) := T_25.cell 3; have cT_25_4 : _ = some (Value.slice ta tn tc) := T_25.cell 4; have cT_25_5 : _ = some (Value.slice tb tm td) := T_25.cell 5; have QU_25 := QU_24.below hB_25; have QV_25 := QV_24.below hB_25; have QR_25 := QR_24.below hB_25; have QT_25 := QT_24.below hB_25; have Qk_25 := Qk_24.below hB_25; have hbel_25 := hbel_24.next hB_25; have hsz_25 := hB_25.size; clear Su_24 cSu_24_0 cSu_24_1 cSu_24_2 Sv_24 cSv_24_0 cSv_24_1 cSv_24_2 SR_24 cSR_24_0 cSR_24_1 cSR_24_2 SN_24 cSN_24_0 cSN_24_1 cSN_24_2 T_24 cT_24_0 cT_24_1 cT_24_2 cT_24_3 cT_24_4 cT_24_5 QU_24 QV_24 QR_24 QT_24 Qk_24 hbel_24 hB_25; have Ql_25 := hO.rdQ hO' Qh12.out; clear hO hO'; try clear hB)))
      | (go_at_call 37; ((with_reducible refine (feq_t (QV_25.below bl) (by omega) (Ql_25.below bl) (by omega) rfl).mono ?_); (rintro e w26 ⟨rfl, hB⟩; have hB_26 : Below w25.heap.size w25 w26 := (bl.next hB); have Su_26 := Su_25.next hB_26; have cSu_26_0 : _ = some (Value.bool (decide (h56.num < 0))) := Su_26.cell 0; have cSu_26_1 : _ = some (Value.slice ua un uc) := Su_26.cell 1; have cSu_26_2 : _ = some (Value.slice ub um ud) := Su_26.cell 2; have Sv_26 := Sv_25.next hB_26; have cSv_26_0 : _ = some (Value.bool (decide (h12.num < 0))) := Sv_26.cell 0; have cSv_26_1 : _ = some (Value.slice va vn vc) := Sv_26.cell 1; have cSv_26_2 : _ = some (Value.slice vb vm vd) := Sv_26.cell 2; have SR_26 := SR_25.next hB_26; have cSR_26_0 : _ = some (Value.bool (decide (h827.num < 0))) := SR_26.cell 0; have cSR_26_1 : _ = some (Value.slice ra rn rc) := SR_26.cell 1; have cSR_26_2 : _ = some (Value.slice rb rm rd) := SR_26.cell 2; have SN_26 := SN_25.next hB_26; have cSN_26_0 : _ = some (Value.bool (qsg 0 2)) := SN_26.cell 0; have cSN_26_1 : _ = some (Value.slice na nn nc) := SN_26.cell 1; have cSN_26_2 : _ = some (Value.slice nb nm nd) := SN_26.cell 2; have T_26 := T_25.next hB_26; have cT_26_0 : _ = some (Value.bool (decide (h9.num < 0))) := T_26.cell 0; have cT_26_1 : _ = some (Value.slice sa sn sc) := T_26.cell 1; have cT_26_2 : _ = some (Value.slice sb sm sd) := T_26.cell 2; have cT_26_3 : _ = some (Value.bool (decide (h61.num < 0))) := T_26.cell 3; have cT_26_4 : _ = some (Value.slice ta tn tc) := T_26.cell 4; have cT_26_5 : _ = some (Value.slice tb tm td) := T_26.cell 5; have QU_26 := QU_25.below hB_26; have QV_26 := QV_25.below hB_26; have QR_26 := QR_25.below hB_26; have QT_26 := QT_25.below hB_26; have Qk_26 := Qk_25.below hB_26; have Ql_26 := Ql_25.below hB_26; have hbel_26 := hbel_25.next hB_26; have hsz_26 := hB_26.size; clear Su_25 cSu_25_0 cSu_25_1 cSu_25_2 Sv_25 cSv_25_0 cSv_25_1 cSv_25_2 SR_25 cSR_25_0 cSR_25_1 cSR_25_2 SN_25 cSN_25_0 cSN_25_1 cSN_25_2 T_25 cT_25_0 cT_25_1 cT_25_2 cT_25_3 cT_25_4 cT_25_5 QU_25 QV_25 QR_25 QT_25 Qk_25 Ql_25 hbel_25 hB_26; try clear hB)))
      | (go_at_call 34; ((with_reducible refine (Hh827.out _).mono ?_); (rintro e w27 ⟨ma, mn, mc, mb, mm, md, rfl, hO, hO', hDm, hB⟩; have hB_27 : Below w26.heap.size w26 w27 := (bl.next hB); have Su_27 := Su_26.next hB_27; have cSu_27_0 : _ = some (Value.bool (decide (h56.num < 0))) := Su_27.cell 0; have cSu_27_1 : _ = some (Value.slice ua un uc) := Su_27.cell 1; have cSu_27_2 : _ = some (Value.slice ub um ud) := Su_27.cell 2; have Sv_27 := Sv_26.next hB_27; have cSv_27_0 : _ = some (Value.bool (decide (h12.num < 0))) := Sv_27.cell 0; have cSv_27_1 : _ = some (Value.slice va vn vc) := Sv_27.cell 1; have cSv_27_2 : _ = some (Value.slice vb vm vd) := Sv_27.cell 2; have SR_27 := SR_26.next hB_27; have cSR_27_0 : _ = some (Value.bool (decide (h827.num < 0))) := SR_27.cell 0; have cSR_27_1 : _ = some (Value.slice ra rn rc) := SR_27.cell 1; have cSR_27_2 : _ = some (Value.slice rb rm rd) := SR_27.cell 2; have SN_27 := SN_26.next hB_27; have cSN_27_0 : _ = some (Value.bool (qsg 0 2)) := SN_27.cell 0; have cSN_27_1 : _ = some (Value.slice na nn nc) := SN_27.cell 1; have cSN_27_2 : _ = some (Value.slice nb nm nd) := SN_27.cell 2; have T_27 := T_26.next hB_27; have cT_27_0 : _ = some (Value.bool (decide (h9.num < 0))) := T_27.cell 0; have cT_27_1 : _ = some (Value.slice sa sn sc) := T_27.cell 1; have cT_27_2 : _ = some (Value.slice sb sm sd) := T_27.cell 2; have cT_27_3 : _ = some (Value.bool (decide (h61.num < 0))) := T_27.cell 3; have cT_27_4 : _ = some (Value.slice ta tn tc) := T_27.cell 4; have cT_27_5 : _ = some (Value.slice tb tm td) := T_27.cell 5; have QU_27 := QU_26.below hB_27; have QV_27 := QV_26.below hB_27; have QR_27 := QR_26.below hB_27; have QT_27 := QT_26.below hB_27; have Qk_27 := Qk_26.below hB_27; have Ql_27 := Ql_26.below hB_27; have hbel_27 := hbel_26.next hB_27; have hsz_27 := hB_27.size; clear Su_26 cSu_26_0 cSu_26_1 cSu_26_2 Sv_26 cSv_26_0 cSv_26_1 cSv_26_2 SR_26 cSR_26_0 cSR_26_1 cSR_26_2 SN_26 cSN_26_0 cSN_26_1 cSN_26_2 T_26 cT_26_0 cT_26_1 cT_26_2 cT_26_3 cT_26_4 cT_26_5 QU_26 QV_26 QR_26 QT_26 Qk_26 Ql_26 hbel_26 hB_27; have Qm_27 := hO.rdQ hO' Qh827.out; clear hO hO'; try clear hB)))
      | (go_at_call 37; ((with_reducible refine (feq_t (QR_27.below bl) (by omega) (Qm_27.below bl) (by omega) rfl).mono ?_); (rintro e w28 ⟨rfl, hB⟩; have hB_28 : Below w27.heap.size w27 w28 := (bl.next hB); have Su_28 := Su_27.next hB_28; have cSu_28_0 : _ = some (Value.bool (decide (h56.num < 0))) := Su_28.cell 0; have cSu_28_1 : _ = some (Value.slice ua un uc) := Su_28.cell 1; have cSu_28_2 : _ = some (Value.slice ub um ud) := Su_28.cell 2; have Sv_28 := Sv_27.next hB_28; have cSv_28_0 : _ = some (Value.bool (decide (h12.num < 0))) := Sv_28.cell 0; have cSv_28_1 : _ = some (Value.slice va vn vc) := Sv_28.cell 1; have cSv_28_2 : _ = some (Value.slice vb vm vd) := Sv_28.cell 2; have SR_28 := SR_27.next hB_28; have cSR_28_0 : _ = some (Value.bool (decide (h827.num < 0))) := SR_28.cell 0; have cSR_28_1 : _ = some (Value.slice ra rn rc) := SR_28.cell 1; have cSR_28_2 : _ = some (Value.slice rb rm rd) := SR_28.cell 2; have SN_28 := SN_27.next hB_28; have cSN_28_0 : _ = some (Value.bool (qsg 0 2)) := SN_28.cell 0; have cSN_28_1 : _ = some (Value.slice na nn nc) := SN_28.cell 1; have cSN_28_2 : _ = some (Value.slice nb nm nd) := SN_28.cell 2; have T_28 := T_27.next hB_28; have cT_28_0 : _ = some (Value.bool (decide (h9.num < 0))) := T_28.cell 0; have cT_28_1 : _ = some (Value.slice sa sn sc) := T_28.cell 1; have cT_28_2 : _ = some (Value.slice sb sm sd) := T_28.cell 2; have cT_28_3 : _ = some (Value.bool (decide (h61.num < 0))) := T_28.cell 3; have cT_28_4 : _ = some (Value.slice ta tn tc) := T_28.cell 4; have cT_28_5 : _ = some (Value.slice tb tm td) := T_28.cell 5; have QU_28 := QU_27.below hB_28; have QV_28 := QV_27.below hB_28; have QR_28 := QR_27.below hB_28; have QT_28 := QT_27.below hB_28; have Qk_28 := Qk_27.below hB_28; have Ql_28 := Ql_27.below hB_28; have Qm_28 := Qm_27.below hB_28; have hbel_28 := hbel_27.next hB_28; have hsz_28 := hB_28.size; clear Su_27 cSu_27_0 cSu_27_1 cSu_27_2 Sv_27 cSv_27_0 cSv_27_1 cSv_27_2 SR_27 cSR_27_0 cSR_27_1 cSR_27_2 SN_27 cSN_27_0 cSN_27_1 cSN_27_2 T_27 cT_27_0 cT_27_1 cT_27_2 cT_27_3 cT_27_4 cT_27_5 QU_27 QV_27 QR_27 QT_27 Qk_27 Ql_27 Qm_27 hbel_27 hB_28; try clear hB)))
      | (go_at_call 34; ((with_reducible refine (Hh61.out _).mono ?_); (rintro e w29 ⟨qa, qn, qc, qb, qm, qd, rfl, hO, hO', hDq, hB⟩; have hB_29 : Below w28.heap.size w28 w29 := (bl.next hB); have Su_29 := Su_28.next hB_29; have cSu_29_0 : _ = some (Value.bool (decide (h56.num < 0))) := Su_29.cell 0; have cSu_29_1 : _ = some (Value.slice ua un uc) := Su_29.cell 1; have cSu_29_2 : _ = some (Value.slice ub um ud) := Su_29.cell 2; have Sv_29 := Sv_28.next hB_29; have cSv_29_0 : _ = some (Value.bool (decide (h12.num < 0))) := Sv_29.cell 0; have cSv_29_1 : _ = some (Value.slice va vn vc) := Sv_29.cell 1; have cSv_29_2 : _ = some (Value.slice vb vm vd) := Sv_29.cell 2; have SR_29 := SR_28.next hB_29; have cSR_29_0 : _ = some (Value.bool (decide (h827.num < 0))) := SR_29.cell 0; have cSR_29_1 : _ = some (Value.slice ra rn rc) := SR_29.cell 1; have cSR_29_2 : _ = some (Value.slice rb rm rd) := SR_29.cell 2; have SN_29 := SN_28.next hB_29; have cSN_29_0 : _ = some (Value.bool (qsg 0 2)) := SN_29.cell 0; have cSN_29_1 : _ = some (Value.slice na nn nc) := SN_29.cell 1; have cSN_29_2 : _ = some (Value.slice nb nm nd) := SN_29.cell 2; have T_29 := T_28.next hB_29; have cT_29_0 : _ = some (Value.bool (decide (h9.num < 0))) := T_29.cell 0; have cT_29_1 : _ = some (Value.slice sa sn sc) := T_29.cell 1; have cT_29_2 : _ = some (Value.slice sb sm sd) := T_29.cell 2; have cT_29_3 : _ = some (Value.bool (decide (h61.num < 0))) := T_29.cell 3; have cT_29_4 : _ = some (Value.slice ta tn tc) := T_29.cell 4; have cT_29_5 : _ = some (Value.slice tb tm td) := T_29.cell 5; have QU_29 := QU_28.below hB_29; have QV_29 := QV_28.below hB_29; have QR_29 := QR_28.below hB_29; have QT_29 := QT_28.below hB_29; have Qk_29 := Qk_28.below hB_29; have Ql_29 := Ql_28.below hB_29; have Qm_29 := Qm_28.below hB_29; have hbel_29 := hbel_28.next hB_29; have hsz_29 := hB_29.size; clear Su_28 cSu_28_0 cSu_28_1 cSu_28_2 Sv_28 cSv_28_0 cSv_28_1 cSv_28_2 SR_28 cSR_28_0 cSR_28_1 cSR_28_2 SN_28 cSN_28_0 cSN_28_1 cSN_28_2 T_28 cT_28_0 cT_28_1 cT_28_2 cT_28_3 cT_28_4 cT_28_5 QU_28 QV_28 QR_28 QT_28 Qk_28 Ql_28 Qm_28 hbel_28 hB_29; have Qq_29 := hO.rdQ hO' Qh61.out; clear hO hO'; try clear hB)))
      | (go_at_call 37; ((with_reducible refine (feq_t (QT_29.below bl) (by omega) (Qq_29.below bl) (by omega) rfl).mono ?_); (rintro e w30 ⟨rfl, hB⟩; have hB_30 : Below w29.heap.size w29 w30 := (bl.next hB); have Su_30 := Su_29.next hB_30; have cSu_30_0 : _ = some (Value.bool (decide (h56.num < 0))) := Su_30.cell 0; have cSu_30_1 : _ = some (Value.slice ua un uc) := Su_30.cell 1; have cSu_30_2 : _ = some (Value.slice ub um ud) := Su_30.cell 2; have Sv_30 := Sv_29.next hB_30; have cSv_30_0 : _ = some (Value.bool (decide (h12.num < 0))) := Sv_30.cell 0; have cSv_30_1 : _ = some (Value.slice va vn vc) := Sv_30.cell 1; have cSv_30_2 : _ = some (Value.slice vb vm vd) := Sv_30.cell 2; have SR_30 := SR_29.next hB_30; have cSR_30_0 : _ = some (Value.bool (decide (h827.num < 0))) := SR_30.cell 0; have cSR_30_1 : _ = some (Value.slice ra rn rc) := SR_30.cell 1; have cSR_30_2 : _ = some (Value.slice rb rm rd) := SR_30.cell 2; have SN_30 := SN_29.next hB_30; have cSN_30_0 : _ = some (Value.bool (qsg 0 2)) := SN_30.cell 0; have cSN_30_1 : _ = some (Value.slice na nn nc) := SN_30.cell 1; have cSN_30_2 : _ = some (Value.slice nb nm nd) := SN_30.cell 2; have T_30 := T_29.next hB_30; have cT_30_0 : _ = some (Value.bool (decide (h9.num < 0))) := T_30.cell 0; have cT_30_1 : _ = some (Value.slice sa sn sc) := T_30.cell 1; have cT_30_2 : _ = some (Value.slice sb sm sd) := T_30.cell 2; have cT_30_3 : _ = some (Value.bool (decide (h61.num < 0))) := T_30.cell 3; have cT_30_4 : _ = some (Value.slice ta tn tc) := T_30.cell 4; have cT_30_5 : _ = some (Value.slice tb tm td) := T_30.cell 5; have QU_30 := QU_29.below hB_30; have QV_30 := QV_29.below hB_30; have QR_30 := QR_29.below hB_30; have QT_30 := QT_29.below hB_30; have Qk_30 := Qk_29.below hB_30; have Ql_30 := Ql_29.below hB_30; have Qm_30 := Qm_29.below hB_30; have Qq_30 := Qq_29.below hB_30; have hbel_30 := hbel_29.next hB_30; have hsz_30 := hB_30.size; clear Su_29 cSu_29_0 cSu_29_1 cSu_29_2 Sv_29 cSv_29_0 cSv_29_1 cSv_29_2 SR_29 cSR_29_0 cSR_29_1 cSR_29_2 SN_29 cSN_29_0 cSN_29_1 cSN_29_2 T_29 cT_29_0 cT_29_1 cT_29_2 cT_29_3 cT_29_4 cT_29_5 QU_29 QV_29 QR_29 QT_29 Qk_29 Ql_29 Qm_29 Qq_29 hbel_29 hB_30; try clear hB)))
      | (go_at_call 38; ((with_reducible refine (ksumb (by first | exact blk_new _ _ _ | exact (blk_new _ _ _).drew)).mono ?_); (rintro e w31 ⟨rfl, hB⟩; have hB_31 : Below w30.heap.size w30 w31 := (bl.next hB); have Su_31 := Su_30.next hB_31; have cSu_31_0 : _ = some (Value.bool (decide (h56.num < 0))) := Su_31.cell 0; have cSu_31_1 : _ = some (Value.slice ua un uc) := Su_31.cell 1; have cSu_31_2 : _ = some (Value.slice ub um ud) := Su_31.cell 2; have Sv_31 := Sv_30.next hB_31; have cSv_31_0 : _ = some (Value.bool (decide (h12.num < 0))) := Sv_31.cell 0; have cSv_31_1 : _ = some (Value.slice va vn vc) := Sv_31.cell 1; have cSv_31_2 : _ = some (Value.slice vb vm vd) := Sv_31.cell 2; have SR_31 := SR_30.next hB_31; have cSR_31_0 : _ = some (Value.bool (decide (h827.num < 0))) := SR_31.cell 0; have cSR_31_1 : _ = some (Value.slice ra rn rc) := SR_31.cell 1; have cSR_31_2 : _ = some (Value.slice rb rm rd) := SR_31.cell 2; have SN_31 := SN_30.next hB_31; have cSN_31_0 : _ = some (Value.bool (qsg 0 2)) := SN_31.cell 0; have cSN_31_1 : _ = some (Value.slice na nn nc) := SN_31.cell 1; have cSN_31_2 : _ = some (Value.slice nb nm nd) := SN_31.cell 2; have T_31 := T_30.next hB_31; have cT_31_0 : _ = some (Value.bool (decide (h9.num < 0))) := T_31.cell 0; have cT_31_1 : _ = some (Value.slice sa sn sc) := T_31.cell 1; have cT_31_2 : _ = some (Value.slice sb sm sd) := T_31.cell 2; have cT_31_3 : _ = some (Value.bool (decide (h61.num < 0))) := T_31.cell 3; have cT_31_4 : _ = some (Value.slice ta tn tc) := T_31.cell 4; have cT_31_5 : _ = some (Value.slice tb tm td) := T_31.cell 5; have QU_31 := QU_30.below hB_31; have QV_31 := QV_30.below hB_31; have QR_31 := QR_30.below hB_31; have QT_31 := QT_30.below hB_31; have Qk_31 := Qk_30.below hB_31; have Ql_31 := Ql_30.below hB_31; have Qm_31 := Qm_30.below hB_31; have Qq_31 := Qq_30.below hB_31; have hbel_31 := hbel_30.next hB_31; have hsz_31 := hB_31.size; clear Su_30 cSu_30_0 cSu_30_1 cSu_30_2 Sv_30 cSv_30_0 cSv_30_1 cSv_30_2 SR_30 cSR_30_0 cSR_30_1 cSR_30_2 SN_30 cSN_30_0 cSN_30_1 cSN_30_2 T_30 cT_30_0 cT_30_1 cT_30_2 cT_30_3 cT_30_4 cT_30_5 QU_30 QV_30 QR_30 QT_30 Qk_30 Ql_30 Qm_30 Qq_30 hbel_30 hB_31; try clear hB)))
      | (go_at_call 39; ((with_reducible refine (kprodi).mono ?_); (rintro e w32 ⟨rfl, hB⟩; have hB_32 : Below w31.heap.size w31 w32 := (bl.next hB); have Su_32 := Su_31.next hB_32; have cSu_32_0 : _ = some (Value.bool (decide (h56.num < 0))) := Su_32.cell 0; have cSu_32_1 : _ = some (Value.slice ua un uc) := Su_32.cell 1; have cSu_32_2 : _ = some (Value.slice ub um ud) := Su_32.cell 2; have Sv_32 := Sv_31.next hB_32; have cSv_32_0 : _ = some (Value.bool (decide (h12.num < 0))) := Sv_32.cell 0; have cSv_32_1 : _ = some (Value.slice va vn vc) := Sv_32.cell 1; have cSv_32_2 : _ = some (Value.slice vb vm vd) := Sv_32.cell 2; have SR_32 := SR_31.next hB_32; have cSR_32_0 : _ = some (Value.bool (decide (h827.num < 0))) := SR_32.cell 0; have cSR_32_1 : _ = some (Value.slice ra rn rc) := SR_32.cell 1; have cSR_32_2 : _ = some (Value.slice rb rm rd) := SR_32.cell 2; have SN_32 := SN_31.next hB_32; have cSN_32_0 : _ = some (Value.bool (qsg 0 2)) := SN_32.cell 0; have cSN_32_1 : _ = some (Value.slice na nn nc) := SN_32.cell 1; have cSN_32_2 : _ = some (Value.slice nb nm nd) := SN_32.cell 2; have T_32 := T_31.next hB_32; have cT_32_0 : _ = some (Value.bool (decide (h9.num < 0))) := T_32.cell 0; have cT_32_1 : _ = some (Value.slice sa sn sc) := T_32.cell 1; have cT_32_2 : _ = some (Value.slice sb sm sd) := T_32.cell 2; have cT_32_3 : _ = some (Value.bool (decide (h61.num < 0))) := T_32.cell 3; have cT_32_4 : _ = some (Value.slice ta tn tc) := T_32.cell 4; have cT_32_5 : _ = some (Value.slice tb tm td) := T_32.cell 5; have QU_32 := QU_31.below hB_32; have QV_32 := QV_31.below hB_32; have QR_32 := QR_31.below hB_32; have QT_32 := QT_31.below hB_32; have Qk_32 := Qk_31.below hB_32; have Ql_32 := Ql_31.below hB_32; have Qm_32 := Qm_31.below hB_32; have Qq_32 := Qq_31.below hB_32; have hbel_32 := hbel_31.next hB_32; have hsz_32 := hB_32.size; clear Su_31 cSu_31_0 cSu_31_1 cSu_31_2 Sv_31 cSv_31_0 cSv_31_1 cSv_31_2 SR_31 cSR_31_0 cSR_31_1 cSR_31_2 SN_31 cSN_31_0 cSN_31_1 cSN_31_2 T_31 cT_31_0 cT_31_1 cT_31_2 cT_31_3 cT_31_4 cT_31_5 QU_31 QV_31 QR_31 QT_31 Qk_31 Ql_31 Qm_31 Qq_31 hbel_31 hB_32; try clear hB))))
  all_goals (go_wp2; go_ret; exact ⟨rfl, hbel_32⟩)

end Go.Proofs.YtokkfppchfmjcaaGreat
