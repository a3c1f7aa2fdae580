/- THE WALK OF credencelaw04.DecimalBack: what Exact tells of a fraction is read as that fraction, and it has as few digits as can be. -/
import Derived.Test.YtnpkmlpmeeidbaaDv
namespace Go.Proofs.Ytnpkmlpmeeidbaa
set_option linter.unusedVariables false
set_option linter.unusedSimpArgs false
open Go.ChangeShapes Go.WideShapes Go.ChangeAt Go.RowKit Go.NatP

section
variable {P : Program} {md : Region.Mode} {ops : Array Oper} {Q : Exit → Act → World → Prop} {S : World → Prop} {i fuel : Nat} {oi : Oper} {d : Option Tmp} {v : Value} {listed : Array Bool} {a : Act} {w : World}
theorem take_run (hi : ops[i]? = some oi) (hd : oi.dst = d) (hs : Region.noSelect ops = true) (hf : Region.free md ops listed i = true) (hr : (Region.ready md ops listed).contains i = true)
    (hQ : ∀ c a w, Q (.panic c) (a.put d v) w → Q (.panic c) a w) (hw : Region.wanted oi (yielded ops a.tmps) = true) (hv : ∀ w, S w → (execOp a.eval oi).run P w = .ok (.value v) w) (hS : S w)
    (h : wpAnyH P md ops Q S fuel (listed.setIfInBounds i true) (a.put d v) w) : wpAnyH P md ops Q S (fuel + 1) listed a w := by
  subst hd
  exact wpAnyH_take hi hs hf hr hQ (.inl ⟨hw, hv⟩) hS h
theorem take_skip (hi : ops[i]? = some oi) (hd : oi.dst = d) (hs : Region.noSelect ops = true) (hf : Region.free md ops listed i = true) (hr : (Region.ready md ops listed).contains i = true)
    (hQ : ∀ c a w, Q (.panic c) (a.put d undef) w → Q (.panic c) a w) (hw : Region.wanted oi (yielded ops a.tmps) = false) (hS : S w)
    (h : wpAnyH P md ops Q S fuel (listed.setIfInBounds i true) (a.put d undef) w) : wpAnyH P md ops Q S (fuel + 1) listed a w := by
  subst hd
  exact wpAnyH_take hi hs hf hr hQ (.inr ⟨hw, rfl⟩) hS h
end

set_option maxRecDepth 100000 in
set_option maxHeartbeats 8000000 in
theorem dback_none {w : World} {q : Rat} {s : Bool} {a b : Option Addr} {n c m d : Nat} (HF : Hid (∀ W, Below w.heap.size w W → Calls Try.prog 59 #[.agg #[.bool s, .slice a n c, .slice b m d]] W (fun e w' => RetQ W q e w'))) (hqs : QS q 20) (hR : ExIs q.den none) :
    Calls Try.prog 12 #[.agg #[.bool s, .slice a n c, .slice b m d]] w (fun e w' => e = .returned (.bool true) ∧ Below w.heap.size w w') := by
  obtain ⟨E, hE⟩ : ∃ E : Nat, E = 100 := ⟨_, rfl⟩
  obtain ⟨P, hP⟩ : ∃ P : Nat, P = 10 ^ E := ⟨_, rfl⟩
  have hPs : Sz P 12 := by rw [hP]; exact (ten_sz9 E).mono (Nat.le_refl _) (by omega)
  have hW := ex_none_whole hR E (by omega)
  rw [← hP] at hW
  have hNP : Hid (∀ (W : World) (a : Option Addr) (n c : Nat), RdN 1 W a n c 10 → Calls Try.prog 60 #[.slice a n c, .int .i64 100] W (RetE W (lm P) 0)) := fun W a n c h => by
    have h2 := dpowN h E (by omega)
    rw [← hP] at h2
    rwa [show ((E : Nat) : Int) = 100 by omega] at h2
  clear hE hP
  obtain ⟨y, hy⟩ : ∃ y, q * (P : Rat) = y := ⟨_, rfl⟩
  rw [hy] at hW
  have hyq := hid hy
  clear hy
  have hEX := hid (fun (W : World) {a' b' : Option Addr} {n' c' m' d' : Nat} (h : RdQ 20 W (decide (q.num < 0)) a' n' c' b' m' d' q) => dexact h (by omega) hR)
  clear hR
  have hc1 : (cmpI y.den 1 != 0) = true := by simp [cmp_one, hW]
  have hden := y.den_pos
  have hqq := hqs.mul (show QS (P : Rat) 12 from ⟨by simpa using hPs, sz_one (by omega)⟩)
  rw [hyq.out] at hqq
  have hent := ent1 w #[Value.bool s, Value.slice a n c, Value.slice b m d] 29
  go_enter Try.func12, Try.ntmps12
  go_wp2_with fail
  generalize (w.alloc (.cells #[Value.bool s, Value.slice a n c, Value.slice b m d] 29)) = W0 at hent ⊢
  obtain ⟨X_0, hbel_0, hsz_0⟩ := hent
  have cX_0_0 : _ = some (Value.bool s) := X_0.cell 0
  have cX_0_1 : _ = some (Value.slice a n c) := X_0.cell 1
  have cX_0_2 : _ = some (Value.slice b m d) := X_0.cell 2
  go_wp2_with fail
  refine (lalive).mono ?_
  rintro e w1 ⟨rfl, hB⟩
  have hB_1 : Below W0.heap.size W0 w1 := (bl.next hB)
  have X_1 := X_0.next hB_1
  have cX_1_0 : _ = some (Value.bool s) := X_1.cell 0
  have cX_1_1 : _ = some (Value.slice a n c) := X_1.cell 1
  have cX_1_2 : _ = some (Value.slice b m d) := X_1.cell 2
  have hbel_1 := hbel_0.next hB_1
  have hsz_1 := hB_1.size
  clear X_0 cX_0_0 cX_0_1 cX_0_2 hbel_0 hB_1
  try clear hB
  go_wp2_with fail
  refine (HF.out _ hbel_1).mono ?_
  rintro e w2 ⟨xa, xn, xc, xb, xm, xd, rfl, hO, hO', hDx, hB⟩
  have hB_2 : Below w1.heap.size w1 w2 := (bl.next hB)
  have X_2 := X_1.next hB_2
  have cX_2_0 : _ = some (Value.bool s) := X_2.cell 0
  have cX_2_1 : _ = some (Value.slice a n c) := X_2.cell 1
  have cX_2_2 : _ = some (Value.slice b m d) := X_2.cell 2
  have hbel_2 := hbel_1.next hB_2
  have hsz_2 := hB_2.size
  clear X_1 cX_1_0 cX_1_1 cX_1_2 hbel_1 hB_2
  have Ox_2 := hO
  have ltOx := hO.ltB
  have Px_2 := hO'
  have ltPx := hO'.ltB
  clear hO hO'
  try clear hB
  have hbx := blk_new w2 #[Value.bool (decide (q.num < 0)), Value.slice xa xn xc, Value.slice xb xm xd] 29
  have hbB := (Below.refl w2.heap.size w2).alloc (Nat.le_refl _) (.cells #[Value.bool (decide (q.num < 0)), Value.slice xa xn xc, Value.slice xb xm xd] 29)
  have hltQ := hbx.lt
  have hB_3 : Below w2.heap.size w2 (w2.alloc (.cells #[Value.bool (decide (q.num < 0)), Value.slice xa xn xc, Value.slice xb xm xd] 29)) := hbB
  have X_3 := X_2.next hB_3
  have cX_3_0 : _ = some (Value.bool s) := X_3.cell 0
  have cX_3_1 : _ = some (Value.slice a n c) := X_3.cell 1
  have cX_3_2 : _ = some (Value.slice b m d) := X_3.cell 2
  have Ox_3 := Ox_2.below hB_3
  have Px_3 := Px_2.below hB_3
  have hbel_3 := hbel_2.next hB_3
  have hsz_3 := hB_3.size
  clear hB_3
  have Q_3 := hbx
  clear hbx hbB
  have cQ_3_0 : _ = some (Value.bool (decide (q.num < 0))) := Q_3.cell 0
  have cQ_3_1 : _ = some (Value.slice xa xn xc) := Q_3.cell 1
  have cQ_3_2 : _ = some (Value.slice xb xm xd) := Q_3.cell 2
  go_wp2_with fail
  clear X_2 cX_2_0 cX_2_1 cX_2_2 Ox_2 Px_2 hbel_2
  generalize (w2.alloc (.cells #[Value.bool (decide (q.num < 0)), Value.slice xa xn xc, Value.slice xb xm xd] 29)) = v3 at *
  have RQ_3 := Ox_3.rdQ Px_3 hqs
  clear Ox_3
  clear Px_3
  go_wp2_with fail
  refine (hEX.out _ RQ_3).mono ?_
  rintro e w4 ⟨rfl, hB⟩
  have hB_4 : Below v3.heap.size v3 w4 := (bl.next hB)
  have X_4 := X_3.next hB_4
  have cX_4_0 : _ = some (Value.bool s) := X_4.cell 0
  have cX_4_1 : _ = some (Value.slice a n c) := X_4.cell 1
  have cX_4_2 : _ = some (Value.slice b m d) := X_4.cell 2
  have Q_4 := Q_3.next hB_4
  have cQ_4_0 : _ = some (Value.bool (decide (q.num < 0))) := Q_4.cell 0
  have cQ_4_1 : _ = some (Value.slice xa xn xc) := Q_4.cell 1
  have cQ_4_2 : _ = some (Value.slice xb xm xd) := Q_4.cell 2
  have RQ_4 := RQ_3.below hB_4
  have hbel_4 := hbel_3.next hB_4
  have hsz_4 := hB_4.size
  clear X_3 cX_3_0 cX_3_1 cX_3_2 Q_3 cQ_3_0 cQ_3_1 cQ_3_2 RQ_3 hbel_3 hB_4
  try clear hB
  rw [show exT2 q none = ⟨#[]⟩ from rfl]
  have hbx := blk_new w4 #[Value.int .u32 10] 39
  have hbB := (Below.refl w4.heap.size w4).alloc (Nat.le_refl _) (.cells #[Value.int .u32 10] 39)
  have hltTEN := hbx.lt
  have hB_5 : Below w4.heap.size w4 (w4.alloc (.cells #[Value.int .u32 10] 39)) := hbB
  have X_5 := X_4.next hB_5
  have cX_5_0 : _ = some (Value.bool s) := X_5.cell 0
  have cX_5_1 : _ = some (Value.slice a n c) := X_5.cell 1
  have cX_5_2 : _ = some (Value.slice b m d) := X_5.cell 2
  have Q_5 := Q_4.next hB_5
  have cQ_5_0 : _ = some (Value.bool (decide (q.num < 0))) := Q_5.cell 0
  have cQ_5_1 : _ = some (Value.slice xa xn xc) := Q_5.cell 1
  have cQ_5_2 : _ = some (Value.slice xb xm xd) := Q_5.cell 2
  have RQ_5 := RQ_4.below hB_5
  have hbel_5 := hbel_4.next hB_5
  have hsz_5 := hB_5.size
  clear hB_5
  have TEN_5 := hbx
  clear hbx hbB
  have cTEN_5_0 : _ = some (Value.int .u32 10) := TEN_5.cell 0
  go_wp2_with fail
  clear X_4 cX_4_0 cX_4_1 cX_4_2 Q_4 cQ_4_0 cQ_4_1 cQ_4_2 RQ_4 hbel_4
  generalize (w4.alloc (.cells #[Value.int .u32 10] 39)) = v5 at *
  go_wp2_with fail
  refine (hNP.out _ _ _ _ (rdN_blk rfl (by decide) TEN_5)).mono ?_
  rintro e w6 ⟨pa, pn, pc, rfl, hO, hB⟩
  have hB_6 : Below v5.heap.size v5 w6 := (bl.next hB)
  have X_6 := X_5.next hB_6
  have cX_6_0 : _ = some (Value.bool s) := X_6.cell 0
  have cX_6_1 : _ = some (Value.slice a n c) := X_6.cell 1
  have cX_6_2 : _ = some (Value.slice b m d) := X_6.cell 2
  have Q_6 := Q_5.next hB_6
  have cQ_6_0 : _ = some (Value.bool (decide (q.num < 0))) := Q_6.cell 0
  have cQ_6_1 : _ = some (Value.slice xa xn xc) := Q_6.cell 1
  have cQ_6_2 : _ = some (Value.slice xb xm xd) := Q_6.cell 2
  have TEN_6 := TEN_5.next hB_6
  have cTEN_6_0 : _ = some (Value.int .u32 10) := TEN_6.cell 0
  have RQ_6 := RQ_5.below hB_6
  have hbel_6 := hbel_5.next hB_6
  have hsz_6 := hB_6.size
  clear X_5 cX_5_0 cX_5_1 cX_5_2 Q_5 cQ_5_0 cQ_5_1 cQ_5_2 TEN_5 cTEN_5_0 RQ_5 hbel_5 hB_6
  have P_6 := hO
  have ltP := hO.ltB
  clear hO
  try clear hB
  have hbx := blk_new w6 #[Value.int .u32 1] 39
  have hbB := (Below.refl w6.heap.size w6).alloc (Nat.le_refl _) (.cells #[Value.int .u32 1] 39)
  have hltONE := hbx.lt
  have hB_7 : Below w6.heap.size w6 (w6.alloc (.cells #[Value.int .u32 1] 39)) := hbB
  have X_7 := X_6.next hB_7
  have cX_7_0 : _ = some (Value.bool s) := X_7.cell 0
  have cX_7_1 : _ = some (Value.slice a n c) := X_7.cell 1
  have cX_7_2 : _ = some (Value.slice b m d) := X_7.cell 2
  have Q_7 := Q_6.next hB_7
  have cQ_7_0 : _ = some (Value.bool (decide (q.num < 0))) := Q_7.cell 0
  have cQ_7_1 : _ = some (Value.slice xa xn xc) := Q_7.cell 1
  have cQ_7_2 : _ = some (Value.slice xb xm xd) := Q_7.cell 2
  have TEN_7 := TEN_6.next hB_7
  have cTEN_7_0 : _ = some (Value.int .u32 10) := TEN_7.cell 0
  have RQ_7 := RQ_6.below hB_7
  have P_7 := P_6.below hB_7
  have hbel_7 := hbel_6.next hB_7
  have hsz_7 := hB_7.size
  clear hB_7
  have ONE_7 := hbx
  clear hbx hbB
  have cONE_7_0 : _ = some (Value.int .u32 1) := ONE_7.cell 0
  go_wp2_with fail
  clear X_6 cX_6_0 cX_6_1 cX_6_2 Q_6 cQ_6_0 cQ_6_1 cQ_6_2 TEN_6 cTEN_6_0 RQ_6 P_6 hbel_6
  generalize (w6.alloc (.cells #[Value.int .u32 1] 39)) = v7 at *
  have RP_7 : RdQ 12 v7 false pa pn pc (some ⟨w6.heap.size, 0, none⟩) 1 1 (P : Rat) := ⟨P, 1, P_7.rdN hPs, (rdN_blk rfl (by decide) ONE_7).mono (by omega), by unfold qv; rw [und_of (by decide)]; exact Rat.mkRat_one _⟩
  go_wp2_with fail
  refine (qmul RQ_7 (by omega) RP_7 (by omega)).mono ?_
  rw [hyq.out]
  rintro e w8 ⟨ya, yn, yc, yb, ym, yd, rfl, hO, hO', hDy, hB⟩
  have hB_8 : Below v7.heap.size v7 w8 := (bl.next hB)
  have X_8 := X_7.next hB_8
  have cX_8_0 : _ = some (Value.bool s) := X_8.cell 0
  have cX_8_1 : _ = some (Value.slice a n c) := X_8.cell 1
  have cX_8_2 : _ = some (Value.slice b m d) := X_8.cell 2
  have Q_8 := Q_7.next hB_8
  have cQ_8_0 : _ = some (Value.bool (decide (q.num < 0))) := Q_8.cell 0
  have cQ_8_1 : _ = some (Value.slice xa xn xc) := Q_8.cell 1
  have cQ_8_2 : _ = some (Value.slice xb xm xd) := Q_8.cell 2
  have TEN_8 := TEN_7.next hB_8
  have cTEN_8_0 : _ = some (Value.int .u32 10) := TEN_8.cell 0
  have ONE_8 := ONE_7.next hB_8
  have cONE_8_0 : _ = some (Value.int .u32 1) := ONE_8.cell 0
  have RQ_8 := RQ_7.below hB_8
  have P_8 := P_7.below hB_8
  have RP_8 := RP_7.below hB_8
  have hbel_8 := hbel_7.next hB_8
  have hsz_8 := hB_8.size
  clear X_7 cX_7_0 cX_7_1 cX_7_2 Q_7 cQ_7_0 cQ_7_1 cQ_7_2 TEN_7 cTEN_7_0 ONE_7 cONE_7_0 RQ_7 P_7 RP_7 hbel_7 hB_8
  have Oy_8 := hO
  have ltOy := hO.ltB
  have Py_8 := hO'
  have ltPy := hO'.ltB
  clear hO hO'
  try clear hB
  clear RP_8
  have hym : 0 < ym := by rw [← Py_8.len]; exact List.length_pos_iff.2 (fun h => by have := lm_eq_nil.1 h; omega)
  have hbx := blk_new w8 #[Value.bool (decide (y.num < 0)), Value.slice ya yn yc, Value.slice yb ym yd] 29
  have hbB := (Below.refl w8.heap.size w8).alloc (Nat.le_refl _) (.cells #[Value.bool (decide (y.num < 0)), Value.slice ya yn yc, Value.slice yb ym yd] 29)
  have hltY := hbx.lt
  have hB_9 : Below w8.heap.size w8 (w8.alloc (.cells #[Value.bool (decide (y.num < 0)), Value.slice ya yn yc, Value.slice yb ym yd] 29)) := hbB
  have X_9 := X_8.next hB_9
  have cX_9_0 : _ = some (Value.bool s) := X_9.cell 0
  have cX_9_1 : _ = some (Value.slice a n c) := X_9.cell 1
  have cX_9_2 : _ = some (Value.slice b m d) := X_9.cell 2
  have Q_9 := Q_8.next hB_9
  have cQ_9_0 : _ = some (Value.bool (decide (q.num < 0))) := Q_9.cell 0
  have cQ_9_1 : _ = some (Value.slice xa xn xc) := Q_9.cell 1
  have cQ_9_2 : _ = some (Value.slice xb xm xd) := Q_9.cell 2
  have TEN_9 := TEN_8.next hB_9
  have cTEN_9_0 : _ = some (Value.int .u32 10) := TEN_9.cell 0
  have ONE_9 := ONE_8.next hB_9
  have cONE_9_0 : _ = some (Value.int .u32 1) := ONE_9.cell 0
  have RQ_9 := RQ_8.below hB_9
  have P_9 := P_8.below hB_9
  have Oy_9 := Oy_8.below hB_9
  have Py_9 := Py_8.below hB_9
  have hbel_9 := hbel_8.next hB_9
  have hsz_9 := hB_9.size
  clear hB_9
  have Y_9 := hbx
  clear hbx hbB
  have cY_9_0 : _ = some (Value.bool (decide (y.num < 0))) := Y_9.cell 0
  have cY_9_1 : _ = some (Value.slice ya yn yc) := Y_9.cell 1
  have cY_9_2 : _ = some (Value.slice yb ym yd) := Y_9.cell 2
  have hz9 := hid (show (w8.alloc (.cells #[Value.bool (decide (y.num < 0)), Value.slice ya yn yc, Value.slice yb ym yd] 29)).heap.size = w8.heap.size + 1 from by simp)
  go_wp2_with fail
  clear X_8 cX_8_0 cX_8_1 cX_8_2 Q_8 cQ_8_0 cQ_8_1 cQ_8_2 TEN_8 cTEN_8_0 ONE_8 cONE_8_0 RQ_8 P_8 Oy_8 Py_8 hbel_8
  generalize (w8.alloc (.cells #[Value.bool (decide (y.num < 0)), Value.slice ya yn yc, Value.slice yb ym yd] 29)) = v9 at *
  have hbx := blk_new v9 #[Value.int .u32 1] 39
  have hbB := (Below.refl v9.heap.size v9).alloc (Nat.le_refl _) (.cells #[Value.int .u32 1] 39)
  have hltON2 := hbx.lt
  have hB_10 : Below v9.heap.size v9 (v9.alloc (.cells #[Value.int .u32 1] 39)) := hbB
  have X_10 := X_9.next hB_10
  have cX_10_0 : _ = some (Value.bool s) := X_10.cell 0
  have cX_10_1 : _ = some (Value.slice a n c) := X_10.cell 1
  have cX_10_2 : _ = some (Value.slice b m d) := X_10.cell 2
  have Q_10 := Q_9.next hB_10
  have cQ_10_0 : _ = some (Value.bool (decide (q.num < 0))) := Q_10.cell 0
  have cQ_10_1 : _ = some (Value.slice xa xn xc) := Q_10.cell 1
  have cQ_10_2 : _ = some (Value.slice xb xm xd) := Q_10.cell 2
  have TEN_10 := TEN_9.next hB_10
  have cTEN_10_0 : _ = some (Value.int .u32 10) := TEN_10.cell 0
  have ONE_10 := ONE_9.next hB_10
  have cONE_10_0 : _ = some (Value.int .u32 1) := ONE_10.cell 0
  have Y_10 := Y_9.next hB_10
  have cY_10_0 : _ = some (Value.bool (decide (y.num < 0))) := Y_10.cell 0
  have cY_10_1 : _ = some (Value.slice ya yn yc) := Y_10.cell 1
  have cY_10_2 : _ = some (Value.slice yb ym yd) := Y_10.cell 2
  have RQ_10 := RQ_9.below hB_10
  have P_10 := P_9.below hB_10
  have Oy_10 := Oy_9.below hB_10
  have Py_10 := Py_9.below hB_10
  have hbel_10 := hbel_9.next hB_10
  have hsz_10 := hB_10.size
  clear hB_10
  have ON2_10 := hbx
  clear hbx hbB
  have cON2_10_0 : _ = some (Value.int .u32 1) := ON2_10.cell 0
  go_wp2_with fail
  clear X_9 cX_9_0 cX_9_1 cX_9_2 Q_9 cQ_9_0 cQ_9_1 cQ_9_2 TEN_9 cTEN_9_0 ONE_9 cONE_9_0 Y_9 cY_9_0 cY_9_1 cY_9_2 RQ_9 P_9 Oy_9 Py_9 hbel_9
  generalize (v9.alloc (.cells #[Value.int .u32 1] 39)) = v10 at *
  rw [← hz9.out]
  go_wp2_with fail
  refine (ncmpR (Py_10.rdN (k := 40) (hqq.2.mono (Nat.le_refl _) (by omega))) (rdN_blk (x := 1) rfl (by decide) ON2_10)).mono ?_
  rintro e w11 ⟨rfl, hB⟩
  have hB_11 : Below v10.heap.size v10 w11 := (bl.next hB)
  have X_11 := X_10.next hB_11
  have cX_11_0 : _ = some (Value.bool s) := X_11.cell 0
  have cX_11_1 : _ = some (Value.slice a n c) := X_11.cell 1
  have cX_11_2 : _ = some (Value.slice b m d) := X_11.cell 2
  have Q_11 := Q_10.next hB_11
  have cQ_11_0 : _ = some (Value.bool (decide (q.num < 0))) := Q_11.cell 0
  have cQ_11_1 : _ = some (Value.slice xa xn xc) := Q_11.cell 1
  have cQ_11_2 : _ = some (Value.slice xb xm xd) := Q_11.cell 2
  have TEN_11 := TEN_10.next hB_11
  have cTEN_11_0 : _ = some (Value.int .u32 10) := TEN_11.cell 0
  have ONE_11 := ONE_10.next hB_11
  have cONE_11_0 : _ = some (Value.int .u32 1) := ONE_11.cell 0
  have Y_11 := Y_10.next hB_11
  have cY_11_0 : _ = some (Value.bool (decide (y.num < 0))) := Y_11.cell 0
  have cY_11_1 : _ = some (Value.slice ya yn yc) := Y_11.cell 1
  have cY_11_2 : _ = some (Value.slice yb ym yd) := Y_11.cell 2
  have ON2_11 := ON2_10.next hB_11
  have cON2_11_0 : _ = some (Value.int .u32 1) := ON2_11.cell 0
  have RQ_11 := RQ_10.below hB_11
  have P_11 := P_10.below hB_11
  have Oy_11 := Oy_10.below hB_11
  have Py_11 := Py_10.below hB_11
  have hbel_11 := hbel_10.next hB_11
  have hsz_11 := hB_11.size
  clear X_10 cX_10_0 cX_10_1 cX_10_2 Q_10 cQ_10_0 cQ_10_1 cQ_10_2 TEN_10 cTEN_10_0 ONE_10 cONE_10_0 Y_10 cY_10_0 cY_10_1 cY_10_2 ON2_10 cON2_10_0 RQ_10 P_10 Oy_10 Py_10 hbel_10 hB_11
  try clear hB
  go_wp2
  go_ret
  exact ⟨rfl, hbel_11⟩

set_option maxRecDepth 100000 in
set_option maxHeartbeats 8000000 in
theorem dback_some0 {w : World} {q : Rat} {s : Bool} {a b : Option Addr} {n c m d : Nat} (HF : Hid (∀ W, Below w.heap.size w W → Calls Try.prog 59 #[.agg #[.bool s, .slice a n c, .slice b m d]] W (fun e w' => RetQ W q e w'))) (hqs : QS q 20) (N : Nat) (hR : ExIs q.den (some N)) (hn : decide (q.num < 0) = false) :
    Calls Try.prog 12 #[.agg #[.bool s, .slice a n c, .slice b m d]] w (fun e w' => e = .returned (.bool true) ∧ Below w.heap.size w w') := by
  have hsz := back_size hqs hR
  have hby := exT_by (q := q) (N := N)
  rw [hn] at hby
  have hX := hid (fun (W : World) {a' b' : Option Addr} {n' c' m' d' : Nat} (h : RdQ 20 W (decide (q.num < 0)) a' n' c' b' m' d' q) => dexact h (by omega) hR)
  obtain ⟨S, hS⟩ : ∃ S, exT2 q (some N) = S := ⟨_, rfl⟩
  rw [hS] at hX hsz hby
  clear hS
  have hdq := dc_ptd false (q.num.natAbs * 10 ^ N / q.den) N
  rw [← hby] at hdq
  have hback := ex_back hR
  rw [hn] at hback
  rw [hback] at hdq
  have HP := hid (fun w => dparse (w := w) S hsz)
  rw [hdq.1, hdq.2] at HP
  have hlast := hid (ex_last hR)
  obtain ⟨v, hv⟩ : ∃ v, q.num.natAbs * 10 ^ N / q.den = v := ⟨_, rfl⟩
  rw [hv] at hby hlast
  clear hv hdq hback hR
  have hsg := hid (sgnQ_neg (q := q) hn)
  have hbyh := hid hby
  clear hby hn
  have hent := ent1 w #[Value.bool s, Value.slice a n c, Value.slice b m d] 29
  go_enter Try.func12, Try.ntmps12
  go_wp2_with fail
  generalize (w.alloc (.cells #[Value.bool s, Value.slice a n c, Value.slice b m d] 29)) = W0 at hent ⊢
  obtain ⟨X_0, hbel_0, hsz_0⟩ := hent
  have cX_0_0 : _ = some (Value.bool s) := X_0.cell 0
  have cX_0_1 : _ = some (Value.slice a n c) := X_0.cell 1
  have cX_0_2 : _ = some (Value.slice b m d) := X_0.cell 2
  go_wp2_with fail
  refine (lalive).mono ?_
  rintro e w1 ⟨rfl, hB⟩
  have hB_1 : Below W0.heap.size W0 w1 := (bl.next hB)
  have X_1 := X_0.next hB_1
  have cX_1_0 : _ = some (Value.bool s) := X_1.cell 0
  have cX_1_1 : _ = some (Value.slice a n c) := X_1.cell 1
  have cX_1_2 : _ = some (Value.slice b m d) := X_1.cell 2
  have hbel_1 := hbel_0.next hB_1
  have hsz_1 := hB_1.size
  clear X_0 cX_0_0 cX_0_1 cX_0_2 hbel_0 hB_1
  try clear hB
  go_wp2_with fail
  refine (HF.out _ hbel_1).mono ?_
  rintro e w2 ⟨xa, xn, xc, xb, xm, xd, rfl, hO, hO', hDx, hB⟩
  have hB_2 : Below w1.heap.size w1 w2 := (bl.next hB)
  have X_2 := X_1.next hB_2
  have cX_2_0 : _ = some (Value.bool s) := X_2.cell 0
  have cX_2_1 : _ = some (Value.slice a n c) := X_2.cell 1
  have cX_2_2 : _ = some (Value.slice b m d) := X_2.cell 2
  have hbel_2 := hbel_1.next hB_2
  have hsz_2 := hB_2.size
  clear X_1 cX_1_0 cX_1_1 cX_1_2 hbel_1 hB_2
  have Ox_2 := hO
  have ltOx := hO.ltB
  have Px_2 := hO'
  have ltPx := hO'.ltB
  clear hO hO'
  try clear hB
  have hbx := blk_new w2 #[Value.bool (decide (q.num < 0)), Value.slice xa xn xc, Value.slice xb xm xd] 29
  have hbB := (Below.refl w2.heap.size w2).alloc (Nat.le_refl _) (.cells #[Value.bool (decide (q.num < 0)), Value.slice xa xn xc, Value.slice xb xm xd] 29)
  have hltQ := hbx.lt
  have hB_3 : Below w2.heap.size w2 (w2.alloc (.cells #[Value.bool (decide (q.num < 0)), Value.slice xa xn xc, Value.slice xb xm xd] 29)) := hbB
  have X_3 := X_2.next hB_3
  have cX_3_0 : _ = some (Value.bool s) := X_3.cell 0
  have cX_3_1 : _ = some (Value.slice a n c) := X_3.cell 1
  have cX_3_2 : _ = some (Value.slice b m d) := X_3.cell 2
  have Ox_3 := Ox_2.below hB_3
  have Px_3 := Px_2.below hB_3
  have hbel_3 := hbel_2.next hB_3
  have hsz_3 := hB_3.size
  clear hB_3
  have Q_3 := hbx
  clear hbx hbB
  have cQ_3_0 : _ = some (Value.bool (decide (q.num < 0))) := Q_3.cell 0
  have cQ_3_1 : _ = some (Value.slice xa xn xc) := Q_3.cell 1
  have cQ_3_2 : _ = some (Value.slice xb xm xd) := Q_3.cell 2
  go_wp2_with fail
  clear X_2 cX_2_0 cX_2_1 cX_2_2 Ox_2 Px_2 hbel_2
  generalize (w2.alloc (.cells #[Value.bool (decide (q.num < 0)), Value.slice xa xn xc, Value.slice xb xm xd] 29)) = v3 at *
  have RQ_3 := Ox_3.rdQ Px_3 hqs
  clear Ox_3
  clear Px_3
  go_wp2_with fail
  refine (hX.out _ RQ_3).mono ?_
  rintro e w4 ⟨rfl, hB⟩
  have hB_4 : Below v3.heap.size v3 w4 := (bl.next hB)
  have X_4 := X_3.next hB_4
  have cX_4_0 : _ = some (Value.bool s) := X_4.cell 0
  have cX_4_1 : _ = some (Value.slice a n c) := X_4.cell 1
  have cX_4_2 : _ = some (Value.slice b m d) := X_4.cell 2
  have Q_4 := Q_3.next hB_4
  have cQ_4_0 : _ = some (Value.bool (decide (q.num < 0))) := Q_4.cell 0
  have cQ_4_1 : _ = some (Value.slice xa xn xc) := Q_4.cell 1
  have cQ_4_2 : _ = some (Value.slice xb xm xd) := Q_4.cell 2
  have RQ_4 := RQ_3.below hB_4
  have hbel_4 := hbel_3.next hB_4
  have hsz_4 := hB_4.size
  clear X_3 cX_3_0 cX_3_1 cX_3_2 Q_3 cQ_3_0 cQ_3_1 cQ_3_2 RQ_3 hbel_3 hB_4
  try clear hB
  go_wp2_with fail
  refine (HP.out _).mono ?_
  rintro e w5 ⟨ya, yn, yc, yb, ym, yd, rfl, hO, hO', hDy, hB⟩
  have hB_5 : Below w4.heap.size w4 w5 := (bl.next hB)
  have X_5 := X_4.next hB_5
  have cX_5_0 : _ = some (Value.bool s) := X_5.cell 0
  have cX_5_1 : _ = some (Value.slice a n c) := X_5.cell 1
  have cX_5_2 : _ = some (Value.slice b m d) := X_5.cell 2
  have Q_5 := Q_4.next hB_5
  have cQ_5_0 : _ = some (Value.bool (decide (q.num < 0))) := Q_5.cell 0
  have cQ_5_1 : _ = some (Value.slice xa xn xc) := Q_5.cell 1
  have cQ_5_2 : _ = some (Value.slice xb xm xd) := Q_5.cell 2
  have RQ_5 := RQ_4.below hB_5
  have hbel_5 := hbel_4.next hB_5
  have hsz_5 := hB_5.size
  clear X_4 cX_4_0 cX_4_1 cX_4_2 Q_4 cQ_4_0 cQ_4_1 cQ_4_2 RQ_4 hbel_4 hB_5
  have Oy_5 := hO
  have ltOy := hO.ltB
  have Py_5 := hO'
  have ltPy := hO'.ltB
  clear hO hO'
  try clear hB
  have hbx := blk_new w5 #[Value.bool (qsg q 0), Value.slice ya yn yc, Value.slice yb ym yd] 29
  have hbB := (Below.refl w5.heap.size w5).alloc (Nat.le_refl _) (.cells #[Value.bool (qsg q 0), Value.slice ya yn yc, Value.slice yb ym yd] 29)
  have hltY := hbx.lt
  have hB_6 : Below w5.heap.size w5 (w5.alloc (.cells #[Value.bool (qsg q 0), Value.slice ya yn yc, Value.slice yb ym yd] 29)) := hbB
  have X_6 := X_5.next hB_6
  have cX_6_0 : _ = some (Value.bool s) := X_6.cell 0
  have cX_6_1 : _ = some (Value.slice a n c) := X_6.cell 1
  have cX_6_2 : _ = some (Value.slice b m d) := X_6.cell 2
  have Q_6 := Q_5.next hB_6
  have cQ_6_0 : _ = some (Value.bool (decide (q.num < 0))) := Q_6.cell 0
  have cQ_6_1 : _ = some (Value.slice xa xn xc) := Q_6.cell 1
  have cQ_6_2 : _ = some (Value.slice xb xm xd) := Q_6.cell 2
  have RQ_6 := RQ_5.below hB_6
  have Oy_6 := Oy_5.below hB_6
  have Py_6 := Py_5.below hB_6
  have hbel_6 := hbel_5.next hB_6
  have hsz_6 := hB_6.size
  clear hB_6
  have Y_6 := hbx
  clear hbx hbB
  have cY_6_0 : _ = some (Value.bool (qsg q 0)) := Y_6.cell 0
  have cY_6_1 : _ = some (Value.slice ya yn yc) := Y_6.cell 1
  have cY_6_2 : _ = some (Value.slice yb ym yd) := Y_6.cell 2
  go_wp2_with fail
  clear X_5 cX_5_0 cX_5_1 cX_5_2 Q_5 cQ_5_0 cQ_5_1 cQ_5_2 RQ_5 Oy_5 Py_5 hbel_5
  generalize (w5.alloc (.cells #[Value.bool (qsg q 0), Value.slice ya yn yc, Value.slice yb ym yd] 29)) = v6 at *
  have RY_6 : RdQ 20 v6 (decide (q.num < 0)) ya yn yc yb ym yd q := Oy_6.rdQ Py_6 hqs
  clear Oy_6
  clear Py_6
  go_wp2_with fail
  refine (lsame4 RQ_6 (by omega) RY_6 (by omega) rfl).mono ?_
  rintro e w7 ⟨rfl, hB⟩
  have hB_7 : Below v6.heap.size v6 w7 := (bl.next hB)
  have X_7 := X_6.next hB_7
  have cX_7_0 : _ = some (Value.bool s) := X_7.cell 0
  have cX_7_1 : _ = some (Value.slice a n c) := X_7.cell 1
  have cX_7_2 : _ = some (Value.slice b m d) := X_7.cell 2
  have Q_7 := Q_6.next hB_7
  have cQ_7_0 : _ = some (Value.bool (decide (q.num < 0))) := Q_7.cell 0
  have cQ_7_1 : _ = some (Value.slice xa xn xc) := Q_7.cell 1
  have cQ_7_2 : _ = some (Value.slice xb xm xd) := Q_7.cell 2
  have Y_7 := Y_6.next hB_7
  have cY_7_0 : _ = some (Value.bool (qsg q 0)) := Y_7.cell 0
  have cY_7_1 : _ = some (Value.slice ya yn yc) := Y_7.cell 1
  have cY_7_2 : _ = some (Value.slice yb ym yd) := Y_7.cell 2
  have RQ_7 := RQ_6.below hB_7
  have RY_7 := RY_6.below hB_7
  have hbel_7 := hbel_6.next hB_7
  have hsz_7 := hB_7.size
  clear X_6 cX_6_0 cX_6_1 cX_6_2 Q_6 cQ_6_0 cQ_6_1 cQ_6_2 Y_6 cY_6_0 cY_6_1 cY_6_2 RQ_6 RY_6 hbel_6 hB_7
  try clear hB
  have hby := hbyh.out
  clear hbyh
  obtain ⟨c0, t0, hc0, hc1, hc2⟩ := ptd_head v N
  have hbU : by' S = ptd v N := hby
  have h0S : 0 < S.size := by rw [← by_len, hbU, hc0]; simp
  have hcs := be_cons h0S
  rw [hbU, hc0] at hcs
  have hx0 : ((S[0]).toNat : Int) ≠ 45 := by injection hcs with h _; omega
  have hpt : Hid (∀ j, j < S.size → ((by' S).getD j 0 = 46 ↔ j = ptP v N)) := by rw [hbU, ← by_len, hbU]; exact ptd_point v N
  have hlead : Hid (1 < S.size → (by' S).getD 0 0 = 48 → (by' S).getD 1 0 = 46) := by rw [hbU, ← by_len, hbU]; exact ptd_lead
  have hhead : Hid (0 < S.size ∧ 48 ≤ (by' S).getD 0 0) := by
    obtain ⟨c, t, h1, h2, _⟩ := ptd_head v N
    rw [← by_len, hbU, h1]
    exact ⟨by simp, by simpa using h2⟩
  have hend : Hid (ptP v N < S.size → (by' S).getD (S.size - 1) 0 ≠ 48 ∧ (by' S).getD (S.size - 1) 0 ≠ 46) := fun h => by
    rw [← by_len, hbU] at h
    have hN : N ≠ 0 := fun e => by unfold ptP at h; rw [if_pos e] at h; omega
    have hl := ptd_last (v := v) hN
    have h2 := hlast.out hN
    rw [← by_len, hbU, hl]
    omega
  clear hby hbU hcs hlast hc0 hc1 hc2
  generalize hPP : ptP v N = P at *
  clear hPP
  have hUm : S.size ≤ 4096 := by exact hsz
  go_wp2_with fail
  obtain ⟨W0, hW0⟩ : ∃ y : World, y = w7 := ⟨_, rfl⟩
  subst hW0
  go_loopw [13, 14] (fun pv iv wr => ∃ (i : Nat) (b : Bool), i ≤ S.size ∧ iv = .int .i64 i ∧ pv = .bool b ∧ Hid (b = decide (P < i)) ∧ wr = W0) (fun _ iv _ => S.size - (intOf iv).toNat)
  case atStart => exact ⟨0, false, by omega, rfl, rfl, by simp [Hid], rfl⟩
  case round =>
    obtain ⟨i, b, hi, rfl, rfl, hb, hwr⟩ := hrel
    subst hwr
    by_cases hlt : i < S.size
    · have hx := by_get S i hlt
      obtain ⟨x, hxe⟩ : ∃ x, S[i].toNat = x := ⟨_, rfl⟩
      have hp := hpt.out i hlt
      rw [hx, hxe] at hp
      cases b
      · by_cases h46 : x = 46
        · have hd : ((x : Int) == 46) = true := by simp [h46]
          have hn : Hid (true = decide (P < i + 1)) := by have := hp.1 h46; simp [Hid]; omega
          clear hp hx hb h46
          go_wp2
          go_roundw
          case rel => exact ⟨i + 1, true, by omega, by go_num, rfl, hn, by first | trivial | rfl⟩
          case measure => simp [intOf]; omega
        · have hd : ((x : Int) == 46) = false := by simp; omega
          have hn : Hid (false = decide (P < i + 1)) := by
            have h1 := mt hp.2 h46
            have h2 := hb.out
            simp at h2
            simp [Hid]; omega
          clear hp hx hb h46
          go_wp2
          go_roundw
          case rel => exact ⟨i + 1, false, by omega, by go_num, rfl, hn, by first | trivial | rfl⟩
          case measure => simp [intOf]; omega
      · have hn : Hid (true = decide (P < i + 1)) := by
          have h2 := hb.out
          simp at h2
          simp [Hid]; omega
        clear hp hx hb
        go_wp2
        go_roundw
        case rel => exact ⟨i + 1, true, by omega, by go_num, rfl, hn, by first | trivial | rfl⟩
        case measure => simp [intOf]; omega
    · obtain rfl : i = S.size := by omega
      have hs0 := hhead.out.1
      have hx0' := by_get S 0 hs0
      obtain ⟨c0, hc0⟩ : ∃ x, S[0].toNat = x := ⟨_, rfl⟩
      rw [hc0] at hx0'
      have hc48 : 48 ≤ c0 := by have := hhead.out.2; omega
      go_upto_region 19 with fail
      go_cut [15] (fun s15 wx => s15 = .bool false ∧ wx = wr)
      case first =>
        clear hpt hend hb
        by_cases h1 : 1 < S.size
        · have hx1 := by_get S 1 h1
          obtain ⟨c1, hc1⟩ : ∃ x, S[1].toNat = x := ⟨_, rfl⟩
          rw [hc1] at hx1
          by_cases h48 : c0 = 48
          · have h46 : c1 = 46 := by rw [← hx1]; exact hlead.out h1 (by rw [hx0', h48])
            have hd : ((c0 : Int) == 48) = true := by simp [h48]
            have hd1 : ((c1 : Int) != 46) = false := by simp [h46]
            clear h48 h46 hx1 hx0' hlead
            go_wp2_with fail
            go_meet
            exact ⟨rfl, rfl⟩
          · have hd : ((c0 : Int) == 48) = false := by simp; omega
            clear h48 hx1 hx0' hlead
            go_wp2_with fail
            go_meet
            exact ⟨rfl, rfl⟩
        · clear hx0' hlead
          go_wp2_with fail
          go_meet
          exact ⟨rfl, rfl⟩
      case rest =>
        obtain ⟨rfl, rfl⟩ := hcut
        have hne := hhead.out.1
        have hendh := hend.out
        cases b
        · clear hpt hend hlead hb hendh
          have hsg9 := hsg.out
          go_upto_region 20 with fail
          have hd4 : ((c0 : Int) == 45) = false := by simp; omega
          have hzz : (false == false) = true := by simp
          refine wp_region_noPanic ?_
          refine wp_region_held_drew (S := (fun w' => w'.cell? ⟨w2.heap.size, 0, none⟩ = some (Value.bool (decide (q.num < 0))) ∧ w'.cell? ⟨w2.heap.size, 1, none⟩ = some (Value.slice xa xn xc) ∧ w'.cell? ⟨w2.heap.size, 2, none⟩ = some (Value.slice xb xm xd))) (by kernel_rfl) ⟨cQ_7_0, cQ_7_1, cQ_7_2⟩ (fun hHeld => ?_)
          refine take_run (i := 0) (d := some 109) (v := .bool false) rfl rfl (by kernel_rfl) (by kernel_rfl) (by kernel_rfl) (fun _ _ _ h => h) (by rfl) (fun w hSw => by (try dsimp only at hSw); go_simp) (by assumption) ?_
          (try simp only [Act.put, List.setIfInBounds_toArray, List.set_cons_zero, List.set_cons_succ])
          refine take_run (i := 1) (d := some 110) (v := .bool true) rfl rfl (by kernel_rfl) (by kernel_rfl) (by kernel_rfl) (fun _ _ _ h => h) (by rfl) (fun w hSw => by (try dsimp only at hSw); go_simp) (by assumption) ?_
          (try simp only [Act.put, List.setIfInBounds_toArray, List.set_cons_zero, List.set_cons_succ])
          refine take_run (i := 2) (d := some 111) (v := .bool true) rfl rfl (by kernel_rfl) (by kernel_rfl) (by kernel_rfl) (fun _ _ _ h => h) (by rfl) (fun w hSw => by (try dsimp only at hSw); go_simp) (by assumption) ?_
          (try simp only [Act.put, List.setIfInBounds_toArray, List.set_cons_zero, List.set_cons_succ])
          refine take_run (i := 3) (d := some 112) (v := .bool false) rfl rfl (by kernel_rfl) (by kernel_rfl) (by kernel_rfl) (fun _ _ _ h => h) (by rfl) (fun w hSw => by (try dsimp only at hSw); go_simp) (by assumption) ?_
          (try simp only [Act.put, List.setIfInBounds_toArray, List.set_cons_zero, List.set_cons_succ])
          refine take_run (i := 4) (d := some 113) (v := .bool true) rfl rfl (by kernel_rfl) (by kernel_rfl) (by kernel_rfl) (fun _ _ _ h => h) (by rfl) (fun w hSw => by (try dsimp only at hSw); go_simp) (by assumption) ?_
          (try simp only [Act.put, List.setIfInBounds_toArray, List.set_cons_zero, List.set_cons_succ])
          refine take_run (i := 5) (d := some 114) (v := .bool true) rfl rfl (by kernel_rfl) (by kernel_rfl) (by kernel_rfl) (fun _ _ _ h => h) (by rfl) (fun w hSw => by (try dsimp only at hSw); go_simp) (by assumption) ?_
          (try simp only [Act.put, List.setIfInBounds_toArray, List.set_cons_zero, List.set_cons_succ])
          refine take_skip (i := 6) (d := some 115) rfl rfl (by kernel_rfl) (by kernel_rfl) (by kernel_rfl) (fun _ _ _ h => h) (by rfl) (by assumption) ?_
          (try simp only [Act.put, List.setIfInBounds_toArray, List.set_cons_zero, List.set_cons_succ])
          refine take_skip (i := 7) (d := some 116) rfl rfl (by kernel_rfl) (by kernel_rfl) (by kernel_rfl) (fun _ _ _ h => h) (by rfl) (by assumption) ?_
          (try simp only [Act.put, List.setIfInBounds_toArray, List.set_cons_zero, List.set_cons_succ])
          refine take_skip (i := 8) (d := some 117) rfl rfl (by kernel_rfl) (by kernel_rfl) (by kernel_rfl) (fun _ _ _ h => h) (by rfl) (by assumption) ?_
          (try simp only [Act.put, List.setIfInBounds_toArray, List.set_cons_zero, List.set_cons_succ])
          refine take_skip (i := 9) (d := some 118) rfl rfl (by kernel_rfl) (by kernel_rfl) (by kernel_rfl) (fun _ _ _ h => h) (by rfl) (by assumption) ?_
          (try simp only [Act.put, List.setIfInBounds_toArray, List.set_cons_zero, List.set_cons_succ])
          refine take_skip (i := 10) (d := some 119) rfl rfl (by kernel_rfl) (by kernel_rfl) (by kernel_rfl) (fun _ _ _ h => h) (by rfl) (by assumption) ?_
          (try simp only [Act.put, List.setIfInBounds_toArray, List.set_cons_zero, List.set_cons_succ])
          refine take_skip (i := 11) (d := some 120) rfl rfl (by kernel_rfl) (by kernel_rfl) (by kernel_rfl) (fun _ _ _ h => h) (by rfl) (by assumption) ?_
          (try simp only [Act.put, List.setIfInBounds_toArray, List.set_cons_zero, List.set_cons_succ])
          refine take_skip (i := 12) (d := some 121) rfl rfl (by kernel_rfl) (by kernel_rfl) (by kernel_rfl) (fun _ _ _ h => h) (by rfl) (by assumption) ?_
          (try simp only [Act.put, List.setIfInBounds_toArray, List.set_cons_zero, List.set_cons_succ])
          refine take_skip (i := 13) (d := some 122) rfl rfl (by kernel_rfl) (by kernel_rfl) (by kernel_rfl) (fun _ _ _ h => h) (by rfl) (by assumption) ?_
          (try simp only [Act.put, List.setIfInBounds_toArray, List.set_cons_zero, List.set_cons_succ])
          refine take_skip (i := 14) (d := some 123) rfl rfl (by kernel_rfl) (by kernel_rfl) (by kernel_rfl) (fun _ _ _ h => h) (by rfl) (by assumption) ?_
          (try simp only [Act.put, List.setIfInBounds_toArray, List.set_cons_zero, List.set_cons_succ])
          refine take_skip (i := 15) (d := some 124) rfl rfl (by kernel_rfl) (by kernel_rfl) (by kernel_rfl) (fun _ _ _ h => h) (by rfl) (by assumption) ?_
          (try simp only [Act.put, List.setIfInBounds_toArray, List.set_cons_zero, List.set_cons_succ])
          refine take_skip (i := 16) (d := some 125) rfl rfl (by kernel_rfl) (by kernel_rfl) (by kernel_rfl) (fun _ _ _ h => h) (by rfl) (by assumption) ?_
          (try simp only [Act.put, List.setIfInBounds_toArray, List.set_cons_zero, List.set_cons_succ])
          refine take_skip (i := 17) (d := some 126) rfl rfl (by kernel_rfl) (by kernel_rfl) (by kernel_rfl) (fun _ _ _ h => h) (by rfl) (by assumption) ?_
          (try simp only [Act.put, List.setIfInBounds_toArray, List.set_cons_zero, List.set_cons_succ])
          refine take_skip (i := 18) (d := some 127) rfl rfl (by kernel_rfl) (by kernel_rfl) (by kernel_rfl) (fun _ _ _ h => h) (by rfl) (by assumption) ?_
          (try simp only [Act.put, List.setIfInBounds_toArray, List.set_cons_zero, List.set_cons_succ])
          refine take_skip (i := 19) (d := some 128) rfl rfl (by kernel_rfl) (by kernel_rfl) (by kernel_rfl) (fun _ _ _ h => h) (by rfl) (by assumption) ?_
          (try simp only [Act.put, List.setIfInBounds_toArray, List.set_cons_zero, List.set_cons_succ])
          refine take_skip (i := 20) (d := some 129) rfl rfl (by kernel_rfl) (by kernel_rfl) (by kernel_rfl) (fun _ _ _ h => h) (by rfl) (by assumption) ?_
          (try simp only [Act.put, List.setIfInBounds_toArray, List.set_cons_zero, List.set_cons_succ])
          refine take_skip (i := 21) (d := some 130) rfl rfl (by kernel_rfl) (by kernel_rfl) (by kernel_rfl) (fun _ _ _ h => h) (by rfl) (by assumption) ?_
          (try simp only [Act.put, List.setIfInBounds_toArray, List.set_cons_zero, List.set_cons_succ])
          refine take_skip (i := 22) (d := some 131) rfl rfl (by kernel_rfl) (by kernel_rfl) (by kernel_rfl) (fun _ _ _ h => h) (by rfl) (by assumption) ?_
          (try simp only [Act.put, List.setIfInBounds_toArray, List.set_cons_zero, List.set_cons_succ])
          refine take_skip (i := 23) (d := some 132) rfl rfl (by kernel_rfl) (by kernel_rfl) (by kernel_rfl) (fun _ _ _ h => h) (by rfl) (by assumption) ?_
          (try simp only [Act.put, List.setIfInBounds_toArray, List.set_cons_zero, List.set_cons_succ])
          refine take_skip (i := 24) (d := some 133) rfl rfl (by kernel_rfl) (by kernel_rfl) (by kernel_rfl) (fun _ _ _ h => h) (by rfl) (by assumption) ?_
          (try simp only [Act.put, List.setIfInBounds_toArray, List.set_cons_zero, List.set_cons_succ])
          refine take_run (i := 25) (d := some 134) (v := .bool true) rfl rfl (by kernel_rfl) (by kernel_rfl) (by kernel_rfl) (fun _ _ _ h => h) (by rfl) (fun w hSw => by (try dsimp only at hSw); go_simp) (by assumption) ?_
          (try simp only [Act.put, List.setIfInBounds_toArray, List.set_cons_zero, List.set_cons_succ])
          refine take_run (i := 26) (d := some 135) (v := .bool true) rfl rfl (by kernel_rfl) (by kernel_rfl) (by kernel_rfl) (fun _ _ _ h => h) (by rfl) (fun w hSw => by (try dsimp only at hSw); go_simp) (by assumption) ?_
          (try simp only [Act.put, List.setIfInBounds_toArray, List.set_cons_zero, List.set_cons_succ])
          refine take_run (i := 27) (d := some 136) (v := .bool true) rfl rfl (by kernel_rfl) (by kernel_rfl) (by kernel_rfl) (fun _ _ _ h => h) (by rfl) (fun w hSw => by (try dsimp only at hSw); go_simp) (by assumption) ?_
          (try simp only [Act.put, List.setIfInBounds_toArray, List.set_cons_zero, List.set_cons_succ])
          refine take_run (i := 28) (d := some 137) (v := .agg #[Value.bool (decide (q.num < 0)), Value.slice xa xn xc, Value.slice xb xm xd]) rfl rfl (by kernel_rfl) (by kernel_rfl) (by kernel_rfl) (fun _ _ _ h => h) (by rfl) (fun w hSw => by (try dsimp only at hSw); go_simp) (by assumption) ?_
          (try simp only [Act.put, List.setIfInBounds_toArray, List.set_cons_zero, List.set_cons_succ])
          refine take_run (i := 31) (d := some 140) (v := .string S) rfl rfl (by kernel_rfl) (by kernel_rfl) (by kernel_rfl) (fun _ _ _ h => h) (by rfl) (fun w hSw => by (try dsimp only at hSw); go_simp) (by assumption) ?_
          (try simp only [Act.put, List.setIfInBounds_toArray, List.set_cons_zero, List.set_cons_succ])
          refine take_run (i := 32) (d := some 141) (v := .int .u8 (c0 : Int)) rfl rfl (by kernel_rfl) (by kernel_rfl) (by kernel_rfl) (fun _ _ _ h => h) (by rfl) (fun w hSw => by (try dsimp only at hSw); go_simp) (by assumption) ?_
          (try simp only [Act.put, List.setIfInBounds_toArray, List.set_cons_zero, List.set_cons_succ])
          refine take_run (i := 33) (d := some 142) (v := .bool false) rfl rfl (by kernel_rfl) (by kernel_rfl) (by kernel_rfl) (fun _ _ _ h => h) (by rfl) (fun w hSw => by (try dsimp only at hSw); go_simp) (by assumption) ?_
          (try simp only [Act.put, List.setIfInBounds_toArray, List.set_cons_zero, List.set_cons_succ])
          refine wpAnyH_ready (rs := [29]) (by kernel_rfl) (by simp) ?_
          refine AllReadyH.cons (o := _) rfl (fun K hK => ?_) AllReadyH.nil
          go_simp
          refine (qsign (RQ_7.below bl) (by omega)).mono ?_
          rintro e w8 ⟨rfl, hB⟩
          have hB_8 : Below wc.heap.size wc w8 := (bl.next hB)
          have X_8 := X_7.next hB_8
          have cX_8_0 : _ = some (Value.bool s) := X_8.cell 0
          have cX_8_1 : _ = some (Value.slice a n c) := X_8.cell 1
          have cX_8_2 : _ = some (Value.slice b m d) := X_8.cell 2
          have Q_8 := Q_7.next hB_8
          have cQ_8_0 : _ = some (Value.bool (decide (q.num < 0))) := Q_8.cell 0
          have cQ_8_1 : _ = some (Value.slice xa xn xc) := Q_8.cell 1
          have cQ_8_2 : _ = some (Value.slice xb xm xd) := Q_8.cell 2
          have Y_8 := Y_7.next hB_8
          have cY_8_0 : _ = some (Value.bool (qsg q 0)) := Y_8.cell 0
          have cY_8_1 : _ = some (Value.slice ya yn yc) := Y_8.cell 1
          have cY_8_2 : _ = some (Value.slice yb ym yd) := Y_8.cell 2
          have RQ_8 := RQ_7.below hB_8
          have RY_8 := RY_7.below hB_8
          have hbel_8 := hbel_7.next hB_8
          have hsz_8 := hB_8.size
          clear X_7 cX_7_0 cX_7_1 cX_7_2 Q_7 cQ_7_0 cQ_7_1 cQ_7_2 Y_7 cY_7_0 cY_7_1 cY_7_2 RQ_7 RY_7 hbel_7 hB_8
          try clear hB
          (try go_wp2_with fail)
          refine hK.out _ _ ⟨cQ_8_0, cQ_8_1, cQ_8_2⟩ (fun hHeld2 => ?_)
          clear hK K hHeld
          (try simp only [Act.put, List.setIfInBounds_toArray, List.set_cons_zero, List.set_cons_succ])
          refine take_run (i := 30) (d := some 139) (v := .bool false) rfl rfl (by kernel_rfl) (by kernel_rfl) (by kernel_rfl) (fun _ _ _ h => h) (by rfl) (fun w hSw => by (try dsimp only at hSw); go_simp) (by assumption) ?_
          (try simp only [Act.put, List.setIfInBounds_toArray, List.set_cons_zero, List.set_cons_succ])
          refine take_run (i := 34) (d := some 143) (v := .bool true) rfl rfl (by kernel_rfl) (by kernel_rfl) (by kernel_rfl) (fun _ _ _ h => h) (by rfl) (fun w hSw => by (try dsimp only at hSw); go_simp) (by assumption) ?_
          (try simp only [Act.put, List.setIfInBounds_toArray, List.set_cons_zero, List.set_cons_succ])
          refine take_run (i := 35) (d := some 144) (v := .bool true) rfl rfl (by kernel_rfl) (by kernel_rfl) (by kernel_rfl) (fun _ _ _ h => h) (by rfl) (fun w hSw => by (try dsimp only at hSw); go_simp) (by assumption) ?_
          (try simp only [Act.put, List.setIfInBounds_toArray, List.set_cons_zero, List.set_cons_succ])
          refine take_run (i := 36) (d := some 2) (v := .bool true) rfl rfl (by kernel_rfl) (by kernel_rfl) (by kernel_rfl) (fun _ _ _ h => h) (by rfl) (fun w hSw => by (try dsimp only at hSw); go_simp) (by assumption) ?_
          (try simp only [Act.put, List.setIfInBounds_toArray, List.set_cons_zero, List.set_cons_succ])
          refine wpAnyH_done (by kernel_rfl) ?_ _
          refine NoPanic.normal ?_
          all_goals (go_wp2; go_ret; exact ⟨rfl, hbel_8⟩)
        · have hlt : P < S.size := by have h := hb.out; simp at h; exact h
          obtain ⟨hl1, hl2⟩ := hendh hlt
          have hxl := by_get S (S.size - 1) (by omega)
          obtain ⟨cl, hcl⟩ : ∃ x, S[S.size - 1].toNat = x := ⟨_, rfl⟩
          rw [hxl, hcl] at hl1 hl2
          have hd1 : ((cl : Int) != 48) = true := by simp; omega
          have hd2 : ((cl : Int) != 46) = true := by simp; omega
          have hd3 : ((c0 : Int) != 46) = true := by simp; omega
          obtain ⟨mx, hm⟩ : ∃ m, S.size - 1 = m := ⟨_, rfl⟩
          have hmi : IntKind.i64.wrap ((S.size : Int) - 1) = (mx : Int) := by rw [IntKind.wrap_i64]; omega
          have hmi2 : (S.size : Int) - 1 = (mx : Int) := by omega
          have hmlt : mx < S.size := by omega
          have hcl' : S[mx].toNat = cl := by subst hm; exact hcl
          have hmw : IntKind.i64.wrap (mx : Int) = (mx : Int) := by rw [IntKind.wrap_i64]; omega
          clear hcl
          clear hpt hend hlead hb hendh hl1 hl2 hxl
          have hsg9 := hsg.out
          go_upto_region 20 with fail
          have hd4 : ((c0 : Int) == 45) = false := by simp; omega
          have hzz : (false == false) = true := by simp
          go_wp2_with fail
          go_region_held3 (fun w' => w'.cell? ⟨w2.heap.size, 0, none⟩ = some (Value.bool (decide (q.num < 0))) ∧ w'.cell? ⟨w2.heap.size, 1, none⟩ = some (Value.slice xa xn xc) ∧ w'.cell? ⟨w2.heap.size, 2, none⟩ = some (Value.slice xb xm xd))
            (first | exact ⟨cQ_7_0, cQ_7_1, cQ_7_2⟩ | exact ⟨cQ_8_0, cQ_8_1, cQ_8_2⟩ | go_keep)
            (first
              | (go_at_call 63; ((with_reducible refine (qsign (RQ_7.below bl) (by omega)).mono ?_); (rintro e w8 ⟨rfl, hB⟩; have hB_8 : Below wc.heap.size wc w8 := (bl.next hB); have X_8 := X_7.next hB_8; have cX_8_0 : _ = some (Value.bool s) := X_8.cell 0; have cX_8_1 : _ = some (Value.slice a n c) := X_8.cell 1; have cX_8_2 : _ = some (Value.slice b m d) := X_8.cell 2; have Q_8 := Q_7.next hB_8; have cQ_8_0 : _ = some (Value.bool (decide (q.num < 0))) := Q_8.cell 0; have cQ_8_1 : _ = some (Value.slice xa xn xc) := Q_8.cell 1; have cQ_8_2 : _ = some (Value.slice xb xm xd) := Q_8.cell 2; have Y_8 := Y_7.next hB_8; have cY_8_0 : _ = some (Value.bool (qsg q 0)) := Y_8.cell 0; have cY_8_1 : _ = some (Value.slice ya yn yc) := Y_8.cell 1; have cY_8_2 : _ = some (Value.slice yb ym yd) := Y_8.cell 2; have RQ_8 := RQ_7.below hB_8; have RY_8 := RY_7.below hB_8; have hbel_8 := hbel_7.next hB_8; have hsz_8 := hB_8.size; clear X_7 cX_7_0 cX_7_1 cX_7_2 Q_7 cQ_7_0 cQ_7_1 cQ_7_2 Y_7 cY_7_0 cY_7_1 cY_7_2 RQ_7 RY_7 hbel_7 hB_8; try clear hB))))
          all_goals (go_wp2; go_ret; exact ⟨rfl, hbel_8⟩)

set_option maxRecDepth 100000 in
set_option maxHeartbeats 8000000 in
theorem dback_some1 {w : World} {q : Rat} {s : Bool} {a b : Option Addr} {n c m d : Nat} (HF : Hid (∀ W, Below w.heap.size w W → Calls Try.prog 59 #[.agg #[.bool s, .slice a n c, .slice b m d]] W (fun e w' => RetQ W q e w'))) (hqs : QS q 20) (N : Nat) (hR : ExIs q.den (some N)) (hn : decide (q.num < 0) = true) :
    Calls Try.prog 12 #[.agg #[.bool s, .slice a n c, .slice b m d]] w (fun e w' => e = .returned (.bool true) ∧ Below w.heap.size w w') := by
  have hsz := back_size hqs hR
  have hby := exT_by (q := q) (N := N)
  rw [hn] at hby
  have hX := hid (fun (W : World) {a' b' : Option Addr} {n' c' m' d' : Nat} (h : RdQ 20 W (decide (q.num < 0)) a' n' c' b' m' d' q) => dexact h (by omega) hR)
  obtain ⟨S, hS⟩ : ∃ S, exT2 q (some N) = S := ⟨_, rfl⟩
  rw [hS] at hX hsz hby
  clear hS
  have hdq := dc_ptd true (q.num.natAbs * 10 ^ N / q.den) N
  rw [← hby] at hdq
  have hback := ex_back hR
  rw [hn] at hback
  rw [hback] at hdq
  have HP := hid (fun w => dparse (w := w) S hsz)
  rw [hdq.1, hdq.2] at HP
  have hlast := hid (ex_last hR)
  obtain ⟨v, hv⟩ : ∃ v, q.num.natAbs * 10 ^ N / q.den = v := ⟨_, rfl⟩
  rw [hv] at hby hlast
  clear hv hdq hback hR
  have hsg := hid (sgnQ_neg (q := q) hn)
  have hbyh := hid hby
  clear hby hn
  have hent := ent1 w #[Value.bool s, Value.slice a n c, Value.slice b m d] 29
  go_enter Try.func12, Try.ntmps12
  go_wp2_with fail
  generalize (w.alloc (.cells #[Value.bool s, Value.slice a n c, Value.slice b m d] 29)) = W0 at hent ⊢
  obtain ⟨X_0, hbel_0, hsz_0⟩ := hent
  have cX_0_0 : _ = some (Value.bool s) := X_0.cell 0
  have cX_0_1 : _ = some (Value.slice a n c) := X_0.cell 1
  have cX_0_2 : _ = some (Value.slice b m d) := X_0.cell 2
  go_wp2_with fail
  refine (lalive).mono ?_
  rintro e w1 ⟨rfl, hB⟩
  have hB_1 : Below W0.heap.size W0 w1 := (bl.next hB)
  have X_1 := X_0.next hB_1
  have cX_1_0 : _ = some (Value.bool s) := X_1.cell 0
  have cX_1_1 : _ = some (Value.slice a n c) := X_1.cell 1
  have cX_1_2 : _ = some (Value.slice b m d) := X_1.cell 2
  have hbel_1 := hbel_0.next hB_1
  have hsz_1 := hB_1.size
  clear X_0 cX_0_0 cX_0_1 cX_0_2 hbel_0 hB_1
  try clear hB
  go_wp2_with fail
  refine (HF.out _ hbel_1).mono ?_
  rintro e w2 ⟨xa, xn, xc, xb, xm, xd, rfl, hO, hO', hDx, hB⟩
  have hB_2 : Below w1.heap.size w1 w2 := (bl.next hB)
  have X_2 := X_1.next hB_2
  have cX_2_0 : _ = some (Value.bool s) := X_2.cell 0
  have cX_2_1 : _ = some (Value.slice a n c) := X_2.cell 1
  have cX_2_2 : _ = some (Value.slice b m d) := X_2.cell 2
  have hbel_2 := hbel_1.next hB_2
  have hsz_2 := hB_2.size
  clear X_1 cX_1_0 cX_1_1 cX_1_2 hbel_1 hB_2
  have Ox_2 := hO
  have ltOx := hO.ltB
  have Px_2 := hO'
  have ltPx := hO'.ltB
  clear hO hO'
  try clear hB
  have hbx := blk_new w2 #[Value.bool (decide (q.num < 0)), Value.slice xa xn xc, Value.slice xb xm xd] 29
  have hbB := (Below.refl w2.heap.size w2).alloc (Nat.le_refl _) (.cells #[Value.bool (decide (q.num < 0)), Value.slice xa xn xc, Value.slice xb xm xd] 29)
  have hltQ := hbx.lt
  have hB_3 : Below w2.heap.size w2 (w2.alloc (.cells #[Value.bool (decide (q.num < 0)), Value.slice xa xn xc, Value.slice xb xm xd] 29)) := hbB
  have X_3 := X_2.next hB_3
  have cX_3_0 : _ = some (Value.bool s) := X_3.cell 0
  have cX_3_1 : _ = some (Value.slice a n c) := X_3.cell 1
  have cX_3_2 : _ = some (Value.slice b m d) := X_3.cell 2
  have Ox_3 := Ox_2.below hB_3
  have Px_3 := Px_2.below hB_3
  have hbel_3 := hbel_2.next hB_3
  have hsz_3 := hB_3.size
  clear hB_3
  have Q_3 := hbx
  clear hbx hbB
  have cQ_3_0 : _ = some (Value.bool (decide (q.num < 0))) := Q_3.cell 0
  have cQ_3_1 : _ = some (Value.slice xa xn xc) := Q_3.cell 1
  have cQ_3_2 : _ = some (Value.slice xb xm xd) := Q_3.cell 2
  go_wp2_with fail
  clear X_2 cX_2_0 cX_2_1 cX_2_2 Ox_2 Px_2 hbel_2
  generalize (w2.alloc (.cells #[Value.bool (decide (q.num < 0)), Value.slice xa xn xc, Value.slice xb xm xd] 29)) = v3 at *
  have RQ_3 := Ox_3.rdQ Px_3 hqs
  clear Ox_3
  clear Px_3
  go_wp2_with fail
  refine (hX.out _ RQ_3).mono ?_
  rintro e w4 ⟨rfl, hB⟩
  have hB_4 : Below v3.heap.size v3 w4 := (bl.next hB)
  have X_4 := X_3.next hB_4
  have cX_4_0 : _ = some (Value.bool s) := X_4.cell 0
  have cX_4_1 : _ = some (Value.slice a n c) := X_4.cell 1
  have cX_4_2 : _ = some (Value.slice b m d) := X_4.cell 2
  have Q_4 := Q_3.next hB_4
  have cQ_4_0 : _ = some (Value.bool (decide (q.num < 0))) := Q_4.cell 0
  have cQ_4_1 : _ = some (Value.slice xa xn xc) := Q_4.cell 1
  have cQ_4_2 : _ = some (Value.slice xb xm xd) := Q_4.cell 2
  have RQ_4 := RQ_3.below hB_4
  have hbel_4 := hbel_3.next hB_4
  have hsz_4 := hB_4.size
  clear X_3 cX_3_0 cX_3_1 cX_3_2 Q_3 cQ_3_0 cQ_3_1 cQ_3_2 RQ_3 hbel_3 hB_4
  try clear hB
  go_wp2_with fail
  refine (HP.out _).mono ?_
  rintro e w5 ⟨ya, yn, yc, yb, ym, yd, rfl, hO, hO', hDy, hB⟩
  have hB_5 : Below w4.heap.size w4 w5 := (bl.next hB)
  have X_5 := X_4.next hB_5
  have cX_5_0 : _ = some (Value.bool s) := X_5.cell 0
  have cX_5_1 : _ = some (Value.slice a n c) := X_5.cell 1
  have cX_5_2 : _ = some (Value.slice b m d) := X_5.cell 2
  have Q_5 := Q_4.next hB_5
  have cQ_5_0 : _ = some (Value.bool (decide (q.num < 0))) := Q_5.cell 0
  have cQ_5_1 : _ = some (Value.slice xa xn xc) := Q_5.cell 1
  have cQ_5_2 : _ = some (Value.slice xb xm xd) := Q_5.cell 2
  have RQ_5 := RQ_4.below hB_5
  have hbel_5 := hbel_4.next hB_5
  have hsz_5 := hB_5.size
  clear X_4 cX_4_0 cX_4_1 cX_4_2 Q_4 cQ_4_0 cQ_4_1 cQ_4_2 RQ_4 hbel_4 hB_5
  have Oy_5 := hO
  have ltOy := hO.ltB
  have Py_5 := hO'
  have ltPy := hO'.ltB
  clear hO hO'
  try clear hB
  have hbx := blk_new w5 #[Value.bool (qsg q 0), Value.slice ya yn yc, Value.slice yb ym yd] 29
  have hbB := (Below.refl w5.heap.size w5).alloc (Nat.le_refl _) (.cells #[Value.bool (qsg q 0), Value.slice ya yn yc, Value.slice yb ym yd] 29)
  have hltY := hbx.lt
  have hB_6 : Below w5.heap.size w5 (w5.alloc (.cells #[Value.bool (qsg q 0), Value.slice ya yn yc, Value.slice yb ym yd] 29)) := hbB
  have X_6 := X_5.next hB_6
  have cX_6_0 : _ = some (Value.bool s) := X_6.cell 0
  have cX_6_1 : _ = some (Value.slice a n c) := X_6.cell 1
  have cX_6_2 : _ = some (Value.slice b m d) := X_6.cell 2
  have Q_6 := Q_5.next hB_6
  have cQ_6_0 : _ = some (Value.bool (decide (q.num < 0))) := Q_6.cell 0
  have cQ_6_1 : _ = some (Value.slice xa xn xc) := Q_6.cell 1
  have cQ_6_2 : _ = some (Value.slice xb xm xd) := Q_6.cell 2
  have RQ_6 := RQ_5.below hB_6
  have Oy_6 := Oy_5.below hB_6
  have Py_6 := Py_5.below hB_6
  have hbel_6 := hbel_5.next hB_6
  have hsz_6 := hB_6.size
  clear hB_6
  have Y_6 := hbx
  clear hbx hbB
  have cY_6_0 : _ = some (Value.bool (qsg q 0)) := Y_6.cell 0
  have cY_6_1 : _ = some (Value.slice ya yn yc) := Y_6.cell 1
  have cY_6_2 : _ = some (Value.slice yb ym yd) := Y_6.cell 2
  go_wp2_with fail
  clear X_5 cX_5_0 cX_5_1 cX_5_2 Q_5 cQ_5_0 cQ_5_1 cQ_5_2 RQ_5 Oy_5 Py_5 hbel_5
  generalize (w5.alloc (.cells #[Value.bool (qsg q 0), Value.slice ya yn yc, Value.slice yb ym yd] 29)) = v6 at *
  have RY_6 : RdQ 20 v6 (decide (q.num < 0)) ya yn yc yb ym yd q := Oy_6.rdQ Py_6 hqs
  clear Oy_6
  clear Py_6
  go_wp2_with fail
  refine (lsame4 RQ_6 (by omega) RY_6 (by omega) rfl).mono ?_
  rintro e w7 ⟨rfl, hB⟩
  have hB_7 : Below v6.heap.size v6 w7 := (bl.next hB)
  have X_7 := X_6.next hB_7
  have cX_7_0 : _ = some (Value.bool s) := X_7.cell 0
  have cX_7_1 : _ = some (Value.slice a n c) := X_7.cell 1
  have cX_7_2 : _ = some (Value.slice b m d) := X_7.cell 2
  have Q_7 := Q_6.next hB_7
  have cQ_7_0 : _ = some (Value.bool (decide (q.num < 0))) := Q_7.cell 0
  have cQ_7_1 : _ = some (Value.slice xa xn xc) := Q_7.cell 1
  have cQ_7_2 : _ = some (Value.slice xb xm xd) := Q_7.cell 2
  have Y_7 := Y_6.next hB_7
  have cY_7_0 : _ = some (Value.bool (qsg q 0)) := Y_7.cell 0
  have cY_7_1 : _ = some (Value.slice ya yn yc) := Y_7.cell 1
  have cY_7_2 : _ = some (Value.slice yb ym yd) := Y_7.cell 2
  have RQ_7 := RQ_6.below hB_7
  have RY_7 := RY_6.below hB_7
  have hbel_7 := hbel_6.next hB_7
  have hsz_7 := hB_7.size
  clear X_6 cX_6_0 cX_6_1 cX_6_2 Q_6 cQ_6_0 cQ_6_1 cQ_6_2 Y_6 cY_6_0 cY_6_1 cY_6_2 RQ_6 RY_6 hbel_6 hB_7
  try clear hB
  have hby := hbyh.out
  clear hbyh
  have h0S : 0 < S.size := by rw [← by_len, hby]; simp [sgn1]
  have hcs := be_cons h0S
  rw [hby] at hcs
  obtain ⟨U, hU⟩ : ∃ U, S.extract 1 S.size = U := ⟨_, rfl⟩
  rw [hU] at hcs
  have hx0 : (S[0]).toNat = 45 := by injection hcs with h _; exact h.symm
  have hbU : by' U = ptd v N := by injection hcs with _ h; exact h.symm
  have hpt : Hid (∀ j, j < U.size → ((by' U).getD j 0 = 46 ↔ j = ptP v N)) := by rw [hbU, ← by_len, hbU]; exact ptd_point v N
  have hlead : Hid (1 < U.size → (by' U).getD 0 0 = 48 → (by' U).getD 1 0 = 46) := by rw [hbU, ← by_len, hbU]; exact ptd_lead
  have hhead : Hid (0 < U.size ∧ 48 ≤ (by' U).getD 0 0) := by
    obtain ⟨c, t, h1, h2, _⟩ := ptd_head v N
    rw [← by_len, hbU, h1]
    exact ⟨by simp, by simpa using h2⟩
  have hend : Hid (ptP v N < U.size → (by' U).getD (U.size - 1) 0 ≠ 48 ∧ (by' U).getD (U.size - 1) 0 ≠ 46) := fun h => by
    rw [← by_len, hbU] at h
    have hN : N ≠ 0 := fun e => by unfold ptP at h; rw [if_pos e] at h; omega
    have hl := ptd_last (v := v) hN
    have h2 := hlast.out hN
    rw [← by_len, hbU, hl]
    omega
  clear hby hbU hcs hlast
  generalize hPP : ptP v N = P at *
  clear hPP
  have hUm : U.size ≤ 4096 := by rw [← hU, ByteArray.size_extract]; omega
  go_wp2_with fail
  try rw [hU]
  obtain ⟨W0, hW0⟩ : ∃ y : World, y = w7 := ⟨_, rfl⟩
  subst hW0
  go_loopw [13, 14] (fun pv iv wr => ∃ (i : Nat) (b : Bool), i ≤ U.size ∧ iv = .int .i64 i ∧ pv = .bool b ∧ Hid (b = decide (P < i)) ∧ wr = W0) (fun _ iv _ => U.size - (intOf iv).toNat)
  case atStart => exact ⟨0, false, by omega, rfl, rfl, by simp [Hid], rfl⟩
  case round =>
    obtain ⟨i, b, hi, rfl, rfl, hb, hwr⟩ := hrel
    subst hwr
    by_cases hlt : i < U.size
    · have hx := by_get U i hlt
      obtain ⟨x, hxe⟩ : ∃ x, U[i].toNat = x := ⟨_, rfl⟩
      have hp := hpt.out i hlt
      rw [hx, hxe] at hp
      cases b
      · by_cases h46 : x = 46
        · have hd : ((x : Int) == 46) = true := by simp [h46]
          have hn : Hid (true = decide (P < i + 1)) := by have := hp.1 h46; simp [Hid]; omega
          clear hp hx hb h46
          go_wp2
          go_roundw
          case rel => exact ⟨i + 1, true, by omega, by go_num, rfl, hn, by first | trivial | rfl⟩
          case measure => simp [intOf]; omega
        · have hd : ((x : Int) == 46) = false := by simp; omega
          have hn : Hid (false = decide (P < i + 1)) := by
            have h1 := mt hp.2 h46
            have h2 := hb.out
            simp at h2
            simp [Hid]; omega
          clear hp hx hb h46
          go_wp2
          go_roundw
          case rel => exact ⟨i + 1, false, by omega, by go_num, rfl, hn, by first | trivial | rfl⟩
          case measure => simp [intOf]; omega
      · have hn : Hid (true = decide (P < i + 1)) := by
          have h2 := hb.out
          simp at h2
          simp [Hid]; omega
        clear hp hx hb
        go_wp2
        go_roundw
        case rel => exact ⟨i + 1, true, by omega, by go_num, rfl, hn, by first | trivial | rfl⟩
        case measure => simp [intOf]; omega
    · obtain rfl : i = U.size := by omega
      have hs0 := hhead.out.1
      have hx0' := by_get U 0 hs0
      obtain ⟨c0, hc0⟩ : ∃ x, U[0].toNat = x := ⟨_, rfl⟩
      rw [hc0] at hx0'
      have hc48 : 48 ≤ c0 := by have := hhead.out.2; omega
      go_upto_region 19 with fail
      go_cut [15] (fun s15 wx => s15 = .bool false ∧ wx = wr)
      case first =>
        clear hpt hend hb
        by_cases h1 : 1 < U.size
        · have hx1 := by_get U 1 h1
          obtain ⟨c1, hc1⟩ : ∃ x, U[1].toNat = x := ⟨_, rfl⟩
          rw [hc1] at hx1
          by_cases h48 : c0 = 48
          · have h46 : c1 = 46 := by rw [← hx1]; exact hlead.out h1 (by rw [hx0', h48])
            have hd : ((c0 : Int) == 48) = true := by simp [h48]
            have hd1 : ((c1 : Int) != 46) = false := by simp [h46]
            clear h48 h46 hx1 hx0' hlead
            go_wp2_with fail
            go_meet
            exact ⟨rfl, rfl⟩
          · have hd : ((c0 : Int) == 48) = false := by simp; omega
            clear h48 hx1 hx0' hlead
            go_wp2_with fail
            go_meet
            exact ⟨rfl, rfl⟩
        · clear hx0' hlead
          go_wp2_with fail
          go_meet
          exact ⟨rfl, rfl⟩
      case rest =>
        obtain ⟨rfl, rfl⟩ := hcut
        have hne := hhead.out.1
        have hendh := hend.out
        cases b
        · clear hpt hend hlead hb hendh
          have hsg9 := hsg.out
          go_upto_region 20 with fail
          have hzz : (true == true) = true := by simp
          refine wp_region_noPanic ?_
          refine wp_region_held_drew (S := (fun w' => w'.cell? ⟨w2.heap.size, 0, none⟩ = some (Value.bool (decide (q.num < 0))) ∧ w'.cell? ⟨w2.heap.size, 1, none⟩ = some (Value.slice xa xn xc) ∧ w'.cell? ⟨w2.heap.size, 2, none⟩ = some (Value.slice xb xm xd))) (by kernel_rfl) ⟨cQ_7_0, cQ_7_1, cQ_7_2⟩ (fun hHeld => ?_)
          refine take_run (i := 0) (d := some 109) (v := .bool false) rfl rfl (by kernel_rfl) (by kernel_rfl) (by kernel_rfl) (fun _ _ _ h => h) (by rfl) (fun w hSw => by (try dsimp only at hSw); go_simp) (by assumption) ?_
          (try simp only [Act.put, List.setIfInBounds_toArray, List.set_cons_zero, List.set_cons_succ])
          refine take_run (i := 1) (d := some 110) (v := .bool true) rfl rfl (by kernel_rfl) (by kernel_rfl) (by kernel_rfl) (fun _ _ _ h => h) (by rfl) (fun w hSw => by (try dsimp only at hSw); go_simp) (by assumption) ?_
          (try simp only [Act.put, List.setIfInBounds_toArray, List.set_cons_zero, List.set_cons_succ])
          refine take_run (i := 2) (d := some 111) (v := .bool true) rfl rfl (by kernel_rfl) (by kernel_rfl) (by kernel_rfl) (fun _ _ _ h => h) (by rfl) (fun w hSw => by (try dsimp only at hSw); go_simp) (by assumption) ?_
          (try simp only [Act.put, List.setIfInBounds_toArray, List.set_cons_zero, List.set_cons_succ])
          refine take_run (i := 3) (d := some 112) (v := .bool false) rfl rfl (by kernel_rfl) (by kernel_rfl) (by kernel_rfl) (fun _ _ _ h => h) (by rfl) (fun w hSw => by (try dsimp only at hSw); go_simp) (by assumption) ?_
          (try simp only [Act.put, List.setIfInBounds_toArray, List.set_cons_zero, List.set_cons_succ])
          refine take_run (i := 4) (d := some 113) (v := .bool true) rfl rfl (by kernel_rfl) (by kernel_rfl) (by kernel_rfl) (fun _ _ _ h => h) (by rfl) (fun w hSw => by (try dsimp only at hSw); go_simp) (by assumption) ?_
          (try simp only [Act.put, List.setIfInBounds_toArray, List.set_cons_zero, List.set_cons_succ])
          refine take_run (i := 5) (d := some 114) (v := .bool true) rfl rfl (by kernel_rfl) (by kernel_rfl) (by kernel_rfl) (fun _ _ _ h => h) (by rfl) (fun w hSw => by (try dsimp only at hSw); go_simp) (by assumption) ?_
          (try simp only [Act.put, List.setIfInBounds_toArray, List.set_cons_zero, List.set_cons_succ])
          refine take_skip (i := 6) (d := some 115) rfl rfl (by kernel_rfl) (by kernel_rfl) (by kernel_rfl) (fun _ _ _ h => h) (by rfl) (by assumption) ?_
          (try simp only [Act.put, List.setIfInBounds_toArray, List.set_cons_zero, List.set_cons_succ])
          refine take_skip (i := 7) (d := some 116) rfl rfl (by kernel_rfl) (by kernel_rfl) (by kernel_rfl) (fun _ _ _ h => h) (by rfl) (by assumption) ?_
          (try simp only [Act.put, List.setIfInBounds_toArray, List.set_cons_zero, List.set_cons_succ])
          refine take_skip (i := 8) (d := some 117) rfl rfl (by kernel_rfl) (by kernel_rfl) (by kernel_rfl) (fun _ _ _ h => h) (by rfl) (by assumption) ?_
          (try simp only [Act.put, List.setIfInBounds_toArray, List.set_cons_zero, List.set_cons_succ])
          refine take_skip (i := 9) (d := some 118) rfl rfl (by kernel_rfl) (by kernel_rfl) (by kernel_rfl) (fun _ _ _ h => h) (by rfl) (by assumption) ?_
          (try simp only [Act.put, List.setIfInBounds_toArray, List.set_cons_zero, List.set_cons_succ])
          refine take_skip (i := 10) (d := some 119) rfl rfl (by kernel_rfl) (by kernel_rfl) (by kernel_rfl) (fun _ _ _ h => h) (by rfl) (by assumption) ?_
          (try simp only [Act.put, List.setIfInBounds_toArray, List.set_cons_zero, List.set_cons_succ])
          refine take_skip (i := 11) (d := some 120) rfl rfl (by kernel_rfl) (by kernel_rfl) (by kernel_rfl) (fun _ _ _ h => h) (by rfl) (by assumption) ?_
          (try simp only [Act.put, List.setIfInBounds_toArray, List.set_cons_zero, List.set_cons_succ])
          refine take_skip (i := 12) (d := some 121) rfl rfl (by kernel_rfl) (by kernel_rfl) (by kernel_rfl) (fun _ _ _ h => h) (by rfl) (by assumption) ?_
          (try simp only [Act.put, List.setIfInBounds_toArray, List.set_cons_zero, List.set_cons_succ])
          refine take_skip (i := 13) (d := some 122) rfl rfl (by kernel_rfl) (by kernel_rfl) (by kernel_rfl) (fun _ _ _ h => h) (by rfl) (by assumption) ?_
          (try simp only [Act.put, List.setIfInBounds_toArray, List.set_cons_zero, List.set_cons_succ])
          refine take_skip (i := 14) (d := some 123) rfl rfl (by kernel_rfl) (by kernel_rfl) (by kernel_rfl) (fun _ _ _ h => h) (by rfl) (by assumption) ?_
          (try simp only [Act.put, List.setIfInBounds_toArray, List.set_cons_zero, List.set_cons_succ])
          refine take_skip (i := 15) (d := some 124) rfl rfl (by kernel_rfl) (by kernel_rfl) (by kernel_rfl) (fun _ _ _ h => h) (by rfl) (by assumption) ?_
          (try simp only [Act.put, List.setIfInBounds_toArray, List.set_cons_zero, List.set_cons_succ])
          refine take_skip (i := 16) (d := some 125) rfl rfl (by kernel_rfl) (by kernel_rfl) (by kernel_rfl) (fun _ _ _ h => h) (by rfl) (by assumption) ?_
          (try simp only [Act.put, List.setIfInBounds_toArray, List.set_cons_zero, List.set_cons_succ])
          refine take_skip (i := 17) (d := some 126) rfl rfl (by kernel_rfl) (by kernel_rfl) (by kernel_rfl) (fun _ _ _ h => h) (by rfl) (by assumption) ?_
          (try simp only [Act.put, List.setIfInBounds_toArray, List.set_cons_zero, List.set_cons_succ])
          refine take_skip (i := 18) (d := some 127) rfl rfl (by kernel_rfl) (by kernel_rfl) (by kernel_rfl) (fun _ _ _ h => h) (by rfl) (by assumption) ?_
          (try simp only [Act.put, List.setIfInBounds_toArray, List.set_cons_zero, List.set_cons_succ])
          refine take_skip (i := 19) (d := some 128) rfl rfl (by kernel_rfl) (by kernel_rfl) (by kernel_rfl) (fun _ _ _ h => h) (by rfl) (by assumption) ?_
          (try simp only [Act.put, List.setIfInBounds_toArray, List.set_cons_zero, List.set_cons_succ])
          refine take_skip (i := 20) (d := some 129) rfl rfl (by kernel_rfl) (by kernel_rfl) (by kernel_rfl) (fun _ _ _ h => h) (by rfl) (by assumption) ?_
          (try simp only [Act.put, List.setIfInBounds_toArray, List.set_cons_zero, List.set_cons_succ])
          refine take_skip (i := 21) (d := some 130) rfl rfl (by kernel_rfl) (by kernel_rfl) (by kernel_rfl) (fun _ _ _ h => h) (by rfl) (by assumption) ?_
          (try simp only [Act.put, List.setIfInBounds_toArray, List.set_cons_zero, List.set_cons_succ])
          refine take_skip (i := 22) (d := some 131) rfl rfl (by kernel_rfl) (by kernel_rfl) (by kernel_rfl) (fun _ _ _ h => h) (by rfl) (by assumption) ?_
          (try simp only [Act.put, List.setIfInBounds_toArray, List.set_cons_zero, List.set_cons_succ])
          refine take_skip (i := 23) (d := some 132) rfl rfl (by kernel_rfl) (by kernel_rfl) (by kernel_rfl) (fun _ _ _ h => h) (by rfl) (by assumption) ?_
          (try simp only [Act.put, List.setIfInBounds_toArray, List.set_cons_zero, List.set_cons_succ])
          refine take_skip (i := 24) (d := some 133) rfl rfl (by kernel_rfl) (by kernel_rfl) (by kernel_rfl) (fun _ _ _ h => h) (by rfl) (by assumption) ?_
          (try simp only [Act.put, List.setIfInBounds_toArray, List.set_cons_zero, List.set_cons_succ])
          refine take_run (i := 25) (d := some 134) (v := .bool true) rfl rfl (by kernel_rfl) (by kernel_rfl) (by kernel_rfl) (fun _ _ _ h => h) (by rfl) (fun w hSw => by (try dsimp only at hSw); go_simp) (by assumption) ?_
          (try simp only [Act.put, List.setIfInBounds_toArray, List.set_cons_zero, List.set_cons_succ])
          refine take_run (i := 26) (d := some 135) (v := .bool true) rfl rfl (by kernel_rfl) (by kernel_rfl) (by kernel_rfl) (fun _ _ _ h => h) (by rfl) (fun w hSw => by (try dsimp only at hSw); go_simp) (by assumption) ?_
          (try simp only [Act.put, List.setIfInBounds_toArray, List.set_cons_zero, List.set_cons_succ])
          refine take_run (i := 27) (d := some 136) (v := .bool true) rfl rfl (by kernel_rfl) (by kernel_rfl) (by kernel_rfl) (fun _ _ _ h => h) (by rfl) (fun w hSw => by (try dsimp only at hSw); go_simp) (by assumption) ?_
          (try simp only [Act.put, List.setIfInBounds_toArray, List.set_cons_zero, List.set_cons_succ])
          refine take_run (i := 28) (d := some 137) (v := .agg #[Value.bool (decide (q.num < 0)), Value.slice xa xn xc, Value.slice xb xm xd]) rfl rfl (by kernel_rfl) (by kernel_rfl) (by kernel_rfl) (fun _ _ _ h => h) (by rfl) (fun w hSw => by (try dsimp only at hSw); go_simp) (by assumption) ?_
          (try simp only [Act.put, List.setIfInBounds_toArray, List.set_cons_zero, List.set_cons_succ])
          refine take_run (i := 31) (d := some 140) (v := .string S) rfl rfl (by kernel_rfl) (by kernel_rfl) (by kernel_rfl) (fun _ _ _ h => h) (by rfl) (fun w hSw => by (try dsimp only at hSw); go_simp) (by assumption) ?_
          (try simp only [Act.put, List.setIfInBounds_toArray, List.set_cons_zero, List.set_cons_succ])
          refine take_run (i := 32) (d := some 141) (v := .int .u8 45) rfl rfl (by kernel_rfl) (by kernel_rfl) (by kernel_rfl) (fun _ _ _ h => h) (by rfl) (fun w hSw => by (try dsimp only at hSw); go_simp) (by assumption) ?_
          (try simp only [Act.put, List.setIfInBounds_toArray, List.set_cons_zero, List.set_cons_succ])
          refine take_run (i := 33) (d := some 142) (v := .bool true) rfl rfl (by kernel_rfl) (by kernel_rfl) (by kernel_rfl) (fun _ _ _ h => h) (by rfl) (fun w hSw => by (try dsimp only at hSw); go_simp) (by assumption) ?_
          (try simp only [Act.put, List.setIfInBounds_toArray, List.set_cons_zero, List.set_cons_succ])
          refine wpAnyH_ready (rs := [29]) (by kernel_rfl) (by simp) ?_
          refine AllReadyH.cons (o := _) rfl (fun K hK => ?_) AllReadyH.nil
          go_simp
          refine (qsign (RQ_7.below bl) (by omega)).mono ?_
          rintro e w8 ⟨rfl, hB⟩
          have hB_8 : Below wc.heap.size wc w8 := (bl.next hB)
          have X_8 := X_7.next hB_8
          have cX_8_0 : _ = some (Value.bool s) := X_8.cell 0
          have cX_8_1 : _ = some (Value.slice a n c) := X_8.cell 1
          have cX_8_2 : _ = some (Value.slice b m d) := X_8.cell 2
          have Q_8 := Q_7.next hB_8
          have cQ_8_0 : _ = some (Value.bool (decide (q.num < 0))) := Q_8.cell 0
          have cQ_8_1 : _ = some (Value.slice xa xn xc) := Q_8.cell 1
          have cQ_8_2 : _ = some (Value.slice xb xm xd) := Q_8.cell 2
          have Y_8 := Y_7.next hB_8
          have cY_8_0 : _ = some (Value.bool (qsg q 0)) := Y_8.cell 0
          have cY_8_1 : _ = some (Value.slice ya yn yc) := Y_8.cell 1
          have cY_8_2 : _ = some (Value.slice yb ym yd) := Y_8.cell 2
          have RQ_8 := RQ_7.below hB_8
          have RY_8 := RY_7.below hB_8
          have hbel_8 := hbel_7.next hB_8
          have hsz_8 := hB_8.size
          clear X_7 cX_7_0 cX_7_1 cX_7_2 Q_7 cQ_7_0 cQ_7_1 cQ_7_2 Y_7 cY_7_0 cY_7_1 cY_7_2 RQ_7 RY_7 hbel_7 hB_8
          try clear hB
          (try go_wp2_with fail)
          refine hK.out _ _ ⟨cQ_8_0, cQ_8_1, cQ_8_2⟩ (fun hHeld2 => ?_)
          clear hK K hHeld
          (try simp only [Act.put, List.setIfInBounds_toArray, List.set_cons_zero, List.set_cons_succ])
          refine take_run (i := 30) (d := some 139) (v := .bool true) rfl rfl (by kernel_rfl) (by kernel_rfl) (by kernel_rfl) (fun _ _ _ h => h) (by rfl) (fun w hSw => by (try dsimp only at hSw); go_simp) (by assumption) ?_
          (try simp only [Act.put, List.setIfInBounds_toArray, List.set_cons_zero, List.set_cons_succ])
          refine take_run (i := 34) (d := some 143) (v := .bool true) rfl rfl (by kernel_rfl) (by kernel_rfl) (by kernel_rfl) (fun _ _ _ h => h) (by rfl) (fun w hSw => by (try dsimp only at hSw); go_simp) (by assumption) ?_
          (try simp only [Act.put, List.setIfInBounds_toArray, List.set_cons_zero, List.set_cons_succ])
          refine take_run (i := 35) (d := some 144) (v := .bool true) rfl rfl (by kernel_rfl) (by kernel_rfl) (by kernel_rfl) (fun _ _ _ h => h) (by rfl) (fun w hSw => by (try dsimp only at hSw); go_simp) (by assumption) ?_
          (try simp only [Act.put, List.setIfInBounds_toArray, List.set_cons_zero, List.set_cons_succ])
          refine take_run (i := 36) (d := some 2) (v := .bool true) rfl rfl (by kernel_rfl) (by kernel_rfl) (by kernel_rfl) (fun _ _ _ h => h) (by rfl) (fun w hSw => by (try dsimp only at hSw); go_simp) (by assumption) ?_
          (try simp only [Act.put, List.setIfInBounds_toArray, List.set_cons_zero, List.set_cons_succ])
          refine wpAnyH_done (by kernel_rfl) ?_ _
          refine NoPanic.normal ?_
          all_goals (go_wp2; go_ret; exact ⟨rfl, hbel_8⟩)
        · have hlt : P < U.size := by have h := hb.out; simp at h; exact h
          obtain ⟨hl1, hl2⟩ := hendh hlt
          have hxl := by_get U (U.size - 1) (by omega)
          obtain ⟨cl, hcl⟩ : ∃ x, U[U.size - 1].toNat = x := ⟨_, rfl⟩
          rw [hxl, hcl] at hl1 hl2
          have hd1 : ((cl : Int) != 48) = true := by simp; omega
          have hd2 : ((cl : Int) != 46) = true := by simp; omega
          have hd3 : ((c0 : Int) != 46) = true := by simp; omega
          obtain ⟨mx, hm⟩ : ∃ m, U.size - 1 = m := ⟨_, rfl⟩
          have hmi : IntKind.i64.wrap ((U.size : Int) - 1) = (mx : Int) := by rw [IntKind.wrap_i64]; omega
          have hmi2 : (U.size : Int) - 1 = (mx : Int) := by omega
          have hmlt : mx < U.size := by omega
          have hcl' : U[mx].toNat = cl := by subst hm; exact hcl
          have hmw : IntKind.i64.wrap (mx : Int) = (mx : Int) := by rw [IntKind.wrap_i64]; omega
          clear hcl
          clear hpt hend hlead hb hendh hl1 hl2 hxl
          have hsg9 := hsg.out
          go_upto_region 20 with fail
          have hzz : (true == true) = true := by simp
          go_wp2_with fail
          go_region_held3 (fun w' => w'.cell? ⟨w2.heap.size, 0, none⟩ = some (Value.bool (decide (q.num < 0))) ∧ w'.cell? ⟨w2.heap.size, 1, none⟩ = some (Value.slice xa xn xc) ∧ w'.cell? ⟨w2.heap.size, 2, none⟩ = some (Value.slice xb xm xd))
            (first | exact ⟨cQ_7_0, cQ_7_1, cQ_7_2⟩ | exact ⟨cQ_8_0, cQ_8_1, cQ_8_2⟩ | go_keep)
            (first
              | (go_at_call 63; ((with_reducible refine (qsign (RQ_7.below bl) (by omega)).mono ?_); (rintro e w8 ⟨rfl, hB⟩; have hB_8 : Below wc.heap.size wc w8 := (bl.next hB); have X_8 := X_7.next hB_8; have cX_8_0 : _ = some (Value.bool s) := X_8.cell 0; have cX_8_1 : _ = some (Value.slice a n c) := X_8.cell 1; have cX_8_2 : _ = some (Value.slice b m d) := X_8.cell 2; have Q_8 := Q_7.next hB_8; have cQ_8_0 : _ = some (Value.bool (decide (q.num < 0))) := Q_8.cell 0; have cQ_8_1 : _ = some (Value.slice xa xn xc) := Q_8.cell 1; have cQ_8_2 : _ = some (Value.slice xb xm xd) := Q_8.cell 2; have Y_8 := Y_7.next hB_8; have cY_8_0 : _ = some (Value.bool (qsg q 0)) := Y_8.cell 0; have cY_8_1 : _ = some (Value.slice ya yn yc) := Y_8.cell 1; have cY_8_2 : _ = some (Value.slice yb ym yd) := Y_8.cell 2; have RQ_8 := RQ_7.below hB_8; have RY_8 := RY_7.below hB_8; have hbel_8 := hbel_7.next hB_8; have hsz_8 := hB_8.size; clear X_7 cX_7_0 cX_7_1 cX_7_2 Q_7 cQ_7_0 cQ_7_1 cQ_7_2 Y_7 cY_7_0 cY_7_1 cY_7_2 RQ_7 RY_7 hbel_7 hB_8; try clear hB))))
          all_goals (go_wp2; go_ret; exact ⟨rfl, hbel_8⟩)

theorem decimalBack_walk {w : World} {a b : Option Addr} {n c m d : Nat} {l k : List Nat} (s : Bool) (ha : Rd w a n c l) (hb : Rd w b m d k) : Calls Try.prog 12 #[.agg #[.bool s, .slice a n c, .slice b m d]] w (fun e w' => e = .returned (.bool true) ∧ Below w.heap.size w w') := by
  obtain ⟨q, hqs, HF⟩ := lfrac s ha hb
  obtain ⟨R, hR⟩ := ex_exists q.den
  cases R with
  | none => exact dback_none HF hqs hR
  | some N =>
    cases hn : decide (q.num < 0)
    · exact dback_some0 HF hqs N hR hn
    · exact dback_some1 HF hqs N hR hn
end Go.Proofs.Ytnpkmlpmeeidbaa
