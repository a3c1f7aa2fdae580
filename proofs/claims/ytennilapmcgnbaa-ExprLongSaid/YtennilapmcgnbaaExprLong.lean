/- THE WALK OF credencelaw09.ExprLong: long sums, rows of opposites. -/
import Derived.Test.YtennilapmcgnbaaV5
namespace Go.Proofs.Ytennilapmcgnbaa
set_option linter.unusedVariables false
set_option linter.unusedSimpArgs false
open Go.ChangeShapes Go.WideShapes Go.ChangeAt Go.RowKit Go.NatP

/-- many, counted round -/
def mnV (m : Int) : Int := (m.tmod 3000 + 3000).tmod 3000
theorem mnV_bd (m : Int) : 0 ≤ mnV m ∧ mnV m < 3000 := by
  have h1 := Int.lt_tmod_of_pos m (show (0 : Int) < 3000 by omega)
  have h2 := Int.tmod_lt_of_pos m (show (0 : Int) < 3000 by omega)
  have h3 := Int.tmod_nonneg 3000 (show 0 ≤ m.tmod 3000 + 3000 by omega)
  have h4 := Int.tmod_lt_of_pos (m.tmod 3000 + 3000) (show (0 : Int) < 3000 by omega)
  exact ⟨h3, h4⟩
theorem tm_bd (v : Int) : -1000 < v.tmod 1000 ∧ v.tmod 1000 < 1000 := ⟨Int.lt_tmod_of_pos v (by omega), Int.tmod_lt_of_pos v (by omega)⟩
theorem nat_tmod (i k : Nat) : ((i : Int)).tmod (k : Int) = ((i % k : Nat) : Int) := by rw [Int.ofNat_tmod]

set_option maxRecDepth 100000 in
set_option maxHeartbeats 8000000 in
theorem exprLong_walk {w : World} (many : Int) (m1 : -9223372036854775808 ≤ many) (m2 : many ≤ 9223372036854775807) (v : Int) (v1 : -9223372036854775808 ≤ v) (v2 : v ≤ 9223372036854775807) :
    Calls Try.prog 5 #[.int .i64 many, .int .i64 v] w (fun e w' => e = .returned (.bool true) ∧ Below w.heap.size w w') := by
  go_enter Try.func5, Try.ntmps5
  have hbel_0 : Below w.heap.size w w := Below.refl _ _
  have hsz_0 : w.heap.size ≤ w.heap.size := Nat.le_refl _
  go_wp2_with fail
  refine (eawake).mono ?_
  rintro e w1 ⟨rfl, hB⟩
  have hB_1 : Below w.heap.size w w1 := (bl.next hB)
  have hbel_1 := hbel_0.next hB_1
  have hsz_1 := hB_1.size
  clear hbel_0 hB_1
  try clear hB
  have hb1 := tm_bd v
  have hm1 := Int.lt_tmod_of_pos many (show (0 : Int) < 3000 by omega)
  have hm2 := Int.tmod_lt_of_pos many (show (0 : Int) < 3000 by omega)
  have hmb := mnV_bd many
  obtain ⟨vv, hvv⟩ : ∃ z, v.tmod 1000 = z := ⟨_, rfl⟩
  rw [hvv] at hb1
  have hvb1 := hb1.1
  have hvb2 := hb1.2
  clear hb1
  obtain ⟨k, hkk⟩ : ∃ k : Nat, 1 + many.tmod 3000 % 3000 = (k : Int) := ⟨(1 + many.tmod 3000 % 3000).toNat, by omega⟩
  have hk1 : 1 ≤ k := by omega
  have hk2 : k ≤ 3000 := by omega
  obtain ⟨qv, hqv⟩ : ∃ q : Rat, ((vv : Int) : Rat) = q := ⟨_, rfl⟩
  have sqv : Hid (QS qv 2) := hid (hqv ▸ small_qs vv (by omega))
  have Hv := hid (fun w => (show Calls Try.prog 18 #[.int .i64 vv] w (RetTn w qv) from hqv ▸ tn_any vv (by omega) (by omega)))
  have hqvh := hid hqv
  clear hqv
  go_wp2_with fail
  refine (Hv.out _).mono ?_
  rintro e w2 ⟨aa, an, ac, ab, am, ad, rfl, hO, hO', hD, hB⟩
  have hB_2 : Below w1.heap.size w1 w2 := (bl.next hB)
  have hbel_2 := hbel_1.next hB_2
  have hsz_2 := hB_2.size
  clear hbel_1 hB_2
  have Oa_2 := (show Own w1.heap.size _ _ _ _ _ from hO)
  have Pa_2 := (show Own w1.heap.size _ _ _ _ _ from hO')
  have ltOa := hO.ltB
  have ltPa := hO'.ltB
  clear hO hO' hD
  try clear hB
  go_upto_region 5 with fail
  have hT := trw_lit (W := w2) (cs := #[Value.int .i8 1, Value.bool (decide (qv.num < 0)), Value.slice aa an ac, Value.slice ab am ad]) (K := 2) (B := w.heap.size) (n := 1) (ts := [nTA qv aa an ac ab am ad]) rfl rfl (by omega) (by unfold maxLen; omega) (fun t ht => by rw [List.mem_singleton.1 ht]; exact tok_own Oa_2 Pa_2 sqv.out)
  have hbx := blk_new w2 #[Value.int .i8 1, Value.bool (decide (qv.num < 0)), Value.slice aa an ac, Value.slice ab am ad] 38
  have hbB := (Below.refl w2.heap.size w2).alloc (Nat.le_refl _) (.cells #[Value.int .i8 1, Value.bool (decide (qv.num < 0)), Value.slice aa an ac, Value.slice ab am ad] 38)
  have hltL := hbx.lt
  have hB_3 : Below w2.heap.size w2 (w2.alloc (.cells #[Value.int .i8 1, Value.bool (decide (qv.num < 0)), Value.slice aa an ac, Value.slice ab am ad] 38)) := hbB
  have Oa_3 := Oa_2.below hB_3
  have Pa_3 := Pa_2.below hB_3
  have hbel_3 := hbel_2.next hB_3
  have hsz_3 := hB_3.size
  clear Oa_2 Pa_2 hbel_2 hB_3
  have L_3 := hbx
  clear hbx hbB
  generalize (w2.alloc (.cells #[Value.int .i8 1, Value.bool (decide (qv.num < 0)), Value.slice aa an ac, Value.slice ab am ad] 38)) = va3 at *
  have TL_3 := hT
  clear hT
  go_wp2_with fail
  refine (Hv.out _).mono ?_
  rintro e w4 ⟨ba, bn, bc, bb, bm, bd, rfl, hO, hO', hD, hB⟩
  have hB_4 : Below va3.heap.size va3 w4 := (bl.next hB)
  have L_4 := L_3.next hB_4
  have Oa_4 := Oa_3.below hB_4
  have Pa_4 := Pa_3.below hB_4
  have TL_4 := TL_3.below hB_4
  have hbel_4 := hbel_3.next hB_4
  have hsz_4 := hB_4.size
  clear L_3 Oa_3 Pa_3 TL_3 hbel_3 hB_4
  have Ob_4 := (show Own va3.heap.size _ _ _ _ _ from hO)
  have Pb_4 := (show Own va3.heap.size _ _ _ _ _ from hO')
  have ltOb := hO.ltB
  have ltPb := hO'.ltB
  clear hO hO' hD
  try clear hB
  go_upto_region 6 with fail
  have hT := trw_lit (W := w4) (cs := #[Value.int .i8 1, Value.bool (decide (qv.num < 0)), Value.slice ba bn bc, Value.slice bb bm bd]) (K := 2) (B := w.heap.size) (n := 1) (ts := [nTA qv ba bn bc bb bm bd]) rfl rfl (by omega) (by unfold maxLen; omega) (fun t ht => by rw [List.mem_singleton.1 ht]; exact tok_own Ob_4 Pb_4 sqv.out)
  have hbx := blk_new w4 #[Value.int .i8 1, Value.bool (decide (qv.num < 0)), Value.slice ba bn bc, Value.slice bb bm bd] 38
  have hbB := (Below.refl w4.heap.size w4).alloc (Nat.le_refl _) (.cells #[Value.int .i8 1, Value.bool (decide (qv.num < 0)), Value.slice ba bn bc, Value.slice bb bm bd] 38)
  have hltM := hbx.lt
  have hB_5 : Below w4.heap.size w4 (w4.alloc (.cells #[Value.int .i8 1, Value.bool (decide (qv.num < 0)), Value.slice ba bn bc, Value.slice bb bm bd] 38)) := hbB
  have L_5 := L_4.next hB_5
  have Oa_5 := Oa_4.below hB_5
  have Pa_5 := Pa_4.below hB_5
  have TL_5 := TL_4.below hB_5
  have Ob_5 := Ob_4.below hB_5
  have Pb_5 := Pb_4.below hB_5
  have hbel_5 := hbel_4.next hB_5
  have hsz_5 := hB_5.size
  clear L_4 Oa_4 Pa_4 TL_4 Ob_4 Pb_4 hbel_4 hB_5
  have M_5 := hbx
  clear hbx hbB
  generalize (w4.alloc (.cells #[Value.int .i8 1, Value.bool (decide (qv.num < 0)), Value.slice ba bn bc, Value.slice bb bm bd] 38)) = va5 at *
  have TM_5 := hT
  clear hT
  have TW_5 := (show Two 2 w.heap.size va5 (some ⟨w2.heap.size, 0, none⟩) 1 [nTA qv aa an ac ab am ad] (some ⟨w4.heap.size, 0, none⟩) 1 [nTA qv ba bn bc bb bm bd] from ⟨TL_5, TM_5, (fun t ht => by rw [List.mem_singleton.1 ht]; exact tok_own2 (W0 := va5) Ob_5 Pb_5 sqv.out (fun g e => by cases e; omega)), (fun t ht => by rw [List.mem_singleton.1 ht]; exact tok_own3 Oa_5 Pa_5 ltOa ltPa sqv.out (fun g e => by cases e; omega)), fun g e e2 => by cases e; injection e2 with e2; injection e2 with e2; omega⟩)
  clear Oa_5
  clear Pa_5
  clear Ob_5
  clear Pb_5
  clear TL_5
  clear TM_5
  have hi0 : Hid (ansV (-1) ([nTA qv aa an ac ab am ad].map TA.ti) = some (nPV qv) ∧ SumP vv 0 (nPV qv)) := ⟨(ans_one _ rfl).trans (by rw [nTA_q]), hqvh.out ▸ sum_one_ vv⟩
  have hj0 : Hid (ansV (-1) ([nTA qv ba bn bc bb bm bd].map TA.ti) = some (nPV qv) ∧ NegP vv 0 (nPV qv)) := ⟨(ans_one _ rfl).trans (by rw [nTA_q]), hqvh.out ▸ neg_one_ vv⟩
  go_wp2_with fail
  go_loopw [7, 8, 9] (fun s7 s8 s9 wr => ∃ (j : Nat) (a b : Option Addr) (c d : Nat) (ts us : List TA) (P Q : PV), j + 1 ≤ k ∧ s7 = .slice a (2 * j + 1) c ∧ s8 = .slice b (j + 1) d ∧ s9 = .int .i64 ((j : Int) + 1) ∧ Two 2 w.heap.size wr a c ts b d us ∧ ts.length = 2 * j + 1 ∧ us.length = j + 1 ∧ Hid (ansV (-1) (ts.map TA.ti) = some P ∧ SumP vv j P) ∧ Hid (ansV (-1) (us.map TA.ti) = some Q ∧ NegP vv j Q) ∧ Below w.heap.size w wr) (fun _ _ i _ => k - (intOf i).toNat)
  case atStart => exact ⟨0, _, _, _, _, _, _, _, _, by omega, rfl, rfl, rfl, TW_5, rfl, rfl, hi0, hj0, hbel_5⟩
  case round =>
    clear hi0 hj0 L_5 M_5 TW_5 hbel_5
    obtain ⟨j, la, lb, lc, ld, ts, us, P, Q, hj, rfl, rfl, rfl, TW, hts, hus, hP, hQ, hB⟩ := hrel
    have hsz := hB.size
    by_cases hlt : j + 1 < k
    ·
      obtain ⟨r7, h7⟩ : ∃ z : Int, ((j : Int) + 1) % 7 = z := ⟨_, rfl⟩
      obtain ⟨r2, h2⟩ : ∃ z : Int, ((j : Int) + 1) % 2 = z := ⟨_, rfl⟩
      have h7n := hid (show r7 = (((j + 1) % 7 : Nat) : Int) by omega)
      have h2n := hid (show 2 + r2 = kdV (j + 1) by unfold kdV; split <;> omega)
      have h7a : 0 ≤ r7 := by omega
      have h7b : r7 < 7 := by omega
      have h2a : 0 ≤ r2 := by omega
      have h2b : r2 < 2 := by omega
      obtain ⟨q7, hq7⟩ : ∃ q : Rat, ((r7 : Int) : Rat) = q := ⟨_, rfl⟩
      have sq7 : Hid (QS q7 2) := hid (hq7 ▸ small_qs r7 (by omega))
      have H7 := hid (fun w => (show Calls Try.prog 18 #[.int .i64 r7] w (RetTn w q7) from hq7 ▸ tn_any r7 (by omega) (by omega)))
      have hq7h := hid hq7
      clear hq7
      have hla := hid (fun g e => (TW.r1.blk g e).2)
      have hlb := hid (fun g e => (TW.r2.blk g e).2)
      have TW_0 := TW
      have hbel_0 := hB
      have hsz_0 : wr.heap.size ≤ wr.heap.size := Nat.le_refl _
      clear TW hB
      go_wp2_with fail
      refine (H7.out _).mono ?_
      rintro e w1 ⟨xa, xn, xc, xb, xm, xd, rfl, hO, hO', hD, hB⟩
      have hB_1 : Below wr.heap.size wr w1 := (bl.next hB)
      have TW_1 := TW_0.below hB_1
      have hbel_1 := hbel_0.next hB_1
      have hsz_1 := hB_1.size
      clear TW_0 hbel_0 hB_1
      have Ox_1 := (show Own wr.heap.size _ _ _ _ _ from hO)
      have Px_1 := (show Own wr.heap.size _ _ _ _ _ from hO')
      have ltOx := hO.ltB
      have ltPx := hO'.ltB
      clear hO hO' hD
      try clear hB
      go_wp2_with fail
      refine (top_any (2 + r2)).mono ?_
      rintro e w2 ⟨rfl, hB⟩
      have hB_2 : Below w1.heap.size w1 w2 := (bl.next hB)
      have TW_2 := TW_1.below hB_2
      have Ox_2 := Ox_1.below hB_2
      have Px_2 := Px_1.below hB_2
      have hbel_2 := hbel_1.next hB_2
      have hsz_2 := hB_2.size
      clear TW_1 Ox_1 Px_1 hbel_1 hB_2
      try clear hB
      have hbA := (Below.refl w2.heap.size w2).alloc (Nat.le_refl _) (.cells #[Value.int .i8 1, Value.bool (decide (q7.num < 0)), Value.slice xa xn xc, Value.slice xb xm xd, Value.int .i8 (2 + r2), Value.bool false, Value.slice none 0 0, Value.slice none 0 0] 38)
      have TWA := TW_2.below hbA
      have hLA := blk_new w2 #[Value.int .i8 1, Value.bool (decide (q7.num < 0)), Value.slice xa xn xc, Value.slice xb xm xd, Value.int .i8 (2 + r2), Value.bool false, Value.slice none 0 0, Value.slice none 0 0] 38
      have OxA := Ox_2.below hbA
      have PxA := Px_2.below hbA
      have hnA : ∀ t ∈ ([nTA q7 xa xn xc xb xm xd, oTA (2 + r2)] : List TA), TOK 2 (w2.alloc (.cells #[Value.int .i8 1, Value.bool (decide (q7.num < 0)), Value.slice xa xn xc, Value.slice xb xm xd, Value.int .i8 (2 + r2), Value.bool false, Value.slice none 0 0, Value.slice none 0 0] 38)) la t.x := fun t ht => by
        rcases (by simpa using ht : t = nTA q7 xa xn xc xb xm xd ∨ t = oTA (2 + r2)) with rfl | rfl
        · exact tok_own2 (W0 := w2) OxA PxA sq7.out hla.out
        · exact tok_op _ _ _
      have hnB : ∀ t ∈ ([nTA q7 xa xn xc xb xm xd, oTA (2 + r2)] : List TA), TOK 2 (w2.alloc (.cells #[Value.int .i8 1, Value.bool (decide (q7.num < 0)), Value.slice xa xn xc, Value.slice xb xm xd, Value.int .i8 (2 + r2), Value.bool false, Value.slice none 0 0, Value.slice none 0 0] 38)) lb t.x := fun t ht => by
        rcases (by simpa using ht : t = nTA q7 xa xn xc xb xm xd ∨ t = oTA (2 + r2)) with rfl | rfl
        · exact tok_own2 (W0 := w2) OxA PxA sq7.out hlb.out
        · exact tok_op _ _ _
      have hbAs := hbA.size
      go_wp2_with (at_builtin; refine wpList_plain rfl fun Kq hKq => wp_appLit (us := [nTA q7 xa xn xc xb xm xd, oTA (2 + r2)]) (m := 2) _ _ rfl TWA.r1 hts.symm rfl w2.heap.size 2 rfl rfl hLA rfl hnA (by omega) (by rw [hts]; show _ + 2 ≤ _; omega) (fun a2A c2A wzA HT2 hk2 hf2 => hKq _ _ ?_))
      have TW_3 := TWA.app hk2 hf2 HT2 hnB hnA
      have hbel_3 := (hbel_2.next hbA).kp hk2 (hbel_2.next hbA).size (fun j hj e => by have := (TWA.r1.blk j e).1; omega)
      have hsz_3 := hk2.size
      clear hbA TWA hLA hnA hnB HT2 hf2 hk2 hbel_2 TW_2 Ox_2 Px_2 OxA PxA
      go_wp2_with fail
      refine (top_any 6).mono ?_
      rintro e w4 ⟨rfl, hB⟩
      have hB_4 : Below wzA.heap.size wzA w4 := (bl.next hB)
      have TW_4 := TW_3.below hB_4
      have hbel_4 := hbel_3.next hB_4
      have hsz_4 := hB_4.size
      clear TW_3 hbel_3 hB_4
      try clear hB
      have TS_4 := TW_4.swap
      have hbA := (Below.refl w4.heap.size w4).alloc (Nat.le_refl _) (.cells #[Value.int .i8 6, Value.bool false, Value.slice none 0 0, Value.slice none 0 0] 38)
      have TWA := TS_4.below hbA
      have hLA := blk_new w4 #[Value.int .i8 6, Value.bool false, Value.slice none 0 0, Value.slice none 0 0] 38
      have hnA : ∀ t ∈ ([oTA 6] : List TA), TOK 2 (w4.alloc (.cells #[Value.int .i8 6, Value.bool false, Value.slice none 0 0, Value.slice none 0 0] 38)) lb t.x := fun t ht => by rw [List.mem_singleton.1 ht]; exact tok_op _ _ _
      have hnB : ∀ t ∈ ([oTA 6] : List TA), TOK 2 (w4.alloc (.cells #[Value.int .i8 6, Value.bool false, Value.slice none 0 0, Value.slice none 0 0] 38)) a2A t.x := fun t ht => by rw [List.mem_singleton.1 ht]; exact tok_op _ _ _
      have hbAs := hbA.size
      go_wp2_with (at_builtin; refine wpList_plain rfl fun Kq hKq => wp_appLit (us := [oTA 6]) (m := 1) _ _ rfl TWA.r1 hus.symm rfl w4.heap.size 1 rfl rfl hLA rfl hnA (by omega) (by rw [hus]; show _ + 1 ≤ _; omega) (fun a2B c2B wzB HT2 hk2 hf2 => hKq _ _ ?_))
      have TW_5 := TWA.app hk2 hf2 HT2 hnB hnA
      have hbel_5 := (hbel_4.next hbA).kp hk2 (hbel_4.next hbA).size (fun j hj e => by have := (TWA.r1.blk j e).1; omega)
      have hsz_5 := hk2.size
      clear hbA TWA hLA hnA hnB HT2 hf2 hk2 hbel_4 TW_4
      go_wp2
      go_roundw
      case rel =>
        have hj1 := ans_join hP.out.1 (ans_one (nTA q7 xa xn xc xb xm xd).ti rfl) (k := 2 + r2) (by omega) (by omega) (oTA (2 + r2)).ti.x
        rw [nTA_q, List.append_assoc] at hj1
        have hj2 := sum_step hP.out.2
        rw [← h2n.out, ← h7n.out, hq7h.out] at hj2
        have hj3 := ans_neg hQ.out.1 (oTA 6).ti.x
        have hj4 := neg_step hQ.out.2
        exact ⟨j + 1, a2A, a2B, c2A, c2B, ts ++ [nTA q7 xa xn xc xb xm xd, oTA (2 + r2)], us ++ [oTA 6], _, _, by omega, by rw [show 2 * (j + 1) + 1 = 2 * j + 1 + 2 by omega], rfl, by go_num, TW_5.swap, by simp [hts]; omega, by simp [hus], ⟨by rw [List.map_append]; exact hj1, hj2⟩, ⟨by rw [List.map_append]; exact hj3, hj4⟩, hbel_5⟩
      case measure => simp [intOf]; omega
    ·
      obtain rfl : k = j + 1 := by omega
      have TS_0 := TW.r1.rdTs
      have TU_0 := TW.r2.rdTs
      rw [hts] at TS_0
      rw [hus] at TU_0
      have hbel_0 := hB
      have hsz_0 : wr.heap.size ≤ wr.heap.size := Nat.le_refl _
      clear TW hB
      obtain ⟨S, hS⟩ : ∃ z, sumV vv j = z := ⟨_, rfl⟩
      have hSb := sumV_bd vv j
      rw [hS] at hSb
      obtain ⟨qs, hqs⟩ : ∃ q : Rat, ((S : Int) : Rat) = q := ⟨_, rfl⟩
      have sqs : Hid (QS qs 2) := hid (hqs ▸ small_qs S (by omega))
      obtain ⟨nn, hnn⟩ : ∃ z : Int, (if j % 2 = 0 then vv else -vv) = z := ⟨_, rfl⟩
      obtain ⟨qn, hqn⟩ : ∃ q : Rat, ((nn : Int) : Rat) = q := ⟨_, rfl⟩
      have sqn : Hid (QS qn 2) := hid (hqn ▸ small_qs nn (by rw [← hnn]; split <;> omega))
      obtain ⟨er, her⟩ : ∃ z : Int, (if (j : Int) > 64 then (31 : Int) else 0) = z := ⟨_, rfl⟩
      have HE1 := hid (fun (W : World) hT => (evl_any (w := W) (sa := la) (n := 2 * j + 1) (c := lc) (K := 2) (xs := ts.map TA.ti) hT (by omega) (by omega)).mono (R' := RetQK W qs) (fun e w' h => by
        rw [hP.out.1] at h
        have h2 := retqe_ok h (by show (if P.deep > 64 then (31 : Int) else if P.bad = true then 11 else 0) = 0; rw [hP.out.2.deep, hP.out.2.bad]; rfl)
        rw [show evQ (some P) = qs by show P.v = _; rw [hP.out.2.v, hS, hqs]] at h2; exact h2))
      have HD1 := hid (fun (W : World) hT => (dep_any (w := W) (sa := la) (n := 2 * j + 1) (c := lc) (K := 2) (xs := ts.map TA.ti) hT (by omega) (by omega)).mono (R' := RetIE W 0 0) (fun e w' h => by
        rw [hP.out.1] at h
        rw [show dpI (some P) = 0 from hP.out.2.deep] at h; exact h))
      have HE2 := hid (fun (W : World) hT => (evl_any (w := W) (sa := lb) (n := j + 1) (c := ld) (K := 2) (xs := us.map TA.ti) hT (by omega) (by omega)).mono (R' := RetQE W qn er) (fun e w' h => by
        rw [hQ.out.1] at h
        rw [show evQ (some Q) = qn by show Q.v = _; rw [hQ.out.2.v, hnn, hqn], show evE (some Q) = er by show (if Q.deep > 64 then (31 : Int) else if Q.bad = true then 11 else 0) = _; rw [hQ.out.2.deep, hQ.out.2.bad, ← her]; rfl] at h; exact h))
      have HD2 := hid (fun (W : World) hT => (dep_any (w := W) (sa := lb) (n := j + 1) (c := ld) (K := 2) (xs := us.map TA.ti) hT (by omega) (by omega)).mono (R' := RetIE W j 0) (fun e w' h => by
        rw [hQ.out.1] at h
        rw [show dpI (some Q) = (j : Int) from hQ.out.2.deep] at h; exact h))
      have HO1 := hid (fun w => (show Calls Try.prog 19 #[.int .i64 S, .int .i64 1] w (RetQK w qs) from hqs ▸ qof1 S (by omega) (by omega)))
      have HO2 := hid (fun w => (show Calls Try.prog 19 #[.int .i64 vv, .int .i64 1] w (RetQK w qv) from hqvh.out ▸ qof1 vv (by omega) (by omega)))
      have hnnh := hid hnn
      have hqnh := hid hqn
      have herh := hid her
      have hSh := hid hS
      clear hP hQ hnn hqn her hS hqs
      go_wp2_with fail
      obtain ⟨wq, hwq⟩ : ∃ y : World, y = wr := ⟨_, rfl⟩
      subst hwq
      go_loopw [10, 11] (fun s10 s11 wx => ∃ (i : Nat), i ≤ j ∧ s10 = .int .i64 (sumV vv i) ∧ s11 = .int .i64 ((i : Int) + 1) ∧ wx = wq) (fun _ i _ => j + 1 - (intOf i).toNat)
      case atStart => exact ⟨0, by omega, rfl, rfl, rfl⟩
      case round =>
        obtain ⟨i, hi, rfl, rfl, hwx0⟩ := hrel
        have hwx := hid hwx0
        clear hwx0
        have hTb := sumV_bd vv i
        obtain ⟨T, hT⟩ : ∃ z, sumV vv i = z := ⟨_, rfl⟩
        rw [hT] at hTb ⊢
        have hT1 := hTb.1
        have hT2 := hTb.2
        clear hTb
        by_cases hlt : i < j
        ·
          clear TS_0 TU_0 hbel_0 HE1 HE2 HD1 HD2 HO1 HO2
          obtain ⟨r7, h7⟩ : ∃ z : Int, ((i : Int) + 1) % 7 = z := ⟨_, rfl⟩
          have h7n := hid (show r7 = (((i + 1) % 7 : Nat) : Int) by omega)
          have h7a : 0 ≤ r7 := by omega
          have h7b : r7 < 7 := by omega
          have hTh := hid hT
          clear hT
          by_cases hp : (i + 1) % 2 = 0
          ·
            have h2 : ((i : Int) + 1) % 2 = 0 := by omega
            have hs := hid (show sumV vv (i + 1) = T + r7 by unfold sumV; rw [hTh.out]; unfold sgV; rw [if_pos hp]; have := h7n.out; omega)
            clear hp
            go_wp2
            go_roundw
            case rel => exact ⟨i + 1, by omega, by rw [hs.out], by go_num, hwx.out⟩
            case measure => simp [intOf]; omega
          ·
            have h2 : ((i : Int) + 1) % 2 = 1 := by omega
            have hs := hid (show sumV vv (i + 1) = T - r7 by unfold sumV; rw [hTh.out]; unfold sgV; rw [if_neg hp]; have := h7n.out; omega)
            clear hp
            go_wp2
            go_roundw
            case rel => exact ⟨i + 1, by omega, by rw [hs.out], by go_num, hwx.out⟩
            case measure => simp [intOf]; omega
        ·
          obtain rfl : i = j := by omega
          have hTS : T = S := hT.symm.trans hSh.out
          subst hTS
          have hwx := hwx.out
          subst hwx
          go_wp2_with fail
          refine (HE1.out _ TS_0).mono ?_
          rintro e w1 ⟨pa, pn, pc, pb, pm, pd, rfl, hO, hO', hD, hB⟩
          have hB_1 : Below wr.heap.size wr w1 := (bl.next hB)
          have TS_1 := TS_0.below hB_1
          have TU_1 := TU_0.below hB_1
          have hbel_1 := hbel_0.next hB_1
          have hsz_1 := hB_1.size
          clear TS_0 TU_0 hbel_0 hB_1
          have Fp_1 := (show FO wr.heap.size _ (⟨decide (qs.num < 0), pa, pn, pc, pb, pm, pd⟩ : FX) qs from ⟨rfl, hO, hO', hD⟩)
          clear hO hO' hD
          try clear hB
          have ltV := Fp_1.ltx
          go_upto_region 19 with fail
          have hbx := blk_new w1 #[Value.bool (decide (qs.num < 0)), Value.slice pa pn pc, Value.slice pb pm pd] 28
          have hbB := (Below.refl w1.heap.size w1).alloc (Nat.le_refl _) (.cells #[Value.bool (decide (qs.num < 0)), Value.slice pa pn pc, Value.slice pb pm pd] 28)
          have hltV := hbx.lt
          have hB_2 : Below w1.heap.size w1 (w1.alloc (.cells #[Value.bool (decide (qs.num < 0)), Value.slice pa pn pc, Value.slice pb pm pd] 28)) := hbB
          have TS_2 := TS_1.below hB_2
          have TU_2 := TU_1.below hB_2
          have Fp_2 := Fp_1.below hB_2
          have hbel_2 := hbel_1.next hB_2
          have hsz_2 := hB_2.size
          clear TS_1 TU_1 Fp_1 hbel_1 hB_2
          have V_2 := hbx
          clear hbx hbB
          generalize (w1.alloc (.cells #[Value.bool (decide (qs.num < 0)), Value.slice pa pn pc, Value.slice pb pm pd] 28)) = va2 at *
          go_wp2_with fail
          refine (HD1.out _ TS_2).mono ?_
          rintro e w3 ⟨rfl, hB⟩
          have hB_3 : Below va2.heap.size va2 w3 := (bl.next hB)
          have V_3 := V_2.next hB_3
          have TS_3 := TS_2.below hB_3
          have TU_3 := TU_2.below hB_3
          have Fp_3 := Fp_2.below hB_3
          have hbel_3 := hbel_2.next hB_3
          have hsz_3 := hB_3.size
          clear V_2 TS_2 TU_2 Fp_2 hbel_2 hB_3
          try clear hB
          go_wp2_with fail
          refine (HE2.out _ TU_3).mono ?_
          rintro e w4 ⟨ga, gn, gc, gb, gm, gd, rfl, hO, hO', hD, hB⟩
          have hB_4 : Below w3.heap.size w3 w4 := (bl.next hB)
          have V_4 := V_3.next hB_4
          have TS_4 := TS_3.below hB_4
          have TU_4 := TU_3.below hB_4
          have Fp_4 := Fp_3.below hB_4
          have hbel_4 := hbel_3.next hB_4
          have hsz_4 := hB_4.size
          clear V_3 TS_3 TU_3 Fp_3 hbel_3 hB_4
          have Og_4 := (show Own w3.heap.size _ _ _ _ _ from hO)
          have Pg_4 := (show Own w3.heap.size _ _ _ _ _ from hO')
          have ltOg := hO.ltB
          have ltPg := hO'.ltB
          have hDg := hid hD
          clear hO hO' hD
          try clear hB
          go_upto_region 21 with fail
          have hbx := blk_new w4 #[Value.bool (qsg qn er), Value.slice ga gn gc, Value.slice gb gm gd] 28
          have hbB := (Below.refl w4.heap.size w4).alloc (Nat.le_refl _) (.cells #[Value.bool (qsg qn er), Value.slice ga gn gc, Value.slice gb gm gd] 28)
          have hltB := hbx.lt
          have hB_5 : Below w4.heap.size w4 (w4.alloc (.cells #[Value.bool (qsg qn er), Value.slice ga gn gc, Value.slice gb gm gd] 28)) := hbB
          have V_5 := V_4.next hB_5
          have TS_5 := TS_4.below hB_5
          have TU_5 := TU_4.below hB_5
          have Fp_5 := Fp_4.below hB_5
          have Og_5 := Og_4.below hB_5
          have Pg_5 := Pg_4.below hB_5
          have hbel_5 := hbel_4.next hB_5
          have hsz_5 := hB_5.size
          clear V_4 TS_4 TU_4 Fp_4 Og_4 Pg_4 hbel_4 hB_5
          have B_5 := hbx
          clear hbx hbB
          generalize (w4.alloc (.cells #[Value.bool (qsg qn er), Value.slice ga gn gc, Value.slice gb gm gd] 28)) = va5 at *
          go_wp2_with fail
          refine (HD2.out _ TU_5).mono ?_
          rintro e w6 ⟨rfl, hB⟩
          have hB_6 : Below va5.heap.size va5 w6 := (bl.next hB)
          have V_6 := V_5.next hB_6
          have B_6 := B_5.next hB_6
          have TS_6 := TS_5.below hB_6
          have TU_6 := TU_5.below hB_6
          have Fp_6 := Fp_5.below hB_6
          have Og_6 := Og_5.below hB_6
          have Pg_6 := Pg_5.below hB_6
          have hbel_6 := hbel_5.next hB_6
          have hsz_6 := hB_6.size
          clear V_5 B_5 TS_5 TU_5 Fp_5 Og_5 Pg_5 hbel_5 hB_6
          try clear hB
          go_wp2_with fail
          refine (HO1.out _).mono ?_
          rintro e w7 ⟨ea, en, ec, eb, em, ed, rfl, hO, hO', hD, hB⟩
          have hB_7 : Below w6.heap.size w6 w7 := (bl.next hB)
          have V_7 := V_6.next hB_7
          have B_7 := B_6.next hB_7
          have TS_7 := TS_6.below hB_7
          have TU_7 := TU_6.below hB_7
          have Fp_7 := Fp_6.below hB_7
          have Og_7 := Og_6.below hB_7
          have Pg_7 := Pg_6.below hB_7
          have hbel_7 := hbel_6.next hB_7
          have hsz_7 := hB_7.size
          clear V_6 B_6 TS_6 TU_6 Fp_6 Og_6 Pg_6 hbel_6 hB_7
          have Fe_7 := (show FO w6.heap.size _ (⟨decide (qs.num < 0), ea, en, ec, eb, em, ed⟩ : FX) qs from ⟨rfl, hO, hO', hD⟩)
          clear hO hO' hD
          try clear hB
          have ltX := Fe_7.ltx
          go_upto_region 23 with fail
          have hbx := blk_new w7 #[Value.bool (decide (qs.num < 0)), Value.slice ea en ec, Value.slice eb em ed] 28
          have hbB := (Below.refl w7.heap.size w7).alloc (Nat.le_refl _) (.cells #[Value.bool (decide (qs.num < 0)), Value.slice ea en ec, Value.slice eb em ed] 28)
          have hltX := hbx.lt
          have hB_8 : Below w7.heap.size w7 (w7.alloc (.cells #[Value.bool (decide (qs.num < 0)), Value.slice ea en ec, Value.slice eb em ed] 28)) := hbB
          have V_8 := V_7.next hB_8
          have B_8 := B_7.next hB_8
          have TS_8 := TS_7.below hB_8
          have TU_8 := TU_7.below hB_8
          have Fp_8 := Fp_7.below hB_8
          have Og_8 := Og_7.below hB_8
          have Pg_8 := Pg_7.below hB_8
          have Fe_8 := Fe_7.below hB_8
          have hbel_8 := hbel_7.next hB_8
          have hsz_8 := hB_8.size
          clear V_7 B_7 TS_7 TU_7 Fp_7 Og_7 Pg_7 Fe_7 hbel_7 hB_8
          have X_8 := hbx
          clear hbx hbB
          generalize (w7.alloc (.cells #[Value.bool (decide (qs.num < 0)), Value.slice ea en ec, Value.slice eb em ed] 28)) = va8 at *
          go_wp2_with fail
          refine (HO2.out _).mono ?_
          rintro e w9 ⟨fa, fn, fc, fb, fm, fd, rfl, hO, hO', hD, hB⟩
          have hB_9 : Below va8.heap.size va8 w9 := (bl.next hB)
          have V_9 := V_8.next hB_9
          have B_9 := B_8.next hB_9
          have X_9 := X_8.next hB_9
          have TS_9 := TS_8.below hB_9
          have TU_9 := TU_8.below hB_9
          have Fp_9 := Fp_8.below hB_9
          have Og_9 := Og_8.below hB_9
          have Pg_9 := Pg_8.below hB_9
          have Fe_9 := Fe_8.below hB_9
          have hbel_9 := hbel_8.next hB_9
          have hsz_9 := hB_9.size
          clear V_8 B_8 X_8 TS_8 TU_8 Fp_8 Og_8 Pg_8 Fe_8 hbel_8 hB_9
          have Ff_9 := (show FO va8.heap.size _ (⟨decide (qv.num < 0), fa, fn, fc, fb, fm, fd⟩ : FX) qv from ⟨rfl, hO, hO', hD⟩)
          clear hO hO' hD
          try clear hB
          have ltY := Ff_9.ltx
          go_upto_region 24 with fail
          have hbx := blk_new w9 #[Value.bool (decide (qv.num < 0)), Value.slice fa fn fc, Value.slice fb fm fd] 28
          have hbB := (Below.refl w9.heap.size w9).alloc (Nat.le_refl _) (.cells #[Value.bool (decide (qv.num < 0)), Value.slice fa fn fc, Value.slice fb fm fd] 28)
          have hltY := hbx.lt
          have hB_10 : Below w9.heap.size w9 (w9.alloc (.cells #[Value.bool (decide (qv.num < 0)), Value.slice fa fn fc, Value.slice fb fm fd] 28)) := hbB
          have V_10 := V_9.next hB_10
          have B_10 := B_9.next hB_10
          have X_10 := X_9.next hB_10
          have TS_10 := TS_9.below hB_10
          have TU_10 := TU_9.below hB_10
          have Fp_10 := Fp_9.below hB_10
          have Og_10 := Og_9.below hB_10
          have Pg_10 := Pg_9.below hB_10
          have Fe_10 := Fe_9.below hB_10
          have Ff_10 := Ff_9.below hB_10
          have hbel_10 := hbel_9.next hB_10
          have hsz_10 := hB_10.size
          clear V_9 B_9 X_9 TS_9 TU_9 Fp_9 Og_9 Pg_9 Fe_9 Ff_9 hbel_9 hB_10
          have Y_10 := hbx
          clear hbx hbB
          generalize (w9.alloc (.cells #[Value.bool (decide (qv.num < 0)), Value.slice fa fn fc, Value.slice fb fm fd] 28)) = va10 at *
          clear HE1 HE2 HD1 HD2 HO1 HO2
          clear TS_10
          clear TU_10
          by_cases hp : i % 2 = 0
          ·
            have h2 : ((i + 1 : Nat) : Int) % 2 = 1 := by omega
            have h3 : ((i : Int) + 1) % 2 = 1 := by omega
            obtain ⟨qy, hqy⟩ : ∃ q : Rat, qv = q := ⟨_, rfl⟩
            have hny := hid (show qn = qy by rw [← hqy, ← hqnh.out, ← hnnh.out, ← hqvh.out, if_pos hp])
            have hqyh := hid hqy
            clear hp hqy
            have hyv := hid (show qv = qy from hqyh.out)
            have cV_10_0 : _ = some (Value.bool (decide (qs.num < 0))) := V_10.cell 0
            have fV_10_0 := V_10.free 0
            have cV_10_1 : _ = some (Value.slice pa pn pc) := V_10.cell 1
            have fV_10_1 := V_10.free 1
            have cV_10_2 : _ = some (Value.slice pb pm pd) := V_10.cell 2
            have fV_10_2 := V_10.free 2
            have cX_10_0 : _ = some (Value.bool (decide (qs.num < 0))) := X_10.cell 0
            have fX_10_0 := X_10.free 0
            have cX_10_1 : _ = some (Value.slice ea en ec) := X_10.cell 1
            have fX_10_1 := X_10.free 1
            have cX_10_2 : _ = some (Value.slice eb em ed) := X_10.cell 2
            have fX_10_2 := X_10.free 2
            go_wp2_with fail
            refine (cmpQ_self qs ▸ qcmp (Fp_10.rdQ sqs.out) (by omega) (Fe_10.rdQ sqs.out) (by omega)).mono ?_
            rintro e w11 ⟨rfl, hB⟩
            have hB_11 : Below va10.heap.size va10 w11 := (bl.next hB)
            have V_11 := V_10.next hB_11
            have B_11 := B_10.next hB_11
            have X_11 := X_10.next hB_11
            have Y_11 := Y_10.next hB_11
            have Fp_11 := Fp_10.below hB_11
            have Og_11 := Og_10.below hB_11
            have Pg_11 := Pg_10.below hB_11
            have Fe_11 := Fe_10.below hB_11
            have Ff_11 := Ff_10.below hB_11
            have hbel_11 := hbel_10.next hB_11
            have hsz_11 := hB_11.size
            clear V_10 B_10 X_10 Y_10 Fp_10 Og_10 Pg_10 Fe_10 Ff_10 hbel_10 hB_11
            clear cV_10_0 fV_10_0 cV_10_1 fV_10_1 cV_10_2 fV_10_2 cX_10_0 fX_10_0 cX_10_1 fX_10_1 cX_10_2 fX_10_2
            try clear hB
            have sqy : Hid (QS qy 2) := hid (hny.out ▸ sqn.out)
            by_cases hj : (i : Int) > 64
            ·
              have her : er = 31 := by rw [← herh.out, if_pos hj]
              subst her
              have hk65 : decide (((i + 1 : Nat) : Int) > 65) = true := by simp; omega
              go_wp2
              go_ret
              exact ⟨rfl, hbel_11⟩
            ·
              have her : er = 0 := by rw [← herh.out, if_neg hj]
              subst her
              have hk65 : decide (((i + 1 : Nat) : Int) > 65) = false := by simp; omega
              have hk66 : decide (((i + 1 : Nat) : Int) ≤ 65) = true := by simp; omega
              have cB_11_0 : _ = some (Value.bool (qsg qn 0)) := B_11.cell 0
              have fB_11_0 := B_11.free 0
              have cB_11_1 : _ = some (Value.slice ga gn gc) := B_11.cell 1
              have fB_11_1 := B_11.free 1
              have cB_11_2 : _ = some (Value.slice gb gm gd) := B_11.cell 2
              have fB_11_2 := B_11.free 2
              have cY_11_0 : _ = some (Value.bool (decide (qv.num < 0))) := Y_11.cell 0
              have fY_11_0 := Y_11.free 0
              have cY_11_1 : _ = some (Value.slice fa fn fc) := Y_11.cell 1
              have fY_11_1 := Y_11.free 1
              have cY_11_2 : _ = some (Value.slice fb fm fd) := Y_11.cell 2
              have fY_11_2 := Y_11.free 2
              go_wp2_with fail
              have hcm := cmpQ_eq (show qn = qv from hny.out.trans hqyh.out.symm)
              refine (hcm ▸ qcmp ((show Own 0 _ _ _ _ (lm qn.num.natAbs) from Og_11.mono (Nat.zero_le _)).rdQ (show Own 0 _ _ _ _ (lm qn.den) from Pg_11.mono (Nat.zero_le _)) sqn.out) (by omega) (Ff_11.rdQ sqv.out) (by omega)).mono ?_
              rintro e w12 ⟨rfl, hB⟩
              have hB_12 : Below w11.heap.size w11 w12 := (bl.next hB)
              have V_12 := V_11.next hB_12
              have B_12 := B_11.next hB_12
              have X_12 := X_11.next hB_12
              have Y_12 := Y_11.next hB_12
              have Fp_12 := Fp_11.below hB_12
              have Og_12 := Og_11.below hB_12
              have Pg_12 := Pg_11.below hB_12
              have Fe_12 := Fe_11.below hB_12
              have Ff_12 := Ff_11.below hB_12
              have hbel_12 := hbel_11.next hB_12
              have hsz_12 := hB_12.size
              clear V_11 B_11 X_11 Y_11 Fp_11 Og_11 Pg_11 Fe_11 Ff_11 hbel_11 hB_12
              clear cB_11_0 fB_11_0 cB_11_1 fB_11_1 cB_11_2 fB_11_2 cY_11_0 fY_11_0 cY_11_1 fY_11_1 cY_11_2 fY_11_2
              try clear hB
              go_wp2
              go_ret
              exact ⟨rfl, hbel_12⟩
          ·
            have h2 : ((i + 1 : Nat) : Int) % 2 = 0 := by omega
            have h3 : ((i : Int) + 1) % 2 = 0 := by omega
            obtain ⟨qy, hqy⟩ : ∃ q : Rat, -qv = q := ⟨_, rfl⟩
            have hny := hid (show qn = qy by rw [← hqy, ← hqnh.out, ← hnnh.out, ← hqvh.out, if_neg hp, Rat.intCast_neg])
            have hqyh := hid hqy
            clear hp hqy
            have cY_10_0 : _ = some (Value.bool (decide (qv.num < 0))) := Y_10.cell 0
            have fY_10_0 := Y_10.free 0
            have cY_10_1 : _ = some (Value.slice fa fn fc) := Y_10.cell 1
            have fY_10_1 := Y_10.free 1
            have cY_10_2 : _ = some (Value.slice fb fm fd) := Y_10.cell 2
            have fY_10_2 := Y_10.free 2
            go_wp2_with fail
            refine (hqyh.out ▸ qneg (Ff_10.rdQ sqv.out) (by omega)).mono ?_
            rintro e w11 ⟨ha, hn, hc, hb, hm, hd, rfl, hO, hO', hD, hB⟩
            have hB_11 : Below va10.heap.size va10 w11 := (bl.next hB)
            have V_11 := V_10.next hB_11
            have B_11 := B_10.next hB_11
            have X_11 := X_10.next hB_11
            have Y_11 := Y_10.next hB_11
            have Fp_11 := Fp_10.below hB_11
            have Og_11 := Og_10.below hB_11
            have Pg_11 := Pg_10.below hB_11
            have Fe_11 := Fe_10.below hB_11
            have Ff_11 := Ff_10.below hB_11
            have hbel_11 := hbel_10.next hB_11
            have hsz_11 := hB_11.size
            clear V_10 B_10 X_10 Y_10 Fp_10 Og_10 Pg_10 Fe_10 Ff_10 hbel_10 hB_11
            clear cY_10_0 fY_10_0 cY_10_1 fY_10_1 cY_10_2 fY_10_2
            have Fh_11 := (show FO va10.heap.size _ (⟨decide (qy.num < 0), ha, hn, hc, hb, hm, hd⟩ : FX) qy from ⟨rfl, hO, hO', hD⟩)
            clear hO hO' hD
            try clear hB
            have cY_11_0 : _ = some (Value.bool (decide (qv.num < 0))) := Y_11.cell 0
            have fY_11_0 := Y_11.free 0
            have cY_11_1 : _ = some (Value.slice fa fn fc) := Y_11.cell 1
            have fY_11_1 := Y_11.free 1
            have cY_11_2 : _ = some (Value.slice fb fm fd) := Y_11.cell 2
            have fY_11_2 := Y_11.free 2
            go_upto_region 26 with fail
            have hkp := kp_set3 w11 (w9.heap.size) (Value.bool (decide (qy.num < 0))) (Value.slice ha hn hc) (Value.slice hb hm hd)
            have Y_12 := (show Blk _ _ #[Value.bool (decide (qy.num < 0)), Value.slice ha hn hc, Value.slice hb hm hd] from (((Y_11).setCell (i := 0) (v := Value.bool (decide (qy.num < 0))) (by simp)).setCell (i := 1) (v := Value.slice ha hn hc) (by simp)).setCell (i := 2) (v := Value.slice hb hm hd) (by simp))
            have V_12 := V_11.set3 (show w1.heap.size ≠ w9.heap.size by omega) (Value.bool (decide (qy.num < 0))) (Value.slice ha hn hc) (Value.slice hb hm hd)
            have B_12 := B_11.set3 (show w4.heap.size ≠ w9.heap.size by omega) (Value.bool (decide (qy.num < 0))) (Value.slice ha hn hc) (Value.slice hb hm hd)
            have X_12 := X_11.set3 (show w7.heap.size ≠ w9.heap.size by omega) (Value.bool (decide (qy.num < 0))) (Value.slice ha hn hc) (Value.slice hb hm hd)
            have Fp_12 := Fp_11.kpl ltV hkp (fun j (e : j = _) => by omega)
            have Og_12 := Og_11.kp hkp (fun g e (e2 : g = _) => by have := ltOg g e; omega)
            have Pg_12 := Pg_11.kp hkp (fun g e (e2 : g = _) => by have := ltPg g e; omega)
            have Fe_12 := Fe_11.kpl ltX hkp (fun j (e : j = _) => by omega)
            have Fh_12 := Fh_11.kp hkp (fun j (e : j = _) => by omega)
            have hbel_12 := Below.set3 hbel_11 (show w.heap.size ≤ w9.heap.size by omega) (Value.bool (decide (qy.num < 0))) (Value.slice ha hn hc) (Value.slice hb hm hd)
            have hsz_12 := hkp.size
            clear V_11 B_11 X_11 Y_11 Fp_11 Og_11 Pg_11 Fe_11 Ff_11 Fh_11 hbel_11 hkp
            generalize (((w11.setCell ⟨w9.heap.size, 0, none⟩ (Value.bool (decide (qy.num < 0)))).setCell ⟨w9.heap.size, 1, none⟩ (Value.slice ha hn hc)).setCell ⟨w9.heap.size, 2, none⟩ (Value.slice hb hm hd)) = v12 at *
            have cV_12_0 : _ = some (Value.bool (decide (qs.num < 0))) := V_12.cell 0
            have fV_12_0 := V_12.free 0
            have cV_12_1 : _ = some (Value.slice pa pn pc) := V_12.cell 1
            have fV_12_1 := V_12.free 1
            have cV_12_2 : _ = some (Value.slice pb pm pd) := V_12.cell 2
            have fV_12_2 := V_12.free 2
            have cX_12_0 : _ = some (Value.bool (decide (qs.num < 0))) := X_12.cell 0
            have fX_12_0 := X_12.free 0
            have cX_12_1 : _ = some (Value.slice ea en ec) := X_12.cell 1
            have fX_12_1 := X_12.free 1
            have cX_12_2 : _ = some (Value.slice eb em ed) := X_12.cell 2
            have fX_12_2 := X_12.free 2
            go_wp2_with fail
            refine (cmpQ_self qs ▸ qcmp (Fp_12.rdQ sqs.out) (by omega) (Fe_12.rdQ sqs.out) (by omega)).mono ?_
            rintro e w13 ⟨rfl, hB⟩
            have hB_13 : Below v12.heap.size v12 w13 := (bl.next hB)
            have V_13 := V_12.next hB_13
            have B_13 := B_12.next hB_13
            have X_13 := X_12.next hB_13
            have Y_13 := Y_12.next hB_13
            have Fp_13 := Fp_12.below hB_13
            have Og_13 := Og_12.below hB_13
            have Pg_13 := Pg_12.below hB_13
            have Fe_13 := Fe_12.below hB_13
            have Fh_13 := Fh_12.below hB_13
            have hbel_13 := hbel_12.next hB_13
            have hsz_13 := hB_13.size
            clear V_12 B_12 X_12 Y_12 Fp_12 Og_12 Pg_12 Fe_12 Fh_12 hbel_12 hB_13
            clear cY_11_0 fY_11_0 cY_11_1 fY_11_1 cY_11_2 fY_11_2 cV_12_0 fV_12_0 cV_12_1 fV_12_1 cV_12_2 fV_12_2 cX_12_0 fX_12_0 cX_12_1 fX_12_1 cX_12_2 fX_12_2
            try clear hB
            have sqy : Hid (QS qy 2) := hid (hny.out ▸ sqn.out)
            by_cases hj : (i : Int) > 64
            ·
              have her : er = 31 := by rw [← herh.out, if_pos hj]
              subst her
              have hk65 : decide (((i + 1 : Nat) : Int) > 65) = true := by simp; omega
              go_wp2
              go_ret
              exact ⟨rfl, hbel_13⟩
            ·
              have her : er = 0 := by rw [← herh.out, if_neg hj]
              subst her
              have hk65 : decide (((i + 1 : Nat) : Int) > 65) = false := by simp; omega
              have hk66 : decide (((i + 1 : Nat) : Int) ≤ 65) = true := by simp; omega
              have cB_13_0 : _ = some (Value.bool (qsg qn 0)) := B_13.cell 0
              have fB_13_0 := B_13.free 0
              have cB_13_1 : _ = some (Value.slice ga gn gc) := B_13.cell 1
              have fB_13_1 := B_13.free 1
              have cB_13_2 : _ = some (Value.slice gb gm gd) := B_13.cell 2
              have fB_13_2 := B_13.free 2
              have cY_13_0 : _ = some (Value.bool (decide (qy.num < 0))) := Y_13.cell 0
              have fY_13_0 := Y_13.free 0
              have cY_13_1 : _ = some (Value.slice ha hn hc) := Y_13.cell 1
              have fY_13_1 := Y_13.free 1
              have cY_13_2 : _ = some (Value.slice hb hm hd) := Y_13.cell 2
              have fY_13_2 := Y_13.free 2
              go_wp2_with fail
              have hcm := cmpQ_eq (show qn = qy from hny.out)
              refine (hcm ▸ qcmp ((show Own 0 _ _ _ _ (lm qn.num.natAbs) from Og_13.mono (Nat.zero_le _)).rdQ (show Own 0 _ _ _ _ (lm qn.den) from Pg_13.mono (Nat.zero_le _)) sqn.out) (by omega) (Fh_13.rdQ sqy.out) (by omega)).mono ?_
              rintro e w14 ⟨rfl, hB⟩
              have hB_14 : Below w13.heap.size w13 w14 := (bl.next hB)
              have V_14 := V_13.next hB_14
              have B_14 := B_13.next hB_14
              have X_14 := X_13.next hB_14
              have Y_14 := Y_13.next hB_14
              have Fp_14 := Fp_13.below hB_14
              have Og_14 := Og_13.below hB_14
              have Pg_14 := Pg_13.below hB_14
              have Fe_14 := Fe_13.below hB_14
              have Fh_14 := Fh_13.below hB_14
              have hbel_14 := hbel_13.next hB_14
              have hsz_14 := hB_14.size
              clear V_13 B_13 X_13 Y_13 Fp_13 Og_13 Pg_13 Fe_13 Fh_13 hbel_13 hB_14
              clear cB_13_0 fB_13_0 cB_13_1 fB_13_1 cB_13_2 fB_13_2 cY_13_0 fY_13_0 cY_13_1 fY_13_1 cY_13_2 fY_13_2
              try clear hB
              go_wp2
              go_ret
              exact ⟨rfl, hbel_14⟩

end Go.Proofs.Ytennilapmcgnbaa
