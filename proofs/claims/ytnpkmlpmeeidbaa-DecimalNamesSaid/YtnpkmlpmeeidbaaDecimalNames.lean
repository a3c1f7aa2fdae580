/- THE WALK OF credencelaw04.DecimalNames: the limits and the errors have their numbers; exponents at the limit. -/
import Derived.Test.YtnpkmlpmeeidbaaDt
namespace Go.Proofs.Ytnpkmlpmeeidbaa
set_option linter.unusedVariables false
set_option linter.unusedSimpArgs false
open Go.ChangeShapes Go.WideShapes Go.ChangeAt Go.RowKit Go.NatP

theorem ptd_len {v k : Nat} (hk : k ≠ 0) : (ptd v k).length = (pad (tx v) k).length + 1 := by
  obtain ⟨A, B, h1, h2, _⟩ := ptd_split (v := v) hk
  rw [h1, ← h2]
  simp
  omega
theorem roT_zero_size {K : Nat} (hK : K ≠ 0) : (roT 0 K).size = K + 2 := by
  unfold roT roV
  rw [if_neg (by simp)]
  have h : rdN (0 : Rat).num.natAbs (0 : Rat).den K = 0 := by unfold rdN; simp
  rw [h, ← by_len, ptd_by, ptd_len hK, pad_len]
  simp [tx]
theorem den_one {D : Nat} (hD : D ≠ 0) : (mkRat 1 D).num = 1 ∧ (mkRat 1 D).den = D := by
  have h1 := num_low false 1 hD
  have h2 := den_low false 1 hD
  rw [Nat.gcd_one_left, Nat.div_one] at h1 h2
  exact ⟨h1, h2⟩
theorem ex_two {K : Nat} (hK : K ≤ 4096) : ExIs (2 ^ K) (some K) :=
  ⟨hK, ⟨5 ^ K, by rw [← Nat.mul_pow]⟩, fun k hk h => by
    have := pow_dvd_le (p := 2) (t := K) (i := k) (x := 1) (.inl rfl) (by decide) (by rw [Nat.mul_one]; exact h)
    omega⟩
theorem ex_two_none {K : Nat} (hK : 4096 < K) : ExIs (2 ^ K) none := fun k hk h => by
  have := pow_dvd_le (p := 2) (t := K) (i := k) (x := 1) (.inl rfl) (by decide) (by rw [Nat.mul_one]; exact h)
  omega
theorem tx_len_le {v k : Nat} (h : v < 10 ^ k) (hk : 1 ≤ k) : (tx v).length ≤ k := by
  unfold tx
  split
  · simpa using hk
  · simpa using length_dl_le h
theorem tiny_size {K : Nat} (hK : K ≠ 0) : (exT2 (mkRat 1 (2 ^ K)) (some K)).size = K + 2 := by
  have hD : (2 : Nat) ^ K ≠ 0 := Nat.ne_of_gt (Nat.pow_pos (by decide))
  obtain ⟨h1, h2⟩ := den_one hD
  unfold exT2
  rw [exV2_some, h1, h2, if_neg (by decide), ← by_len, ptd_by, ptd_len hK, pad_len]
  have h3 : Int.natAbs 1 * 10 ^ K / 2 ^ K = 5 ^ K := by
    rw [show Int.natAbs 1 = 1 from rfl, Nat.one_mul, show (10 : Nat) ^ K = 2 ^ K * 5 ^ K by rw [← Nat.mul_pow], Nat.mul_div_cancel_left _ (Nat.pos_of_ne_zero hD)]
  rw [h3]
  have h4 := tx_len_le (v := 5 ^ K) (k := K) (Nat.pow_lt_pow_left (by decide) hK) (by omega)
  omega
theorem val_top (i x : Nat) : val (List.replicate i 0 ++ [x]) = 4294967296 ^ i * x := by
  rw [val_append, val_replicate_zero, List.length_replicate, Nat.zero_add]
  simp [val]
theorem pow32 (i : Nat) : (4294967296 : Nat) ^ i = 2 ^ (32 * i) := by rw [Nat.pow_mul]
theorem dpe {w : World} (s : ByteArray) (hs : s.size ≤ 4096) {er : Int} (he : dcE (by' s) = er) : Calls Try.prog 24 #[.string s] w (fun e w' => ∃ sg a n c b m d, e = .returned (.tuple #[.agg #[.bool sg, .slice a n c, .slice b m d], .int .i64 er]) ∧ Below w.heap.size w w') :=
  (dparse s hs).mono fun e w' h => by
    obtain ⟨a, n, c, b, m, d, h, _, _, _, hB⟩ := h
    rw [he] at h
    exact ⟨_, a, n, c, b, m, d, h, hB⟩

theorem dnE0 : dcE (by' ⟨#[49, 101, 45, 49, 48, 48, 48]⟩) = 0 := by decide +kernel
theorem dnE1 : dcE (by' ⟨#[49, 101, 45, 49, 48, 48, 49]⟩) = 22 := by decide +kernel
theorem dnE2 : dcE (by' ⟨#[49, 101, 49, 56, 52, 52, 54, 55, 52, 52, 48, 55, 51, 55, 48, 57, 53, 53, 49, 54, 49, 55]⟩) = 22 := by decide +kernel
theorem dnE3 : dcE (by' ⟨#[46, 53]⟩) = 22 := by decide +kernel
theorem dnE4 : dcE (by' ⟨#[53, 46]⟩) = 22 := by decide +kernel
theorem dnE5 : dcE (by' ⟨#[49, 95, 53]⟩) = 22 := by decide +kernel
set_option maxRecDepth 100000 in
set_option maxHeartbeats 8000000 in
theorem decimalNames_walk {w : World}  :
    Calls Try.prog 11 #[] w (fun e w' => e = .returned (.bool true) ∧ Below w.heap.size w w') := by
  obtain ⟨K, hK⟩ : ∃ K : Nat, K = 4096 := ⟨_, rfl⟩
  obtain ⟨T, hT⟩ : ∃ T, roT 0 K = T := ⟨_, rfl⟩
  have hTs : T.size = 4098 := by rw [← hT, roT_zero_size (by omega)]; omega
  have HT : Hid (∀ w, Calls Try.prog 56 #[.agg #[.bool false, .slice none 0 0, .slice none 0 0], .int .i64 4096] w (RetSE w T 0)) := fun w => by
    have h := dround (w := w) (show RdQ 1 w false none 0 0 none 0 0 0 from ⟨0, 0, ⟨[], rd_nil w 0 none (Nat.zero_le _), rfl, by omega⟩, ⟨[], rd_nil w 0 none (Nat.zero_le _), rfl, by omega⟩, rfl⟩) (by omega) K (by omega)
    rw [hT] at h
    rwa [show ((K : Nat) : Int) = 4096 by omega] at h
  obtain ⟨D, hD⟩ : ∃ D : Nat, D = 2 ^ K := ⟨_, rfl⟩
  obtain ⟨D2, hD2⟩ : ∃ D : Nat, D = 2 ^ (K + 1) := ⟨_, rfl⟩
  obtain ⟨Y, hY⟩ : ∃ Y, exT2 (mkRat 1 D) (some K) = Y := ⟨_, rfl⟩
  have hYs : Y.size = 4098 := by rw [← hY, hD, tiny_size (by omega)]; omega
  have hv1 : val (List.replicate 128 0 ++ [1]) = D := by
    obtain ⟨i, hi⟩ : ∃ i : Nat, i = 128 := ⟨_, rfl⟩
    rw [← hi, val_top, pow32, hD, Nat.mul_one]
    congr 1
    omega
  have hv2 : val (List.replicate 128 0 ++ [2]) = D2 := by
    obtain ⟨i, hi⟩ : ∃ i : Nat, i = 128 := ⟨_, rfl⟩
    rw [← hi, val_top, pow32, hD2, Nat.pow_succ]
    congr 2
    omega
  have hDn : D ≠ 0 := by rw [hD]; exact Nat.ne_of_gt (Nat.pow_pos (by decide))
  have hDn2 : D2 ≠ 0 := by rw [hD2]; exact Nat.ne_of_gt (Nat.pow_pos (by decide))
  have HX1 : Hid (∀ (W : World) {a b : Option Addr} {c d : Nat}, RdQ 129 W false a 1 c b 129 d (mkRat 1 D) → Calls Try.prog 57 #[.agg #[.bool false, .slice a 1 c, .slice b 129 d]] W (RetSB W Y true)) := fun W a b c d h => by
    have h2 := dexact h (by omega) (R := some K) (by rw [(den_one hDn).2, hD]; exact ex_two (by omega))
    rwa [hY] at h2
  have HX2 : Hid (∀ (W : World) {a b : Option Addr} {c d : Nat}, RdQ 129 W false a 1 c b 129 d (mkRat 1 D2) → Calls Try.prog 57 #[.agg #[.bool false, .slice a 1 c, .slice b 129 d]] W (RetSB W ⟨#[]⟩ false)) := fun W a b c d h => dexact h (by omega) (R := none) (by rw [(den_one hDn2).2, hD2]; exact ex_two_none (by omega))
  clear hT hY hD hD2 hK
  go_enter Try.func11, Try.ntmps11
  have hbel_0 : Below w.heap.size w w := Below.refl _ _
  go_wp2_with fail
  refine (dpe (w := w) ⟨#[49, 101, 45, 49, 48, 48, 48]⟩ (by decide) dnE0).mono ?_
  rintro e w1 ⟨sg0, a0, n0, c0, b0, m0, d0, rfl, hB⟩
  have hB_1 : Below w.heap.size w w1 := (bl.next hB)
  have hbel_1 := hbel_0.next hB_1
  have hsz_1 := hB_1.size
  clear hbel_0 hB_1
  try clear hB
  have hbx := blk_new w1 #[Value.bool sg0, Value.slice a0 n0 c0, Value.slice b0 m0 d0] 29
  have hbB := (Below.refl w1.heap.size w1).alloc (Nat.le_refl _) (.cells #[Value.bool sg0, Value.slice a0 n0 c0, Value.slice b0 m0 d0] 29)
  have hltP0 := hbx.lt
  have hB_2 : Below w1.heap.size w1 (w1.alloc (.cells #[Value.bool sg0, Value.slice a0 n0 c0, Value.slice b0 m0 d0] 29)) := hbB
  have hbel_2 := hbel_1.next hB_2
  have hsz_2 := hB_2.size
  clear hB_2
  have P0_2 := hbx
  clear hbx hbB
  go_wp2_with fail
  clear hbel_1
  generalize (w1.alloc (.cells #[Value.bool sg0, Value.slice a0 n0 c0, Value.slice b0 m0 d0] 29)) = v2 at *
  clear P0_2 hltP0
  go_wp2_with fail
  refine (dpe (w := v2) ⟨#[49, 101, 45, 49, 48, 48, 49]⟩ (by decide) dnE1).mono ?_
  rintro e w3 ⟨sg1, a1, n1, c1, b1, m1, d1, rfl, hB⟩
  have hB_3 : Below v2.heap.size v2 w3 := (bl.next hB)
  have hbel_3 := hbel_2.next hB_3
  have hsz_3 := hB_3.size
  clear hbel_2 hB_3
  try clear hB
  have hbx := blk_new w3 #[Value.bool sg1, Value.slice a1 n1 c1, Value.slice b1 m1 d1] 29
  have hbB := (Below.refl w3.heap.size w3).alloc (Nat.le_refl _) (.cells #[Value.bool sg1, Value.slice a1 n1 c1, Value.slice b1 m1 d1] 29)
  have hltP1 := hbx.lt
  have hB_4 : Below w3.heap.size w3 (w3.alloc (.cells #[Value.bool sg1, Value.slice a1 n1 c1, Value.slice b1 m1 d1] 29)) := hbB
  have hbel_4 := hbel_3.next hB_4
  have hsz_4 := hB_4.size
  clear hB_4
  have P1_4 := hbx
  clear hbx hbB
  go_wp2_with fail
  clear hbel_3
  generalize (w3.alloc (.cells #[Value.bool sg1, Value.slice a1 n1 c1, Value.slice b1 m1 d1] 29)) = v4 at *
  clear P1_4 hltP1
  go_wp2_with fail
  refine (dpe (w := v4) ⟨#[49, 101, 49, 56, 52, 52, 54, 55, 52, 52, 48, 55, 51, 55, 48, 57, 53, 53, 49, 54, 49, 55]⟩ (by decide) dnE2).mono ?_
  rintro e w5 ⟨sg2, a2, n2, c2, b2, m2, d2, rfl, hB⟩
  have hB_5 : Below v4.heap.size v4 w5 := (bl.next hB)
  have hbel_5 := hbel_4.next hB_5
  have hsz_5 := hB_5.size
  clear hbel_4 hB_5
  try clear hB
  have hbx := blk_new w5 #[Value.bool sg2, Value.slice a2 n2 c2, Value.slice b2 m2 d2] 29
  have hbB := (Below.refl w5.heap.size w5).alloc (Nat.le_refl _) (.cells #[Value.bool sg2, Value.slice a2 n2 c2, Value.slice b2 m2 d2] 29)
  have hltP2 := hbx.lt
  have hB_6 : Below w5.heap.size w5 (w5.alloc (.cells #[Value.bool sg2, Value.slice a2 n2 c2, Value.slice b2 m2 d2] 29)) := hbB
  have hbel_6 := hbel_5.next hB_6
  have hsz_6 := hB_6.size
  clear hB_6
  have P2_6 := hbx
  clear hbx hbB
  go_wp2_with fail
  clear hbel_5
  generalize (w5.alloc (.cells #[Value.bool sg2, Value.slice a2 n2 c2, Value.slice b2 m2 d2] 29)) = v6 at *
  clear P2_6 hltP2
  go_wp2_with fail
  refine (HT.out _).mono ?_
  rintro e w7 ⟨rfl, hB⟩
  have hB_7 : Below v6.heap.size v6 w7 := (bl.next hB)
  have hbel_7 := hbel_6.next hB_7
  have hsz_7 := hB_7.size
  clear hbel_6 hB_7
  try clear hB
  go_wp2_with fail
  refine (droundbad0 4097 (by omega) (by omega) (by omega)).mono ?_
  rintro e w8 ⟨rfl, hB⟩
  have hB_8 : Below w7.heap.size w7 w8 := (bl.next hB)
  have hbel_8 := hbel_7.next hB_8
  have hsz_8 := hB_8.size
  clear hbel_7 hB_8
  try clear hB
  go_wp2_with fail
  refine (dpe (w := w8) ⟨#[46, 53]⟩ (by decide) dnE3).mono ?_
  rintro e w9 ⟨sg3, a3, n3, c3, b3, m3, d3, rfl, hB⟩
  have hB_9 : Below w8.heap.size w8 w9 := (bl.next hB)
  have hbel_9 := hbel_8.next hB_9
  have hsz_9 := hB_9.size
  clear hbel_8 hB_9
  try clear hB
  have hbx := blk_new w9 #[Value.bool sg3, Value.slice a3 n3 c3, Value.slice b3 m3 d3] 29
  have hbB := (Below.refl w9.heap.size w9).alloc (Nat.le_refl _) (.cells #[Value.bool sg3, Value.slice a3 n3 c3, Value.slice b3 m3 d3] 29)
  have hltP3 := hbx.lt
  have hB_10 : Below w9.heap.size w9 (w9.alloc (.cells #[Value.bool sg3, Value.slice a3 n3 c3, Value.slice b3 m3 d3] 29)) := hbB
  have hbel_10 := hbel_9.next hB_10
  have hsz_10 := hB_10.size
  clear hB_10
  have P3_10 := hbx
  clear hbx hbB
  go_wp2_with fail
  clear hbel_9
  generalize (w9.alloc (.cells #[Value.bool sg3, Value.slice a3 n3 c3, Value.slice b3 m3 d3] 29)) = v10 at *
  clear P3_10 hltP3
  go_wp2_with fail
  refine (dpe (w := v10) ⟨#[53, 46]⟩ (by decide) dnE4).mono ?_
  rintro e w11 ⟨sg4, a4, n4, c4, b4, m4, d4, rfl, hB⟩
  have hB_11 : Below v10.heap.size v10 w11 := (bl.next hB)
  have hbel_11 := hbel_10.next hB_11
  have hsz_11 := hB_11.size
  clear hbel_10 hB_11
  try clear hB
  have hbx := blk_new w11 #[Value.bool sg4, Value.slice a4 n4 c4, Value.slice b4 m4 d4] 29
  have hbB := (Below.refl w11.heap.size w11).alloc (Nat.le_refl _) (.cells #[Value.bool sg4, Value.slice a4 n4 c4, Value.slice b4 m4 d4] 29)
  have hltP4 := hbx.lt
  have hB_12 : Below w11.heap.size w11 (w11.alloc (.cells #[Value.bool sg4, Value.slice a4 n4 c4, Value.slice b4 m4 d4] 29)) := hbB
  have hbel_12 := hbel_11.next hB_12
  have hsz_12 := hB_12.size
  clear hB_12
  have P4_12 := hbx
  clear hbx hbB
  go_wp2_with fail
  clear hbel_11
  generalize (w11.alloc (.cells #[Value.bool sg4, Value.slice a4 n4 c4, Value.slice b4 m4 d4] 29)) = v12 at *
  clear P4_12 hltP4
  go_wp2_with fail
  refine (dpe (w := v12) ⟨#[49, 95, 53]⟩ (by decide) dnE5).mono ?_
  rintro e w13 ⟨sg5, a5, n5, c5, b5, m5, d5, rfl, hB⟩
  have hB_13 : Below v12.heap.size v12 w13 := (bl.next hB)
  have hbel_13 := hbel_12.next hB_13
  have hsz_13 := hB_13.size
  clear hbel_12 hB_13
  try clear hB
  have hbx := blk_new w13 #[Value.bool sg5, Value.slice a5 n5 c5, Value.slice b5 m5 d5] 29
  have hbB := (Below.refl w13.heap.size w13).alloc (Nat.le_refl _) (.cells #[Value.bool sg5, Value.slice a5 n5 c5, Value.slice b5 m5 d5] 29)
  have hltP5 := hbx.lt
  have hB_14 : Below w13.heap.size w13 (w13.alloc (.cells #[Value.bool sg5, Value.slice a5 n5 c5, Value.slice b5 m5 d5] 29)) := hbB
  have hbel_14 := hbel_13.next hB_14
  have hsz_14 := hB_14.size
  clear hB_14
  have P5_14 := hbx
  clear hbx hbB
  go_wp2_with (at_make; go_loud (refine wpList_mk rfl _ _ rfl _ 129 rfl rfl rfl (by omega) (Nat.le_refl _) ?_; intro wm hOm hKm; have e9 : (w13.alloc (.cells #[Value.bool sg5, Value.slice a5 n5 c5, Value.slice b5 m5 d5] 29)).heap.size = w13.heap.size + 1 := (by simp); rw [e9] at hOm; have hcc := hOm.cell (i := 128) (by omega); have hff := hOm.free 128))
  clear hbel_13
  generalize (w13.alloc (.cells #[Value.bool sg5, Value.slice a5 n5 c5, Value.slice b5 m5 d5] 29)) = v14 at *
  clear P5_14 hltP5
  have hcl : ((List.replicate 129 0).set 128 1 : List Nat) = List.replicate 128 0 ++ [1] := by rfl
  have hcl2 : ((List.replicate 128 0 ++ [1]).set 128 2 : List Nat) = List.replicate 128 0 ++ [2] := by rfl
  clear e9 hcc hff
  have hBm : Below w.heap.size w wm := hbel_14.kp hKm hbel_14.size (by simp)
  have hsm := hKm.size
  have hwz : w.heap.size ≤ w13.heap.size := by omega
  clear hsm
  have hO1 : Own (w13.heap.size + 1) (wm.setCell ⟨w13.heap.size + 1, 128, none⟩ (.int .u32 1)) (some ⟨w13.heap.size + 1, 0, none⟩) 129 129 (List.replicate 128 0 ++ [1]) := by rw [← hcl]; exact hOm.set 128 1 (by decide)
  have hk1 := (Kp.refl (fun j => j = w13.heap.size + 1) wm).setCell (ad := ⟨w13.heap.size + 1, 128, none⟩) rfl (.int .u32 1)
  have hBa1 : Below w.heap.size w ((wm.setCell ⟨w13.heap.size + 1, 128, none⟩ (.int .u32 1)).alloc (.cells #[Value.int .u32 1] 39)) := (hBm.kp hk1 hBm.size (fun j hj => by show ¬ (j = _); omega)).alloc (Nat.le_trans hBm.size hk1.size) _
  have hL1 : Blk ((wm.setCell ⟨w13.heap.size + 1, 128, none⟩ (.int .u32 1)).alloc (.cells #[Value.int .u32 1] 39)) wm.heap.size #[.int .u32 1] := blk_new' _ _ _ (by simp [World.setCell])
  have hQ1 : RdQ 129 ((wm.setCell ⟨w13.heap.size + 1, 128, none⟩ (.int .u32 1)).alloc (.cells #[Value.int .u32 1] 39)) false (some ⟨wm.heap.size, 0, none⟩) 1 1 (some ⟨w13.heap.size + 1, 0, none⟩) 129 129 (mkRat 1 D) := ⟨1, D, (rdN_blk rfl (by decide) hL1).mono (by omega), ⟨_, (hO1.alloc _).rd, hv1, Nat.le_refl _⟩, by unfold qv; rw [und_of hDn]; rfl⟩
  have hP1 := hO1.alloc (.cells #[Value.int .u32 1] 39)
  generalize ((wm.setCell ⟨w13.heap.size + 1, 128, none⟩ (.int .u32 1)).alloc (.cells #[Value.int .u32 1] 39)) = wn1 at *
  refine (HX1.out _ hQ1).mono ?_
  rintro e wq1 ⟨rfl, hB⟩
  have hBm := hBa1.next hB
  have hOm := hP1.below hB
  clear hP1 hO1 hk1 hL1 hQ1 hBa1 hB
  have hcc := hOm.cell (i := 128) (by omega)
  have hff := hOm.free 128
  go_wp2_with fail
  clear hcc hff
  have hO2 : Own (w13.heap.size + 1) (wq1.setCell ⟨w13.heap.size + 1, 128, none⟩ (.int .u32 2)) (some ⟨w13.heap.size + 1, 0, none⟩) 129 129 (List.replicate 128 0 ++ [2]) := by rw [← hcl2]; exact hOm.set 128 2 (by decide)
  have hk2 := (Kp.refl (fun j => j = w13.heap.size + 1) wq1).setCell (ad := ⟨w13.heap.size + 1, 128, none⟩) rfl (.int .u32 2)
  have hBa2 : Below w.heap.size w ((wq1.setCell ⟨w13.heap.size + 1, 128, none⟩ (.int .u32 2)).alloc (.cells #[Value.int .u32 1] 39)) := (hBm.kp hk2 hBm.size (fun j hj => by show ¬ (j = _); omega)).alloc (Nat.le_trans hBm.size hk2.size) _
  have hL2 : Blk ((wq1.setCell ⟨w13.heap.size + 1, 128, none⟩ (.int .u32 2)).alloc (.cells #[Value.int .u32 1] 39)) wq1.heap.size #[.int .u32 1] := blk_new' _ _ _ (by simp [World.setCell])
  have hQ2 : RdQ 129 ((wq1.setCell ⟨w13.heap.size + 1, 128, none⟩ (.int .u32 2)).alloc (.cells #[Value.int .u32 1] 39)) false (some ⟨wq1.heap.size, 0, none⟩) 1 1 (some ⟨w13.heap.size + 1, 0, none⟩) 129 129 (mkRat 1 D2) := ⟨1, D2, (rdN_blk rfl (by decide) hL2).mono (by omega), ⟨_, (hO2.alloc _).rd, hv2, Nat.le_refl _⟩, by unfold qv; rw [und_of hDn2]; rfl⟩
  have hP2 := hO2.alloc (.cells #[Value.int .u32 1] 39)
  generalize ((wq1.setCell ⟨w13.heap.size + 1, 128, none⟩ (.int .u32 2)).alloc (.cells #[Value.int .u32 1] 39)) = wn2 at *
  refine (HX2.out _ hQ2).mono ?_
  rintro e wq2 ⟨rfl, hB⟩
  have hBm := hBa2.next hB
  have hOm := hP2.below hB
  clear hP2 hO2 hk2 hL2 hQ2 hBa2 hB
  go_wp2_with fail
  refine (lalive).mono ?_
  rintro e wz ⟨rfl, hB⟩
  go_wp2
  go_ret
  exact ⟨rfl, hBm.next hB⟩

end Go.Proofs.Ytnpkmlpmeeidbaa
