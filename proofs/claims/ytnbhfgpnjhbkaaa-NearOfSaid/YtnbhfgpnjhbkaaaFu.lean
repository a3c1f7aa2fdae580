/- WALKS OF FLOATS, 8: the reference's value of a float. -/
import Derived.Test.YtnbhfgpnjhbkaaaFs
import Derived.Test.YtnbhfgpnjhbkaaaFv
import Derived.Test.YtnbhfgpnjhbkaaaZf
namespace Go.Proofs.Ytnbhfgpnjhbkaaa
set_option linter.unusedVariables false
set_option linter.unusedSimpArgs false
open Go.ChangeShapes Go.WideShapes Go.ChangeAt Go.RowKit Go.NatP Go.FloatP

theorem same_b {w : World} {a b : Option Addr} {n c m d : Nat} {l : List Nat} (h : Rd w a n c l) (h' : Rd w b m d l) : Calls Try.prog 39 #[.slice a n c, .slice b m d] w (fun e w' => e = .returned (.bool true) ∧ Below w.heap.size w w') :=
  (same_true h h').mono fun e w' ⟨h1, q, h2⟩ => ⟨h1, by rw [h2]; exact (Below.refl _ _).drewN' q⟩

set_option maxRecDepth 100000 in
set_option maxHeartbeats 4000000 in
theorem fsame_true {w : World} {a b a' b' : Option Addr} {n c m d n' c' m' d' : Nat} {l k : List Nat} {s : Bool} (ha : Rd w a n c l) (hb : Rd w b m d k) (ha' : Rd w a' n' c' l) (hb' : Rd w b' m' d' k) :
    Calls Try.prog 11 #[.agg #[.bool s, .slice a n c, .slice b m d], .agg #[.bool s, .slice a' n' c', .slice b' m' d']] w (fun e w' => e = .returned (.bool true) ∧ Below w.heap.size w w') := by
  have hent := ent2 w #[Value.bool s, Value.slice a n c, Value.slice b m d] #[Value.bool s, Value.slice a' n' c', Value.slice b' m' d'] 29 29
  go_enter Try.func11, Try.ntmps11
  go_wp2_with fail
  generalize ((w.alloc (.cells #[Value.bool s, Value.slice a n c, Value.slice b m d] 29)).alloc (.cells #[Value.bool s, Value.slice a' n' c', Value.slice b' m' d'] 29)) = W0 at hent ⊢
  obtain ⟨X_0, Y_0, hbel_0, hsz_0⟩ := hent
  have cX_0_0 : _ = some (Value.bool s) := X_0.cell 0
  have cX_0_1 : _ = some (Value.slice a n c) := X_0.cell 1
  have cX_0_2 : _ = some (Value.slice b m d) := X_0.cell 2
  have cY_0_0 : _ = some (Value.bool s) := Y_0.cell 0
  have cY_0_1 : _ = some (Value.slice a' n' c') := Y_0.cell 1
  have cY_0_2 : _ = some (Value.slice b' m' d') := Y_0.cell 2
  have ha_0 := ha.below hbel_0
  clear ha
  have hb_0 := hb.below hbel_0
  clear hb
  have ha'_0 := ha'.below hbel_0
  clear ha'
  have hb'_0 := hb'.below hbel_0
  clear hb'
  go_wp2_with fail
  refine (zsame_true s ha_0 ha'_0).mono ?_
  rintro e w1 ⟨rfl, hB⟩
  have hB_1 : Below W0.heap.size W0 w1 := (bl.next hB)
  have X_1 := X_0.next hB_1
  have cX_1_0 : _ = some (Value.bool s) := X_1.cell 0
  have cX_1_1 : _ = some (Value.slice a n c) := X_1.cell 1
  have cX_1_2 : _ = some (Value.slice b m d) := X_1.cell 2
  have Y_1 := Y_0.next hB_1
  have cY_1_0 : _ = some (Value.bool s) := Y_1.cell 0
  have cY_1_1 : _ = some (Value.slice a' n' c') := Y_1.cell 1
  have cY_1_2 : _ = some (Value.slice b' m' d') := Y_1.cell 2
  have ha_1 := ha_0.below hB_1
  have hb_1 := hb_0.below hB_1
  have ha'_1 := ha'_0.below hB_1
  have hb'_1 := hb'_0.below hB_1
  have hbel_1 := hbel_0.next hB_1
  have hsz_1 := hB_1.size
  clear X_0 cX_0_0 cX_0_1 cX_0_2 Y_0 cY_0_0 cY_0_1 cY_0_2 ha_0 hb_0 ha'_0 hb'_0 hbel_0 hB_1
  try clear hB
  go_wp2_with fail
  refine (same_b hb_1 hb'_1).mono ?_
  rintro e w2 ⟨rfl, hB⟩
  have hB_2 : Below w1.heap.size w1 w2 := (bl.next hB)
  have X_2 := X_1.next hB_2
  have cX_2_0 : _ = some (Value.bool s) := X_2.cell 0
  have cX_2_1 : _ = some (Value.slice a n c) := X_2.cell 1
  have cX_2_2 : _ = some (Value.slice b m d) := X_2.cell 2
  have Y_2 := Y_1.next hB_2
  have cY_2_0 : _ = some (Value.bool s) := Y_2.cell 0
  have cY_2_1 : _ = some (Value.slice a' n' c') := Y_2.cell 1
  have cY_2_2 : _ = some (Value.slice b' m' d') := Y_2.cell 2
  have ha_2 := ha_1.below hB_2
  have hb_2 := hb_1.below hB_2
  have ha'_2 := ha'_1.below hB_2
  have hb'_2 := hb'_1.below hB_2
  have hbel_2 := hbel_1.next hB_2
  have hsz_2 := hB_2.size
  clear X_1 cX_1_0 cX_1_1 cX_1_2 Y_1 cY_1_0 cY_1_1 cY_1_2 ha_1 hb_1 ha'_1 hb'_1 hbel_1 hB_2
  try clear hB
  go_wp2
  go_ret
  exact ⟨rfl, hbel_2⟩

theorem rup_shift {W : World} {a : Option Addr} {n c m B : Nat} (h : Own B W a n c (lm m)) (hn : n ≤ 100000) (D : Nat) (hD : D ≤ 4000) : Calls Try.prog 63 #[.slice a n c, .int .i64 (D : Int)] W (RetE W (lm (m * 2 ^ D)) 0) := by
  have h2 := rshift_any h.rd (by omega) (D : Int) (by omega) (by omega)
  have e1 : shN (val (lm m)) (D : Int) = m * 2 ^ D := by
    rw [val_lm]
    unfold shN shv
    rw [if_pos ⟨by omega, by omega⟩, if_pos (by omega), Int.toNat_natCast]
  have e2 : shE (D : Int) = 0 := by unfold shE; rw [if_pos ⟨by omega, by omega⟩]
  rwa [e1, e2] at h2
theorem rup_shift1 {W : World} {a : Option Addr} {n c B : Nat} (h : Own B W a n c [1]) (hn : n ≤ 100000) : Calls Try.prog 63 #[.slice a n c, .int .i64 1074] W (RetE W (lm (2 ^ E74)) 0) := by
  have h2 : ∀ E : Nat, E ≤ 4000 → Calls Try.prog 63 #[.slice a n c, .int .i64 (E : Int)] W (RetE W (lm (2 ^ E)) 0) := fun E hE => by
    have h2 := rup_shift (m := 1) (lm_one ▸ h) hn E hE
    rwa [Nat.one_mul] at h2
  exact h2 E74 (by show 1074 ≤ 4000; decide)

set_option maxRecDepth 100000 in
set_option maxHeartbeats 4000000 in
theorem fpower {w : World}  :
    Calls Try.prog 31 #[.int .i64 1074] w (Ret1 w (lm (2 ^ E74))) := by
  have hsh := hid (fun (W : World) (a : Option Addr) (B : Nat) (h : Own B W a 1 1 [1]) => rup_shift1 h (by omega))
  go_enter Try.func31, Try.ntmps31
  have hbel_0 : Below w.heap.size w w := Below.refl _ _
  go_wp2_with fail
  have hbx := blk_new w #[Value.int .u32 1] 39
  have hbB := (Below.refl w.heap.size w).alloc (Nat.le_refl _) (.cells #[Value.int .u32 1] 39)
  have hltONE := hbx.lt
  have hB_1 : Below w.heap.size w (w.alloc (.cells #[Value.int .u32 1] 39)) := hbB
  have hbel_1 := hbel_0.next hB_1
  have hsz_1 := hB_1.size
  clear hB_1
  have ONE_1 := hbx
  clear hbx hbB
  have cONE_1_0 : _ = some (Value.int .u32 1) := ONE_1.cell 0
  have D_1 := (show Own w.heap.size _ (some ⟨_, 0, none⟩) 1 1 [1] from own_one _ _ 1 (by omega) (Nat.le_refl _))
  go_wp2_with fail
  clear hbel_0
  generalize (w.alloc (.cells #[Value.int .u32 1] 39)) = v1 at *
  go_wp2_with fail
  refine (hsh.out _ _ _ D_1).mono ?_
  rintro e w2 ⟨sa, sn, sc, rfl, hO, hB⟩
  have hB_2 : Below v1.heap.size v1 w2 := (bl.next hB)
  have ONE_2 := ONE_1.next hB_2
  have cONE_2_0 : _ = some (Value.int .u32 1) := ONE_2.cell 0
  have D_2 := D_1.below hB_2
  have hbel_2 := hbel_1.next hB_2
  have hsz_2 := hB_2.size
  clear ONE_1 cONE_1_0 D_1 hbel_1 hB_2
  have S_2 := hO
  have ltS := hO.ltB
  clear hO
  try clear hB
  go_wp2
  go_ret
  exact ⟨sa, sn, sc, rfl, S_2.mono (by omega), hbel_2⟩

set_option maxRecDepth 100000 in
set_option maxHeartbeats 4000000 in
theorem flong {w : World}  :
    Calls Try.prog 26 #[] w (fun e w' => e = .returned (.agg #[.int .i64 52, .int .u64 9218868437227405312, .int .i64 (-1074)]) ∧ Below w.heap.size w w') := by
  go_enter Try.func26, Try.ntmps26
  have hA := blk_new w #[Value.int .i64 52, Value.int .u64 9218868437227405312, Value.int .i64 (-1074)] 64
  have q0 := hA.cell 0
  have q1 := hA.cell 1
  have q2 := hA.cell 2
  go_wp2
  refine bodyPost_ret (v := .agg #[.int .i64 52, .int .u64 9218868437227405312, .int .i64 (-1074)]) (by simp [results, Try.results26, go_sem, q0, q1, q2]) rfl ?_
  exact ⟨rfl, (Below.refl _ _).alloc (Nat.le_refl _) _⟩

set_option maxRecDepth 100000 in
set_option maxHeartbeats 4000000 in
theorem fvalue1 {w : World} (r : Nat) (hr : r < 9218868437227405312) (hc : r < 4503599627370496) :
    Calls Try.prog 29 #[.agg #[.int .i64 52, .int .u64 9218868437227405312, .int .i64 (-1074)], .int .u64 (r : Int)] w (Ret1 w (lm (fg r))) := by
  unfold fg
  rw [if_pos (show r < 4503599627370496 by omega)]
  obtain ⟨q, hq⟩ : ∃ q, r / 4503599627370496 = q := ⟨_, rfl⟩
  obtain ⟨m, hm⟩ : ∃ m, r % 4503599627370496 = m := ⟨_, rfl⟩
  have hdm : r = q * 4503599627370496 + m := by omega
  have hm2 : m < 4503599627370496 := by omega
  have hq2 : q ≤ 2046 := by omega
  have hq3 : (r : Int) / 4503599627370496 = (q : Int) := by omega
  have hm3 : (r : Int) % 4503599627370496 = (m : Int) := by omega
  have hsh1 : Op.shift .shl .u64 1 .i64 52 = pure (.int .u64 4503599627370496) := by kernel_rfl
  have hqd : ((q : Int) == 0) = true := by simp; omega
  have hmr : m = r := by omega
  have hO1 := hid (fun w => rof_any (w := w) (m : Int) (by omega) (by omega))
  rw [Int.toNat_natCast, show lm m = lm r by rw [hmr]] at hO1
  clear hmr
  have hdmh := hid hdm
  clear hc hq hm hdm hr
  have hent := ent1 w #[Value.int .i64 52, Value.int .u64 9218868437227405312, Value.int .i64 (-1074)] 64
  go_enter Try.func29, Try.ntmps29
  go_wp2_with fail
  generalize (w.alloc (.cells #[Value.int .i64 52, Value.int .u64 9218868437227405312, Value.int .i64 (-1074)] 64)) = W0 at hent ⊢
  obtain ⟨X_0, hbel_0, hsz_0⟩ := hent
  have cX_0_0 : _ = some (Value.int .i64 52) := X_0.cell 0
  have cX_0_1 : _ = some (Value.int .u64 9218868437227405312) := X_0.cell 1
  have cX_0_2 : _ = some (Value.int .i64 (-1074)) := X_0.cell 2
  go_wp2_with fail
  go_wp2_with fail
  refine (hO1.out _).mono ?_
  rintro e w1 ⟨oa, on, oc, rfl, hO, hB⟩
  have hB_1 : Below W0.heap.size W0 w1 := (bl.next hB)
  have X_1 := X_0.next hB_1
  have cX_1_0 : _ = some (Value.int .i64 52) := X_1.cell 0
  have cX_1_1 : _ = some (Value.int .u64 9218868437227405312) := X_1.cell 1
  have cX_1_2 : _ = some (Value.int .i64 (-1074)) := X_1.cell 2
  have hbel_1 := hbel_0.next hB_1
  have hsz_1 := hB_1.size
  clear X_0 cX_0_0 cX_0_1 cX_0_2 hbel_0 hB_1
  have O_1 := hO
  have ltO := hO.ltB
  clear hO
  try clear hB
  go_wp2
  go_ret
  exact ⟨oa, on, oc, rfl, O_1.mono (by omega), hbel_1⟩

set_option maxRecDepth 100000 in
set_option maxHeartbeats 4000000 in
theorem fvalue0 {w : World} (r : Nat) (hr : r < 9218868437227405312) (hc : 4503599627370496 ≤ r) :
    Calls Try.prog 29 #[.agg #[.int .i64 52, .int .u64 9218868437227405312, .int .i64 (-1074)], .int .u64 (r : Int)] w (Ret1 w (lm (fg r))) := by
  unfold fg
  rw [if_neg (show ¬ r < 4503599627370496 by omega)]
  obtain ⟨q, hq⟩ : ∃ q, r / 4503599627370496 = q := ⟨_, rfl⟩
  obtain ⟨m, hm⟩ : ∃ m, r % 4503599627370496 = m := ⟨_, rfl⟩
  have hdm : r = q * 4503599627370496 + m := by omega
  have hm2 : m < 4503599627370496 := by omega
  have hq2 : q ≤ 2046 := by omega
  have hq3 : (r : Int) / 4503599627370496 = (q : Int) := by omega
  have hm3 : (r : Int) % 4503599627370496 = (m : Int) := by omega
  have hsh1 : Op.shift .shl .u64 1 .i64 52 = pure (.int .u64 4503599627370496) := by kernel_rfl
  have hqd : ((q : Int) == 0) = false := by simp; omega
  rw [hq, hm]
  have hO1 := hid (fun w => rof_any (w := w) ((m : Int) + 4503599627370496) (by omega) (by omega))
  rw [show ((m : Int) + 4503599627370496).toNat = 4503599627370496 + m by omega] at hO1
  obtain ⟨D, hD⟩ : ∃ D : Nat, q = D + 1 := ⟨q - 1, by omega⟩
  have hD2 : (q : Int) - 1 = (D : Int) := by omega
  rw [show q - 1 = D by omega]
  have hsh := hid (fun (W : World) (a : Option Addr) (B n c : Nat) (h : Own B W a n c (lm (4503599627370496 + m))) (hn : n ≤ 100000) => rup_shift h hn D (by omega))
  have hs := hid (show Sz (4503599627370496 + m) 2 by show _ < 4294967296 ^ 2; omega)
  have hdmh := hid hdm
  clear hc hq hm hdm hr
  have hent := ent1 w #[Value.int .i64 52, Value.int .u64 9218868437227405312, Value.int .i64 (-1074)] 64
  go_enter Try.func29, Try.ntmps29
  go_wp2_with fail
  generalize (w.alloc (.cells #[Value.int .i64 52, Value.int .u64 9218868437227405312, Value.int .i64 (-1074)] 64)) = W0 at hent ⊢
  obtain ⟨X_0, hbel_0, hsz_0⟩ := hent
  have cX_0_0 : _ = some (Value.int .i64 52) := X_0.cell 0
  have cX_0_1 : _ = some (Value.int .u64 9218868437227405312) := X_0.cell 1
  have cX_0_2 : _ = some (Value.int .i64 (-1074)) := X_0.cell 2
  go_wp2_with fail
  go_wp2_with fail
  refine (hO1.out _).mono ?_
  rintro e w1 ⟨oa, on, oc, rfl, hO, hB⟩
  have hB_1 : Below W0.heap.size W0 w1 := (bl.next hB)
  have X_1 := X_0.next hB_1
  have cX_1_0 : _ = some (Value.int .i64 52) := X_1.cell 0
  have cX_1_1 : _ = some (Value.int .u64 9218868437227405312) := X_1.cell 1
  have cX_1_2 : _ = some (Value.int .i64 (-1074)) := X_1.cell 2
  have hbel_1 := hbel_0.next hB_1
  have hsz_1 := hB_1.size
  clear X_0 cX_0_0 cX_0_1 cX_0_2 hbel_0 hB_1
  have O_1 := hO
  have ltO := hO.ltB
  clear hO
  try clear hB
  have hon : on ≤ 100000 := by have h1 := O_1.len; have h2 := hs.out.len; omega
  go_wp2_with fail
  refine (hsh.out _ _ _ _ _ O_1 hon).mono ?_
  rintro e w2 ⟨sa, sn, sc, rfl, hO, hB⟩
  have hB_2 : Below w1.heap.size w1 w2 := (bl.next hB)
  have X_2 := X_1.next hB_2
  have cX_2_0 : _ = some (Value.int .i64 52) := X_2.cell 0
  have cX_2_1 : _ = some (Value.int .u64 9218868437227405312) := X_2.cell 1
  have cX_2_2 : _ = some (Value.int .i64 (-1074)) := X_2.cell 2
  have O_2 := O_1.below hB_2
  have hbel_2 := hbel_1.next hB_2
  have hsz_2 := hB_2.size
  clear X_1 cX_1_0 cX_1_1 cX_1_2 O_1 hbel_1 hB_2
  have S_2 := hO
  have ltS := hO.ltB
  clear hO
  try clear hB
  go_wp2
  go_ret
  exact ⟨sa, sn, sc, rfl, S_2.mono (by omega), hbel_2⟩

theorem fvalue {w : World} (r : Nat) (hr : r < 9218868437227405312) : Calls Try.prog 29 #[.agg #[.int .i64 52, .int .u64 9218868437227405312, .int .i64 (-1074)], .int .u64 (r : Int)] w (Ret1 w (lm (fg r))) := by
  by_cases h : r < 4503599627370496
  · exact fvalue1 r hr h
  · exact fvalue0 r hr (by omega)

theorem div_gcd_zero {u v : Nat} : u / Nat.gcd u v = 0 ↔ u = 0 := by
  constructor
  · intro e
    have := Nat.div_mul_cancel (Nat.gcd_dvd_left u v)
    rw [e, Nat.zero_mul] at this
    exact this.symm
  · intro e; rw [e, Nat.zero_div]

set_option maxRecDepth 100000 in
set_option maxHeartbeats 4000000 in
theorem flow {w : World} (s : Bool) {a b : Option Addr} {n c m d u v : Nat} (ha : RdN 4194304 w a n c u) (hb : RdN 4194304 w b m d v) (hv : v ≠ 0) :
    Calls Try.prog 27 #[.agg #[.bool s, .slice a n c], .slice b m d] w (RetQ w (mkRat (zv s u) v)) := by
  have hsu := hid ha.sz
  have hsv := hid hb.sz
  have hg : Nat.gcd u v ≠ 0 := by have := Nat.gcd_pos_of_pos_right u (show 0 < v by omega); omega
  have hsg : Hid (Sz (Nat.gcd u v) 4194304) := hsv.out.mono (Nat.gcd_le_right _ (by omega)) (Nat.le_refl _)
  have hsq : Hid (Sz (u / Nat.gcd u v) 4194304) := hsu.out.mono (Nat.div_le_self _ _) (Nat.le_refl _)
  have hnum := hid (num_low s u hv)
  have hden := hid (den_low s u hv)
  have hgh := hid hg
  clear hg hv
  have hent := ent2 w #[Value.bool s, Value.slice a n c] #[Value.bool false, Value.slice none 0 0, Value.slice none 0 0] 27 29
  go_enter Try.func27, Try.ntmps27
  go_wp2_with fail
  generalize ((w.alloc (.cells #[Value.bool s, Value.slice a n c] 27)).alloc (.cells #[Value.bool false, Value.slice none 0 0, Value.slice none 0 0] 29)) = W0 at hent ⊢
  obtain ⟨Z_0, R_0, hbel_0, hsz_0⟩ := hent
  have cZ_0_0 : _ = some (Value.bool s) := Z_0.cell 0
  have cZ_0_1 : _ = some (Value.slice a n c) := Z_0.cell 1
  have cR_0_0 : _ = some (Value.bool false) := R_0.cell 0
  have fR_0_0 := R_0.free 0
  have cR_0_1 : _ = some (Value.slice none 0 0) := R_0.cell 1
  have fR_0_1 := R_0.free 1
  have cR_0_2 : _ = some (Value.slice none 0 0) := R_0.cell 2
  have fR_0_2 := R_0.free 2
  have ha_0 := ha.below hbel_0
  clear ha
  have hb_0 := hb.below hbel_0
  clear hb
  go_wp2_with fail
  refine (rgcdR ha_0 hb_0 (by omega) (by omega)).mono ?_
  rintro e w1 ⟨ga, gn, gc, rfl, hO, hB⟩
  have hB_1 : Below W0.heap.size W0 w1 := (bl.next hB)
  have Z_1 := Z_0.next hB_1
  have cZ_1_0 : _ = some (Value.bool s) := Z_1.cell 0
  have cZ_1_1 : _ = some (Value.slice a n c) := Z_1.cell 1
  have R_1 := R_0.next hB_1
  have cR_1_0 : _ = some (Value.bool false) := R_1.cell 0
  have fR_1_0 := R_1.free 0
  have cR_1_1 : _ = some (Value.slice none 0 0) := R_1.cell 1
  have fR_1_1 := R_1.free 1
  have cR_1_2 : _ = some (Value.slice none 0 0) := R_1.cell 2
  have fR_1_2 := R_1.free 2
  have ha_1 := ha_0.below hB_1
  have hb_1 := hb_0.below hB_1
  have hbel_1 := hbel_0.next hB_1
  have hsz_1 := hB_1.size
  clear Z_0 cZ_0_0 cZ_0_1 R_0 cR_0_0 fR_0_0 cR_0_1 fR_0_1 cR_0_2 fR_0_2 ha_0 hb_0 hbel_0 hB_1
  have G_1 := hO.rdN hsg.out
  clear hO
  try clear hB
  go_wp2_with fail
  refine (rdivR ha_1 G_1 (by omega) (by omega) hgh.out).mono ?_
  rintro e w2 ⟨na, nn, nc, xa, xn, xc, rfl, hO, hO', hD, hB⟩
  have hB_2 : Below w1.heap.size w1 w2 := (bl.next hB)
  have Z_2 := Z_1.next hB_2
  have cZ_2_0 : _ = some (Value.bool s) := Z_2.cell 0
  have cZ_2_1 : _ = some (Value.slice a n c) := Z_2.cell 1
  have R_2 := R_1.next hB_2
  have cR_2_0 : _ = some (Value.bool false) := R_2.cell 0
  have fR_2_0 := R_2.free 0
  have cR_2_1 : _ = some (Value.slice none 0 0) := R_2.cell 1
  have fR_2_1 := R_2.free 1
  have cR_2_2 : _ = some (Value.slice none 0 0) := R_2.cell 2
  have fR_2_2 := R_2.free 2
  have ha_2 := ha_1.below hB_2
  have hb_2 := hb_1.below hB_2
  have G_2 := G_1.below hB_2
  have hbel_2 := hbel_1.next hB_2
  have hsz_2 := hB_2.size
  clear Z_1 cZ_1_0 cZ_1_1 R_1 cR_1_0 fR_1_0 cR_1_1 fR_1_1 cR_1_2 fR_1_2 ha_1 hb_1 G_1 hbel_1 hB_2
  have hnl := hid (show nn ≤ 16777216 by have h1 := hO.len; have h2 := hsq.out.len; omega)
  have ON_2 := hO
  have ltON := hO.ltB
  clear hO hO' hD
  try clear hB
  go_wp2_with fail
  refine (rdivR hb_2 G_2 (by omega) (by omega) hgh.out).mono ?_
  rintro e w3 ⟨da, dn, dc, ya, yn, yc, rfl, hO, hO', hD, hB⟩
  have hB_3 : Below w2.heap.size w2 w3 := (bl.next hB)
  have Z_3 := Z_2.next hB_3
  have cZ_3_0 : _ = some (Value.bool s) := Z_3.cell 0
  have cZ_3_1 : _ = some (Value.slice a n c) := Z_3.cell 1
  have R_3 := R_2.next hB_3
  have cR_3_0 : _ = some (Value.bool false) := R_3.cell 0
  have fR_3_0 := R_3.free 0
  have cR_3_1 : _ = some (Value.slice none 0 0) := R_3.cell 1
  have fR_3_1 := R_3.free 1
  have cR_3_2 : _ = some (Value.slice none 0 0) := R_3.cell 2
  have fR_3_2 := R_3.free 2
  have ha_3 := ha_2.below hB_3
  have hb_3 := hb_2.below hB_3
  have G_3 := G_2.below hB_3
  have ON_3 := ON_2.below hB_3
  have hbel_3 := hbel_2.next hB_3
  have hsz_3 := hB_3.size
  clear Z_2 cZ_2_0 cZ_2_1 R_2 cR_2_0 fR_2_0 cR_2_1 fR_2_1 cR_2_2 fR_2_2 ha_2 hb_2 G_2 ON_2 hbel_2 hB_3
  have OD_3 := hO
  have ltOD := hO.ltB
  clear hO hO' hD
  try clear hB
  go_wp2_with fail
  refine (rmake_any s ON_3.rd hnl.out).mono ?_
  rw [val_lm]
  rintro e w4 ⟨ma, mn, mc, rfl, hO, hB⟩
  have hB_4 : Below w3.heap.size w3 w4 := (bl.next hB)
  have Z_4 := Z_3.next hB_4
  have cZ_4_0 : _ = some (Value.bool s) := Z_4.cell 0
  have cZ_4_1 : _ = some (Value.slice a n c) := Z_4.cell 1
  have R_4 := R_3.next hB_4
  have cR_4_0 : _ = some (Value.bool false) := R_4.cell 0
  have fR_4_0 := R_4.free 0
  have cR_4_1 : _ = some (Value.slice none 0 0) := R_4.cell 1
  have fR_4_1 := R_4.free 1
  have cR_4_2 : _ = some (Value.slice none 0 0) := R_4.cell 2
  have fR_4_2 := R_4.free 2
  have ha_4 := ha_3.below hB_4
  have hb_4 := hb_3.below hB_4
  have G_4 := G_3.below hB_4
  have ON_4 := ON_3.below hB_4
  have OD_4 := OD_3.below hB_4
  have hbel_4 := hbel_3.next hB_4
  have hsz_4 := hB_4.size
  clear Z_3 cZ_3_0 cZ_3_1 R_3 cR_3_0 fR_3_0 cR_3_1 fR_3_1 cR_3_2 fR_3_2 ha_3 hb_3 G_3 ON_3 OD_3 hbel_3 hB_4
  have hd := ltOD.diff hO (Nat.le_refl _)
  have OM_4 := hO
  have ltOM := hO.ltB
  clear hO
  try clear hB
  go_wp2
  refine bodyPost_ret (v := .agg #[.bool (decide (zv s (u / Nat.gcd u v) < 0)), .slice ma mn mc, .slice da dn dc]) (by simp [results, Try.results27, go_sem, cR_4_0, cR_4_1, cR_4_2]) rfl ?_
  exact retq_set' hnum.out hden.out OM_4 OD_4 hd hbel_4 (by omega) (by omega) (by omega)

end Go.Proofs.Ytnbhfgpnjhbkaaa
