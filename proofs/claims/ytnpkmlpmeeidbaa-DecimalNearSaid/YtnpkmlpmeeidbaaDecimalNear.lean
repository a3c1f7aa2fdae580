/- THE WALK OF credencelaw04.DecimalNear: what Round tells is read again, and is off by at most half of the last digit. -/
import Derived.Test.YtnpkmlpmeeidbaaDw
namespace Go.Proofs.Ytnpkmlpmeeidbaa
set_option linter.unusedVariables false
set_option linter.unusedSimpArgs false
open Go.ChangeShapes Go.WideShapes Go.ChangeAt Go.RowKit Go.NatP

theorem roT_by (q : Rat) (k : Nat) : by' (roT q k) = sgn1 (decide (q.num < 0) && decide (rdN q.num.natAbs q.den k ≠ 0)) (ptd (rdN q.num.natAbs q.den k) k) := by
  unfold roT roV
  rw [← sgn1_by]
  congr 1
  simp only [Bool.and_eq_true, decide_eq_true_eq]
theorem zv_ne (b : Bool) (r : Nat) : zv (b && decide (r ≠ 0)) r = zv b r := by
  unfold zv
  cases b
  · rfl
  · by_cases h : r = 0
    · subst h; rfl
    · simp [h]
theorem near_back (q : Rat) (k : Nat) : dcQ (by' (roT q k)) = rdQ q k ∧ dcE (by' (roT q k)) = 0 := by
  rw [roT_by]
  obtain ⟨h1, h2⟩ := dc_ptd (decide (q.num < 0) && decide (rdN q.num.natAbs q.den k ≠ 0)) (rdN q.num.natAbs q.den k) k
  exact ⟨by rw [h1, zv_ne]; rfl, h2⟩
theorem rdN_le {a d k : Nat} (hd : 0 < d) : rdN a d k ≤ a * 10 ^ k := by
  have h := (rdN_bd (a := a) (k := k) hd).1
  generalize a * 10 ^ k = X at *
  generalize rdN a d k = r at *
  refine Nat.le_of_not_lt fun hlt => ?_
  have h1 : (X + 1) * d ≤ r * d := Nat.mul_le_mul_right d hlt
  rw [Nat.add_mul, Nat.one_mul] at h1
  have h2 : X ≤ X * d := Nat.le_mul_of_pos_right X hd
  omega
theorem rdQ_qs {q : Rat} {k : Nat} (hq : QS q 20) (hk : k ≤ 200) : QS (rdQ q k) 43 := by
  unfold rdQ
  refine QS.mk (Nat.ne_of_gt (Nat.pow_pos (by decide))) ?_ ((ten_sz9 k).mono (Nat.le_refl _) (by omega))
  rw [zv_abs]
  exact (hq.1.mul (ten_sz9 k)).mono (rdN_le (Nat.pos_of_ne_zero q.den_nz)) (by omega)
theorem near_size {q : Rat} {k : Nat} (hq : QS q 20) (hk : k ≤ 200) : (roT q k).size ≤ 4096 := by
  have hv : Sz (rdN q.num.natAbs q.den k) 43 := (hq.1.mul (ten_sz9 k)).mono (rdN_le (Nat.pos_of_ne_zero q.den_nz)) (by omega)
  have h2 := ptd_size (k := k) (tx_len hv)
  rw [← by_len, roT_by]
  have h3 := sgn1_len (decide (q.num < 0) && decide (rdN q.num.natAbs q.den k ≠ 0)) (ptd (rdN q.num.natAbs q.den k) k)
  rw [← by_len, ptd_by] at h2
  omega
theorem sgnQ_mk' (n : Int) {d : Nat} (h : d ≠ 0) : decide (sgnQ (mkRat n d) < 0) = decide (n < 0) := by
  rw [sgnQ_mk n h]
  rcases sgn_cases n with ⟨h1, h2⟩ | ⟨h1, h2⟩ | ⟨h1, h2⟩ <;> rw [h2]
  · simp [h1]
  · rw [h1]
  · rw [decide_eq_false (show ¬ (1 : Int) < 0 by decide), decide_eq_false (by omega)]
theorem sgnQ_dec (q : Rat) : decide (sgnQ q < 0) = decide (q < 0) := by
  rcases sgnQ_cases q with ⟨h1, h2⟩ | ⟨h1, h2⟩ | ⟨h1, h2⟩ <;> rw [h2]
  · simp [h1]
  · simp [h1]
  · simp
    exact Rat.not_lt.2 (Rat.le_of_lt h1)
/-- what a rounded text looks like: its sign, and where its point stands -/
theorem near_text (q : Rat) (k : Nat) : ∃ (b : Bool) (P : Nat), decide (sgnQ (rdQ q k) < 0) = b ∧ 0 < (roT q k).size ∧ (∀ h : 0 < (roT q k).size, (((roT q k)[0].toNat : Int) == 45) = b) ∧
    (∀ j, j < (roT q k).size → ((by' (roT q k)).getD j 0 = 46 ↔ j = P)) ∧ (k = 0 → P = (roT q k).size) ∧ (k ≠ 0 → P + k + 1 = (roT q k).size) := by
  obtain ⟨b, hb⟩ : ∃ b, (decide (q.num < 0) && decide (rdN q.num.natAbs q.den k ≠ 0)) = b := ⟨_, rfl⟩
  have hby := roT_by q k
  have hs : decide (sgnQ (rdQ q k) < 0) = b := by
    unfold rdQ
    rw [sgnQ_mk' _ (Nat.ne_of_gt (Nat.pow_pos (by decide))), ← hb]
    generalize rdN q.num.natAbs q.den k = r
    unfold zv
    by_cases h : q.num < 0
    · simp only [h, decide_true, if_true, Bool.true_and]
      congr 1
      simp; omega
    · simp [h]
  rw [hb] at hby
  generalize rdN q.num.natAbs q.den k = r at *
  generalize roT q k = S at *
  have hlen : S.size = (ptd r k).length + (if b = true then 1 else 0) := by
    rw [← by_len, hby]
    unfold sgn1
    split <;> simp
  have hpos : 0 < (ptd r k).length := by
    obtain ⟨c, t, h1, _⟩ := ptd_head r k
    rw [h1]; simp
  refine ⟨b, ptP r k + (if b = true then 1 else 0), hs, by omega, fun h => ?_, fun j hj => ?_, fun hk => ?_, fun hk => ?_⟩
  · have hc := be_cons h
    rw [hby] at hc
    cases b
    · obtain ⟨c, t, h1, h2, h3⟩ := ptd_head r k
      rw [show sgn1 false (ptd r k) = ptd r k from rfl, h1] at hc
      injection hc with hc _
      simp; omega
    · rw [show sgn1 true (ptd r k) = 45 :: ptd r k from rfl] at hc
      injection hc with hc _
      simp; omega
  · rw [hby]
    cases b
    · rw [show sgn1 false (ptd r k) = ptd r k from rfl]
      have := ptd_point r k j (by rw [hlen] at hj; simpa using hj)
      simpa using this
    · rw [show sgn1 true (ptd r k) = 45 :: ptd r k from rfl]
      cases j with
      | zero => simp
      | succ j =>
        have := ptd_point r k j (by rw [hlen] at hj; simpa using hj)
        simp at this ⊢
        exact this
  · rw [hlen]
    unfold ptP
    rw [if_pos hk]
  · have := ptP_lt (v := r) hk
    omega

section
variable {P : Program} {md : Region.Mode} {ops : Array Oper} {Q : Exit → Act → World → Prop} {S : World → Prop} {i fuel : Nat} {oi : Oper} {d : Option Tmp} {v : Value} {listed : Array Bool} {a : Act} {w : World}
theorem take_run (hi : ops[i]? = some oi) (hd : oi.dst = d) (hs : Region.noSelect ops = true) (hf : Region.free md ops listed i = true) (hr : (Region.ready md ops listed).contains i = true)
    (hQ : ∀ c a w, Q (.panic c) (a.put d v) w → Q (.panic c) a w) (hw : Region.wanted oi (yielded ops a.tmps) = true) (hv : ∀ w, S w → (execOp a.eval oi).run P w = .ok (.value v) w) (hS : S w)
    (h : wpAnyH P md ops Q S fuel (listed.setIfInBounds i true) (a.put d v) w) : wpAnyH P md ops Q S (fuel + 1) listed a w := by
  subst hd
  exact wpAnyH_take hi hs hf hr hQ (.inl ⟨hw, hv⟩) hS h
theorem take_skip (hi : ops[i]? = some oi) (hd : oi.dst = d) (hs : Region.noSelect ops = true) (hf : Region.free md ops listed i = true) (hr : (Region.ready md ops listed).contains i = true)
    (hQ : ∀ c a w, Q (.panic c) (a.put d undef) w → Q (.panic c) a w) (hw : Region.wanted oi (yielded ops a.tmps) = false) (hS : S w)
    (h : wpAnyH P md ops Q S fuel (listed.setIfInBounds i true) (a.put d undef) w) : wpAnyH P md ops Q S (fuel + 1) listed a w := by
  subst hd
  exact wpAnyH_take hi hs hf hr hQ (.inr ⟨hw, rfl⟩) hS h
end

set_option maxRecDepth 100000 in
set_option maxHeartbeats 8000000 in
theorem dnear_00 {w : World} {q : Rat} {s : Bool} {a b : Option Addr} {n c m d : Nat} (z : Int) (h1 : -9223372036854775808 ≤ z) (h2 : z ≤ 9223372036854775807) (HF : Hid (∀ W, Below w.heap.size w W → Calls Try.prog 59 #[.agg #[.bool s, .slice a n c, .slice b m d]] W (fun e w' => RetQ W q e w'))) (hqs : QS q 20) (N : Nat) (hN : bdN z 200 = (N : Int)) (hN2 : N ≤ 200) (hoff : ¬ rdQ q N - q < 0) (hneg : ¬ q < 0) :
    Calls Try.prog 13 #[.agg #[.bool s, .slice a n c, .slice b m d], .int .i64 z] w (fun e w' => e = .returned (.bool true) ∧ Below w.heap.size w w') := by
  have HB := hid (fun w => lbound (w := w) z 200 h1 h2 (by omega) (by omega))
  rw [hN] at HB
  obtain ⟨bb, P, hsy, hS0, hSb, hpt, hPz, hPn⟩ := near_text q N
  have hsz := near_size hqs hN2
  obtain ⟨hd1, hd2⟩ := near_back q N
  have HP := hid (fun w => dparse (w := w) (roT q N) hsz)
  rw [hd1, hd2] at HP
  have HR := hid (fun (W : World) {a' b' : Option Addr} {n' c' m' d' : Nat} (h : RdQ 20 W (decide (q.num < 0)) a' n' c' b' m' d' q) => dround h (by omega) N (by omega))
  have hys := rdQ_qs hqs hN2
  have hnear := near_law q N
  have hon : decide (sgnQ (rdQ q N - q) < 0) = false := by rw [sgnQ_dec]; simp [hoff]
  have hqn : decide (sgnQ q < 0) = false := by rw [sgnQ_dec]; simp [hneg]
  have hof : offQ q (rdQ q N) = rdQ q N - q := by unfold offQ; rw [if_neg hoff]
  rw [hof] at hnear
  clear hd1 hd2 hof hoff hN
  generalize rdQ q N = y at *
  generalize roT q N = S at *
  obtain ⟨hl, ho⟩ := hnear
  have ho2 := hid (fun h => (ho h).2 hneg)
  clear ho
  have hpt := hid hpt
  have hPz := hid hPz
  have hPn := hid hPn
  have hx0 := hSb hS0
  have hne := be_ne (s := S) (by omega)
  have hbb : (bb != bb) = false := by simp
  clear hSb hneg
  have hent := ent1 w #[Value.bool s, Value.slice a n c, Value.slice b m d] 29
  go_enter Try.func13, Try.ntmps13
  go_wp2_with fail
  generalize (w.alloc (.cells #[Value.bool s, Value.slice a n c, Value.slice b m d] 29)) = W0 at hent ⊢
  obtain ⟨X_0, hbel_0, hsz_0⟩ := hent
  go_wp2_with fail
  refine (lalive).mono ?_
  rintro e w1 ⟨rfl, hB⟩
  have hB_1 : Below W0.heap.size W0 w1 := (bl.next hB)
  have X_1 := X_0.next hB_1
  have hbel_1 := hbel_0.next hB_1
  have hsz_1 := hB_1.size
  clear X_0 hbel_0 hB_1
  try clear hB
  have cX_1_0 : _ = some (Value.bool s) := X_1.cell 0
  have cX_1_1 : _ = some (Value.slice a n c) := X_1.cell 1
  have cX_1_2 : _ = some (Value.slice b m d) := X_1.cell 2
  go_wp2_with fail
  refine (HF.out _ hbel_1).mono ?_
  rintro e w2 ⟨xa, xn, xc, xb, xm, xd, rfl, hO, hO', hDx, hB⟩
  have hB_2 : Below w1.heap.size w1 w2 := (bl.next hB)
  have X_2 := X_1.next hB_2
  have hbel_2 := hbel_1.next hB_2
  have hsz_2 := hB_2.size
  clear X_1 cX_1_0 cX_1_1 cX_1_2 hbel_1 hB_2
  have Ox_2 := hO
  have ltOx := hO.ltB
  have Px_2 := hO'
  have ltPx := hO'.ltB
  clear hO hO'
  try clear hB
  have hbx := blk_new w2 #[Value.bool (decide (q.num < 0)), Value.slice xa xn xc, Value.slice xb xm xd] 29
  have hbB := (Below.refl w2.heap.size w2).alloc (Nat.le_refl _) (.cells #[Value.bool (decide (q.num < 0)), Value.slice xa xn xc, Value.slice xb xm xd] 29)
  have hltQ := hbx.lt
  have hB_3 : Below w2.heap.size w2 (w2.alloc (.cells #[Value.bool (decide (q.num < 0)), Value.slice xa xn xc, Value.slice xb xm xd] 29)) := hbB
  have X_3 := X_2.next hB_3
  have Ox_3 := Ox_2.below hB_3
  have Px_3 := Px_2.below hB_3
  have hbel_3 := hbel_2.next hB_3
  have hsz_3 := hB_3.size
  clear hB_3
  have Q_3 := hbx
  clear hbx hbB
  go_wp2_with fail
  clear X_2 Ox_2 Px_2 hbel_2
  generalize (w2.alloc (.cells #[Value.bool (decide (q.num < 0)), Value.slice xa xn xc, Value.slice xb xm xd] 29)) = v3 at *
  go_wp2_with fail
  refine (HB.out _).mono ?_
  rintro e w4 ⟨rfl, hB⟩
  have hB_4 : Below v3.heap.size v3 w4 := (bl.next hB)
  have X_4 := X_3.next hB_4
  have Q_4 := Q_3.next hB_4
  have Ox_4 := Ox_3.below hB_4
  have Px_4 := Px_3.below hB_4
  have hbel_4 := hbel_3.next hB_4
  have hsz_4 := hB_4.size
  clear X_3 Q_3 Ox_3 Px_3 hbel_3 hB_4
  try clear hB
  have cQ_4_0 : _ = some (Value.bool (decide (q.num < 0))) := Q_4.cell 0
  have cQ_4_1 : _ = some (Value.slice xa xn xc) := Q_4.cell 1
  have cQ_4_2 : _ = some (Value.slice xb xm xd) := Q_4.cell 2
  go_wp2_with fail
  refine (HR.out _ (Ox_4.rdQ Px_4 hqs)).mono ?_
  rintro e w5 ⟨rfl, hB⟩
  have hB_5 : Below w4.heap.size w4 w5 := (bl.next hB)
  have X_5 := X_4.next hB_5
  have Q_5 := Q_4.next hB_5
  have Ox_5 := Ox_4.below hB_5
  have Px_5 := Px_4.below hB_5
  have hbel_5 := hbel_4.next hB_5
  have hsz_5 := hB_5.size
  clear X_4 Q_4 cQ_4_0 cQ_4_1 cQ_4_2 Ox_4 Px_4 hbel_4 hB_5
  try clear hB
  go_wp2_with fail
  refine (HP.out _).mono ?_
  rintro e w6 ⟨ya, yn, yc, yb, ym, yd, rfl, hO, hO', hDy, hB⟩
  have hB_6 : Below w5.heap.size w5 w6 := (bl.next hB)
  have X_6 := X_5.next hB_6
  have Q_6 := Q_5.next hB_6
  have Ox_6 := Ox_5.below hB_6
  have Px_6 := Px_5.below hB_6
  have hbel_6 := hbel_5.next hB_6
  have hsz_6 := hB_6.size
  clear X_5 Q_5 Ox_5 Px_5 hbel_5 hB_6
  have Oy_6 := hO
  have ltOy := hO.ltB
  have Py_6 := hO'
  have ltPy := hO'.ltB
  clear hO hO'
  try clear hB
  have hbx := blk_new w6 #[Value.bool (qsg y 0), Value.slice ya yn yc, Value.slice yb ym yd] 29
  have hbB := (Below.refl w6.heap.size w6).alloc (Nat.le_refl _) (.cells #[Value.bool (qsg y 0), Value.slice ya yn yc, Value.slice yb ym yd] 29)
  have hltY := hbx.lt
  have hB_7 : Below w6.heap.size w6 (w6.alloc (.cells #[Value.bool (qsg y 0), Value.slice ya yn yc, Value.slice yb ym yd] 29)) := hbB
  have X_7 := X_6.next hB_7
  have Q_7 := Q_6.next hB_7
  have Ox_7 := Ox_6.below hB_7
  have Px_7 := Px_6.below hB_7
  have Oy_7 := Oy_6.below hB_7
  have Py_7 := Py_6.below hB_7
  have hbel_7 := hbel_6.next hB_7
  have hsz_7 := hB_7.size
  clear hB_7
  have Y_7 := hbx
  clear hbx hbB
  go_wp2_with fail
  clear X_6 Q_6 Ox_6 Px_6 Oy_6 Py_6 hbel_6
  generalize (w6.alloc (.cells #[Value.bool (qsg y 0), Value.slice ya yn yc, Value.slice yb ym yd] 29)) = v7 at *
  rw [qnl_ok] at Oy_7
  rw [qdl_ok] at Py_7
  rw [qsg_ok] at Y_7
  have hf1 : ((0 : Int) != 0) = false := by decide
  go_wp2_with fail
  obtain ⟨W0, hW0⟩ : ∃ y : World, y = v7 := ⟨_, rfl⟩
  subst hW0
  go_loopw [12, 13] (fun pv iv wr => ∃ (i : Nat) (pz : Int), i ≤ S.size ∧ iv = .int .i64 i ∧ pv = .int .i64 pz ∧ Hid ((P < i ∧ pz = (P : Int)) ∨ (i ≤ P ∧ pz = -1)) ∧ wr = W0) (fun _ iv _ => S.size - (intOf iv).toNat)
  case atStart => exact ⟨0, -1, by omega, rfl, rfl, .inr ⟨by omega, rfl⟩, rfl⟩
  case round =>
    obtain ⟨i, pz, hi, rfl, rfl, hpz, hwr⟩ := hrel
    subst hwr
    by_cases hlt : i < S.size
    · have hx := by_get S i hlt
      obtain ⟨xx, hxe⟩ : ∃ x, S[i].toNat = x := ⟨_, rfl⟩
      have hp := hpt.out i hlt
      rw [hx, hxe] at hp
      by_cases h46 : xx = 46
      · have hd : ((xx : Int) == 46) = true := by simp [h46]
        have hn : Hid ((P < i + 1 ∧ (i : Int) = (P : Int)) ∨ (i + 1 ≤ P ∧ (i : Int) = -1)) := by have := hp.1 h46; exact .inl ⟨by omega, by omega⟩
        clear hp hx hpz h46
        go_wp2
        go_roundw
        case rel => exact ⟨i + 1, i, by omega, by go_num, rfl, hn, by first | trivial | rfl⟩
        case measure => simp [intOf]; omega
      · have hd : ((xx : Int) == 46) = false := by simp; omega
        have hn : Hid ((P < i + 1 ∧ pz = (P : Int)) ∨ (i + 1 ≤ P ∧ pz = -1)) := by
          have h1 := mt hp.2 h46
          rcases hpz.out with ⟨h2, h3⟩ | ⟨h2, h3⟩
          · exact .inl ⟨by omega, h3⟩
          · exact .inr ⟨by omega, h3⟩
        clear hp hx hpz h46
        go_wp2
        go_roundw
        case rel => exact ⟨i + 1, pz, by omega, by go_num, rfl, hn, by first | trivial | rfl⟩
        case measure => simp [intOf]; omega
    · obtain rfl : i = S.size := by omega
      have hpv : (N = 0 → pz = -1) ∧ (N ≠ 0 → pz = ((S.size - N - 1 : Nat) : Int) ∧ N + 1 ≤ S.size) := by
        have h1 := hPz.out
        have h2 := hPn.out
        rcases hpz.out with ⟨h3, h4⟩ | ⟨h3, h4⟩
        · exact ⟨fun e => by have := h1 e; omega, fun e => by have := h2 e; omega⟩
        · exact ⟨fun e => h4, fun e => by have := h2 e; omega⟩
      obtain ⟨c0, hc0⟩ : ∃ x, S[0].toNat = x := ⟨_, rfl⟩
      rw [hc0] at hx0
      clear hpt hPz hPn hpz hlt
      go_upto_region 14 with fail
      go_cut [86] (fun s86 wx => s86 = .bool false ∧ Below wr.heap.size wr wx)
      case first =>
        by_cases hN0 : N = 0
        · have hpz := hpv.1 hN0
          subst hpz
          have hn1 : ((N : Int) == 0) = true := by simp; omega
          have hn2 : decide ((0 : Int) < (N : Int)) = false := by simp; omega
          have hn3 : decide (0 < N) = false := by simp; omega
          clear hpv hN0
          have hbR_7 : Below wr.heap.size wr wr := Below.refl _ _
          have cY_7_0 : _ = some (Value.bool (decide (y.num < 0))) := Y_7.cell 0
          have cY_7_1 : _ = some (Value.slice ya yn yc) := Y_7.cell 1
          have cY_7_2 : _ = some (Value.slice yb ym yd) := Y_7.cell 2
          refine wp_region_noPanic ?_
          refine wp_region_held_drew (S := (fun w' => w'.cell? ⟨w6.heap.size, 0, none⟩ = some (Value.bool (decide (y.num < 0))) ∧ w'.cell? ⟨w6.heap.size, 1, none⟩ = some (Value.slice ya yn yc) ∧ w'.cell? ⟨w6.heap.size, 2, none⟩ = some (Value.slice yb ym yd))) (by kernel_rfl) ⟨cY_7_0, cY_7_1, cY_7_2⟩ (fun hHeld => ?_)
          refine take_run (i := 0) (d := some 59) (v := .int .i64 (N : Int)) rfl rfl (by kernel_rfl) (by kernel_rfl) (by kernel_rfl) (fun _ _ _ h => h) (by rfl) (fun w hSw => by (try dsimp only at hSw); go_simp) (by assumption) ?_
          (try simp only [Act.put, List.setIfInBounds_toArray, List.set_cons_zero, List.set_cons_succ])
          refine take_run (i := 1) (d := some 60) (v := .bool true) rfl rfl (by kernel_rfl) (by kernel_rfl) (by kernel_rfl) (fun _ _ _ h => h) (by rfl) (fun w hSw => by (try dsimp only at hSw); go_simp) (by assumption) ?_
          (try simp only [Act.put, List.setIfInBounds_toArray, List.set_cons_zero, List.set_cons_succ])
          refine take_run (i := 2) (d := some 61) (v := .bool true) rfl rfl (by kernel_rfl) (by kernel_rfl) (by kernel_rfl) (fun _ _ _ h => h) (by rfl) (fun w hSw => by (try dsimp only at hSw); go_simp) (by assumption) ?_
          (try simp only [Act.put, List.setIfInBounds_toArray, List.set_cons_zero, List.set_cons_succ])
          refine take_run (i := 3) (d := some 62) (v := .int .i64 (-1)) rfl rfl (by kernel_rfl) (by kernel_rfl) (by kernel_rfl) (fun _ _ _ h => h) (by rfl) (fun w hSw => by (try dsimp only at hSw); go_simp) (by assumption) ?_
          (try simp only [Act.put, List.setIfInBounds_toArray, List.set_cons_zero, List.set_cons_succ])
          refine take_run (i := 4) (d := some 63) (v := .bool false) rfl rfl (by kernel_rfl) (by kernel_rfl) (by kernel_rfl) (fun _ _ _ h => h) (by rfl) (fun w hSw => by (try dsimp only at hSw); go_simp) (by assumption) ?_
          (try simp only [Act.put, List.setIfInBounds_toArray, List.set_cons_zero, List.set_cons_succ])
          refine take_run (i := 5) (d := some 64) (v := .bool false) rfl rfl (by kernel_rfl) (by kernel_rfl) (by kernel_rfl) (fun _ _ _ h => h) (by rfl) (fun w hSw => by (try dsimp only at hSw); go_simp) (by assumption) ?_
          (try simp only [Act.put, List.setIfInBounds_toArray, List.set_cons_zero, List.set_cons_succ])
          refine take_run (i := 6) (d := some 65) (v := .bool false) rfl rfl (by kernel_rfl) (by kernel_rfl) (by kernel_rfl) (fun _ _ _ h => h) (by rfl) (fun w hSw => by (try dsimp only at hSw); go_simp) (by assumption) ?_
          (try simp only [Act.put, List.setIfInBounds_toArray, List.set_cons_zero, List.set_cons_succ])
          refine take_run (i := 7) (d := some 66) (v := .int .i64 (N : Int)) rfl rfl (by kernel_rfl) (by kernel_rfl) (by kernel_rfl) (fun _ _ _ h => h) (by rfl) (fun w hSw => by (try dsimp only at hSw); go_simp) (by assumption) ?_
          (try simp only [Act.put, List.setIfInBounds_toArray, List.set_cons_zero, List.set_cons_succ])
          refine take_run (i := 8) (d := some 67) (v := .bool false) rfl rfl (by kernel_rfl) (by kernel_rfl) (by kernel_rfl) (fun _ _ _ h => h) (by rfl) (fun w hSw => by (try dsimp only at hSw); go_simp) (by assumption) ?_
          (try simp only [Act.put, List.setIfInBounds_toArray, List.set_cons_zero, List.set_cons_succ])
          refine take_run (i := 9) (d := some 68) (v := .bool false) rfl rfl (by kernel_rfl) (by kernel_rfl) (by kernel_rfl) (fun _ _ _ h => h) (by rfl) (fun w hSw => by (try dsimp only at hSw); go_simp) (by assumption) ?_
          (try simp only [Act.put, List.setIfInBounds_toArray, List.set_cons_zero, List.set_cons_succ])
          refine take_skip (i := 10) (d := some 69) rfl rfl (by kernel_rfl) (by kernel_rfl) (by kernel_rfl) (fun _ _ _ h => h) (by rfl) (by assumption) ?_
          (try simp only [Act.put, List.setIfInBounds_toArray, List.set_cons_zero, List.set_cons_succ])
          refine take_skip (i := 11) (d := some 70) rfl rfl (by kernel_rfl) (by kernel_rfl) (by kernel_rfl) (fun _ _ _ h => h) (by rfl) (by assumption) ?_
          (try simp only [Act.put, List.setIfInBounds_toArray, List.set_cons_zero, List.set_cons_succ])
          refine take_skip (i := 12) (d := some 71) rfl rfl (by kernel_rfl) (by kernel_rfl) (by kernel_rfl) (fun _ _ _ h => h) (by rfl) (by assumption) ?_
          (try simp only [Act.put, List.setIfInBounds_toArray, List.set_cons_zero, List.set_cons_succ])
          refine take_skip (i := 13) (d := some 72) rfl rfl (by kernel_rfl) (by kernel_rfl) (by kernel_rfl) (fun _ _ _ h => h) (by rfl) (by assumption) ?_
          (try simp only [Act.put, List.setIfInBounds_toArray, List.set_cons_zero, List.set_cons_succ])
          refine take_skip (i := 14) (d := some 73) rfl rfl (by kernel_rfl) (by kernel_rfl) (by kernel_rfl) (fun _ _ _ h => h) (by rfl) (by assumption) ?_
          (try simp only [Act.put, List.setIfInBounds_toArray, List.set_cons_zero, List.set_cons_succ])
          refine take_skip (i := 15) (d := some 74) rfl rfl (by kernel_rfl) (by kernel_rfl) (by kernel_rfl) (fun _ _ _ h => h) (by rfl) (by assumption) ?_
          (try simp only [Act.put, List.setIfInBounds_toArray, List.set_cons_zero, List.set_cons_succ])
          refine take_skip (i := 16) (d := some 75) rfl rfl (by kernel_rfl) (by kernel_rfl) (by kernel_rfl) (fun _ _ _ h => h) (by rfl) (by assumption) ?_
          (try simp only [Act.put, List.setIfInBounds_toArray, List.set_cons_zero, List.set_cons_succ])
          refine take_run (i := 17) (d := some 76) (v := .bool false) rfl rfl (by kernel_rfl) (by kernel_rfl) (by kernel_rfl) (fun _ _ _ h => h) (by rfl) (fun w hSw => by (try dsimp only at hSw); go_simp) (by assumption) ?_
          (try simp only [Act.put, List.setIfInBounds_toArray, List.set_cons_zero, List.set_cons_succ])
          refine take_run (i := 18) (d := some 77) (v := .bool false) rfl rfl (by kernel_rfl) (by kernel_rfl) (by kernel_rfl) (fun _ _ _ h => h) (by rfl) (fun w hSw => by (try dsimp only at hSw); go_simp) (by assumption) ?_
          (try simp only [Act.put, List.setIfInBounds_toArray, List.set_cons_zero, List.set_cons_succ])
          refine take_run (i := 19) (d := some 78) (v := .bool false) rfl rfl (by kernel_rfl) (by kernel_rfl) (by kernel_rfl) (fun _ _ _ h => h) (by rfl) (fun w hSw => by (try dsimp only at hSw); go_simp) (by assumption) ?_
          (try simp only [Act.put, List.setIfInBounds_toArray, List.set_cons_zero, List.set_cons_succ])
          refine take_run (i := 20) (d := some 79) (v := .agg #[Value.bool (decide (y.num < 0)), Value.slice ya yn yc, Value.slice yb ym yd]) rfl rfl (by kernel_rfl) (by kernel_rfl) (by kernel_rfl) (fun _ _ _ h => h) (by rfl) (fun w hSw => by (try dsimp only at hSw); go_simp) (by assumption) ?_
          (try simp only [Act.put, List.setIfInBounds_toArray, List.set_cons_zero, List.set_cons_succ])
          refine take_run (i := 23) (d := some 82) (v := .string S) rfl rfl (by kernel_rfl) (by kernel_rfl) (by kernel_rfl) (fun _ _ _ h => h) (by rfl) (fun w hSw => by (try dsimp only at hSw); go_simp) (by assumption) ?_
          (try simp only [Act.put, List.setIfInBounds_toArray, List.set_cons_zero, List.set_cons_succ])
          refine take_run (i := 24) (d := some 83) (v := .int .u8 (c0 : Int)) rfl rfl (by kernel_rfl) (by kernel_rfl) (by kernel_rfl) (fun _ _ _ h => h) (by rfl) (fun w hSw => by (try dsimp only at hSw); go_simp) (by assumption) ?_
          (try simp only [Act.put, List.setIfInBounds_toArray, List.set_cons_zero, List.set_cons_succ])
          refine take_run (i := 25) (d := some 84) (v := .bool bb) rfl rfl (by kernel_rfl) (by kernel_rfl) (by kernel_rfl) (fun _ _ _ h => h) (by rfl) (fun w hSw => by (try dsimp only at hSw); go_simp) (by assumption) ?_
          (try simp only [Act.put, List.setIfInBounds_toArray, List.set_cons_zero, List.set_cons_succ])
          refine wpAnyH_ready (rs := [21]) (by kernel_rfl) (by simp) ?_
          refine AllReadyH.cons (o := _) rfl (fun K hK => ?_) AllReadyH.nil
          go_simp
          refine (qsign ((Oy_7.below bl).rdQ (Py_7.below bl) hys) (by omega)).mono ?_
          rintro e w8 ⟨rfl, hB⟩
          have hB_8 : Below wr.heap.size wr w8 := (bl.next hB)
          have X_8 := X_7.next hB_8
          have Q_8 := Q_7.next hB_8
          have Y_8 := Y_7.next hB_8
          have cY_8_0 : _ = some (Value.bool (decide (y.num < 0))) := Y_8.cell 0
          have cY_8_1 : _ = some (Value.slice ya yn yc) := Y_8.cell 1
          have cY_8_2 : _ = some (Value.slice yb ym yd) := Y_8.cell 2
          have Ox_8 := Ox_7.below hB_8
          have Px_8 := Px_7.below hB_8
          have Oy_8 := Oy_7.below hB_8
          have Py_8 := Py_7.below hB_8
          have hbR_8 := hbR_7.next hB_8
          have hbel_8 := hbel_7.next hB_8
          have hsz_8 := hB_8.size
          clear X_7 Q_7 Y_7 cY_7_0 cY_7_1 cY_7_2 Ox_7 Px_7 Oy_7 Py_7 hbR_7 hbel_7 hB_8
          try clear hB
          (try go_wp2_with fail)
          refine hK.out _ _ ⟨cY_8_0, cY_8_1, cY_8_2⟩ (fun hHeld2 => ?_)
          clear hK K hHeld
          (try simp only [Act.put, List.setIfInBounds_toArray, List.set_cons_zero, List.set_cons_succ])
          refine take_run (i := 22) (d := some 81) (v := .bool bb) rfl rfl (by kernel_rfl) (by kernel_rfl) (by kernel_rfl) (fun _ _ _ h => h) (by rfl) (fun w hSw => by (try dsimp only at hSw); go_simp) (by assumption) ?_
          (try simp only [Act.put, List.setIfInBounds_toArray, List.set_cons_zero, List.set_cons_succ])
          refine take_run (i := 26) (d := some 85) (v := .bool false) rfl rfl (by kernel_rfl) (by kernel_rfl) (by kernel_rfl) (fun _ _ _ h => h) (by rfl) (fun w hSw => by (try dsimp only at hSw); go_simp) (by assumption) ?_
          (try simp only [Act.put, List.setIfInBounds_toArray, List.set_cons_zero, List.set_cons_succ])
          refine take_run (i := 27) (d := some 86) (v := .bool false) rfl rfl (by kernel_rfl) (by kernel_rfl) (by kernel_rfl) (fun _ _ _ h => h) (by rfl) (fun w hSw => by (try dsimp only at hSw); go_simp) (by assumption) ?_
          (try simp only [Act.put, List.setIfInBounds_toArray, List.set_cons_zero, List.set_cons_succ])
          refine wpAnyH_done (by kernel_rfl) ?_ _
          refine NoPanic.normal ?_
          clear hn1 hn2 hn3
          all_goals (go_wp2_with fail; go_meet; exact ⟨rfl, hbR_8⟩)
        · obtain ⟨hpz, hNS⟩ := hpv.2 hN0
          obtain ⟨m2, hm2⟩ : ∃ y, S.size - N - 1 = y := ⟨_, rfl⟩
          obtain ⟨m3, hm3⟩ : ∃ y, S.size - N = y := ⟨_, rfl⟩
          rw [hm2] at hpz
          subst hpz
          have hn1 : ((N : Int) == 0) = false := by simp; omega
          have hn2 : decide ((0 : Int) < (N : Int)) = true := by simp; omega
          have hn3 : decide (0 < N) = true := by simp; omega
          have hw1 : IntKind.i64.wrap ((S.size : Int) - (N : Int)) = (m3 : Int) := by rw [IntKind.wrap_i64]; omega
          have hw2 : IntKind.i64.wrap ((m3 : Int) - 1) = (m2 : Int) := by rw [IntKind.wrap_i64]; omega
          have hw3 : ((m2 : Int) != (m2 : Int)) = false := by simp
          clear hm2 hm3 hpv hN0
          have hbR_7 : Below wr.heap.size wr wr := Below.refl _ _
          have cY_7_0 : _ = some (Value.bool (decide (y.num < 0))) := Y_7.cell 0
          have cY_7_1 : _ = some (Value.slice ya yn yc) := Y_7.cell 1
          have cY_7_2 : _ = some (Value.slice yb ym yd) := Y_7.cell 2
          refine wp_region_noPanic ?_
          refine wp_region_held_drew (S := (fun w' => w'.cell? ⟨w6.heap.size, 0, none⟩ = some (Value.bool (decide (y.num < 0))) ∧ w'.cell? ⟨w6.heap.size, 1, none⟩ = some (Value.slice ya yn yc) ∧ w'.cell? ⟨w6.heap.size, 2, none⟩ = some (Value.slice yb ym yd))) (by kernel_rfl) ⟨cY_7_0, cY_7_1, cY_7_2⟩ (fun hHeld => ?_)
          refine take_run (i := 0) (d := some 59) (v := .int .i64 (N : Int)) rfl rfl (by kernel_rfl) (by kernel_rfl) (by kernel_rfl) (fun _ _ _ h => h) (by rfl) (fun w hSw => by (try dsimp only at hSw); go_simp) (by assumption) ?_
          (try simp only [Act.put, List.setIfInBounds_toArray, List.set_cons_zero, List.set_cons_succ])
          refine take_run (i := 1) (d := some 60) (v := .bool false) rfl rfl (by kernel_rfl) (by kernel_rfl) (by kernel_rfl) (fun _ _ _ h => h) (by rfl) (fun w hSw => by (try dsimp only at hSw); go_simp) (by assumption) ?_
          (try simp only [Act.put, List.setIfInBounds_toArray, List.set_cons_zero, List.set_cons_succ])
          refine take_run (i := 2) (d := some 61) (v := .bool false) rfl rfl (by kernel_rfl) (by kernel_rfl) (by kernel_rfl) (fun _ _ _ h => h) (by rfl) (fun w hSw => by (try dsimp only at hSw); go_simp) (by assumption) ?_
          (try simp only [Act.put, List.setIfInBounds_toArray, List.set_cons_zero, List.set_cons_succ])
          refine take_skip (i := 3) (d := some 62) rfl rfl (by kernel_rfl) (by kernel_rfl) (by kernel_rfl) (fun _ _ _ h => h) (by rfl) (by assumption) ?_
          (try simp only [Act.put, List.setIfInBounds_toArray, List.set_cons_zero, List.set_cons_succ])
          refine take_skip (i := 4) (d := some 63) rfl rfl (by kernel_rfl) (by kernel_rfl) (by kernel_rfl) (fun _ _ _ h => h) (by rfl) (by assumption) ?_
          (try simp only [Act.put, List.setIfInBounds_toArray, List.set_cons_zero, List.set_cons_succ])
          refine take_run (i := 5) (d := some 64) (v := .bool false) rfl rfl (by kernel_rfl) (by kernel_rfl) (by kernel_rfl) (fun _ _ _ h => h) (by rfl) (fun w hSw => by (try dsimp only at hSw); go_simp) (by assumption) ?_
          (try simp only [Act.put, List.setIfInBounds_toArray, List.set_cons_zero, List.set_cons_succ])
          refine take_run (i := 6) (d := some 65) (v := .bool false) rfl rfl (by kernel_rfl) (by kernel_rfl) (by kernel_rfl) (fun _ _ _ h => h) (by rfl) (fun w hSw => by (try dsimp only at hSw); go_simp) (by assumption) ?_
          (try simp only [Act.put, List.setIfInBounds_toArray, List.set_cons_zero, List.set_cons_succ])
          refine take_run (i := 7) (d := some 66) (v := .int .i64 (N : Int)) rfl rfl (by kernel_rfl) (by kernel_rfl) (by kernel_rfl) (fun _ _ _ h => h) (by rfl) (fun w hSw => by (try dsimp only at hSw); go_simp) (by assumption) ?_
          (try simp only [Act.put, List.setIfInBounds_toArray, List.set_cons_zero, List.set_cons_succ])
          refine take_run (i := 8) (d := some 67) (v := .bool true) rfl rfl (by kernel_rfl) (by kernel_rfl) (by kernel_rfl) (fun _ _ _ h => h) (by rfl) (fun w hSw => by (try dsimp only at hSw); go_simp) (by assumption) ?_
          (try simp only [Act.put, List.setIfInBounds_toArray, List.set_cons_zero, List.set_cons_succ])
          refine take_run (i := 9) (d := some 68) (v := .bool true) rfl rfl (by kernel_rfl) (by kernel_rfl) (by kernel_rfl) (fun _ _ _ h => h) (by rfl) (fun w hSw => by (try dsimp only at hSw); go_simp) (by assumption) ?_
          (try simp only [Act.put, List.setIfInBounds_toArray, List.set_cons_zero, List.set_cons_succ])
          refine take_run (i := 10) (d := some 69) (v := .int .i64 (m2 : Int)) rfl rfl (by kernel_rfl) (by kernel_rfl) (by kernel_rfl) (fun _ _ _ h => h) (by rfl) (fun w hSw => by (try dsimp only at hSw); go_simp) (by assumption) ?_
          (try simp only [Act.put, List.setIfInBounds_toArray, List.set_cons_zero, List.set_cons_succ])
          refine take_run (i := 11) (d := some 70) (v := .string S) rfl rfl (by kernel_rfl) (by kernel_rfl) (by kernel_rfl) (fun _ _ _ h => h) (by rfl) (fun w hSw => by (try dsimp only at hSw); go_simp) (by assumption) ?_
          (try simp only [Act.put, List.setIfInBounds_toArray, List.set_cons_zero, List.set_cons_succ])
          refine take_run (i := 12) (d := some 71) (v := .int .i64 (S.size : Int)) rfl rfl (by kernel_rfl) (by kernel_rfl) (by kernel_rfl) (fun _ _ _ h => h) (by rfl) (fun w hSw => by (try dsimp only at hSw); go_simp) (by assumption) ?_
          (try simp only [Act.put, List.setIfInBounds_toArray, List.set_cons_zero, List.set_cons_succ])
          refine take_run (i := 13) (d := some 72) (v := .int .i64 (N : Int)) rfl rfl (by kernel_rfl) (by kernel_rfl) (by kernel_rfl) (fun _ _ _ h => h) (by rfl) (fun w hSw => by (try dsimp only at hSw); go_simp) (by assumption) ?_
          (try simp only [Act.put, List.setIfInBounds_toArray, List.set_cons_zero, List.set_cons_succ])
          refine take_run (i := 14) (d := some 73) (v := .int .i64 (m3 : Int)) rfl rfl (by kernel_rfl) (by kernel_rfl) (by kernel_rfl) (fun _ _ _ h => h) (by rfl) (fun w hSw => by (try dsimp only at hSw); go_simp) (by assumption) ?_
          (try simp only [Act.put, List.setIfInBounds_toArray, List.set_cons_zero, List.set_cons_succ])
          refine take_run (i := 15) (d := some 74) (v := .int .i64 (m2 : Int)) rfl rfl (by kernel_rfl) (by kernel_rfl) (by kernel_rfl) (fun _ _ _ h => h) (by rfl) (fun w hSw => by (try dsimp only at hSw); go_simp) (by assumption) ?_
          (try simp only [Act.put, List.setIfInBounds_toArray, List.set_cons_zero, List.set_cons_succ])
          refine take_run (i := 16) (d := some 75) (v := .bool false) rfl rfl (by kernel_rfl) (by kernel_rfl) (by kernel_rfl) (fun _ _ _ h => h) (by rfl) (fun w hSw => by (try dsimp only at hSw); go_simp) (by assumption) ?_
          (try simp only [Act.put, List.setIfInBounds_toArray, List.set_cons_zero, List.set_cons_succ])
          refine take_run (i := 17) (d := some 76) (v := .bool false) rfl rfl (by kernel_rfl) (by kernel_rfl) (by kernel_rfl) (fun _ _ _ h => h) (by rfl) (fun w hSw => by (try dsimp only at hSw); go_simp) (by assumption) ?_
          (try simp only [Act.put, List.setIfInBounds_toArray, List.set_cons_zero, List.set_cons_succ])
          refine take_run (i := 18) (d := some 77) (v := .bool false) rfl rfl (by kernel_rfl) (by kernel_rfl) (by kernel_rfl) (fun _ _ _ h => h) (by rfl) (fun w hSw => by (try dsimp only at hSw); go_simp) (by assumption) ?_
          (try simp only [Act.put, List.setIfInBounds_toArray, List.set_cons_zero, List.set_cons_succ])
          refine take_run (i := 19) (d := some 78) (v := .bool false) rfl rfl (by kernel_rfl) (by kernel_rfl) (by kernel_rfl) (fun _ _ _ h => h) (by rfl) (fun w hSw => by (try dsimp only at hSw); go_simp) (by assumption) ?_
          (try simp only [Act.put, List.setIfInBounds_toArray, List.set_cons_zero, List.set_cons_succ])
          refine take_run (i := 20) (d := some 79) (v := .agg #[Value.bool (decide (y.num < 0)), Value.slice ya yn yc, Value.slice yb ym yd]) rfl rfl (by kernel_rfl) (by kernel_rfl) (by kernel_rfl) (fun _ _ _ h => h) (by rfl) (fun w hSw => by (try dsimp only at hSw); go_simp) (by assumption) ?_
          (try simp only [Act.put, List.setIfInBounds_toArray, List.set_cons_zero, List.set_cons_succ])
          refine take_run (i := 23) (d := some 82) (v := .string S) rfl rfl (by kernel_rfl) (by kernel_rfl) (by kernel_rfl) (fun _ _ _ h => h) (by rfl) (fun w hSw => by (try dsimp only at hSw); go_simp) (by assumption) ?_
          (try simp only [Act.put, List.setIfInBounds_toArray, List.set_cons_zero, List.set_cons_succ])
          refine take_run (i := 24) (d := some 83) (v := .int .u8 (c0 : Int)) rfl rfl (by kernel_rfl) (by kernel_rfl) (by kernel_rfl) (fun _ _ _ h => h) (by rfl) (fun w hSw => by (try dsimp only at hSw); go_simp) (by assumption) ?_
          (try simp only [Act.put, List.setIfInBounds_toArray, List.set_cons_zero, List.set_cons_succ])
          refine take_run (i := 25) (d := some 84) (v := .bool bb) rfl rfl (by kernel_rfl) (by kernel_rfl) (by kernel_rfl) (fun _ _ _ h => h) (by rfl) (fun w hSw => by (try dsimp only at hSw); go_simp) (by assumption) ?_
          (try simp only [Act.put, List.setIfInBounds_toArray, List.set_cons_zero, List.set_cons_succ])
          refine wpAnyH_ready (rs := [21]) (by kernel_rfl) (by simp) ?_
          refine AllReadyH.cons (o := _) rfl (fun K hK => ?_) AllReadyH.nil
          go_simp
          refine (qsign ((Oy_7.below bl).rdQ (Py_7.below bl) hys) (by omega)).mono ?_
          rintro e w8 ⟨rfl, hB⟩
          have hB_8 : Below wr.heap.size wr w8 := (bl.next hB)
          have X_8 := X_7.next hB_8
          have Q_8 := Q_7.next hB_8
          have Y_8 := Y_7.next hB_8
          have cY_8_0 : _ = some (Value.bool (decide (y.num < 0))) := Y_8.cell 0
          have cY_8_1 : _ = some (Value.slice ya yn yc) := Y_8.cell 1
          have cY_8_2 : _ = some (Value.slice yb ym yd) := Y_8.cell 2
          have Ox_8 := Ox_7.below hB_8
          have Px_8 := Px_7.below hB_8
          have Oy_8 := Oy_7.below hB_8
          have Py_8 := Py_7.below hB_8
          have hbR_8 := hbR_7.next hB_8
          have hbel_8 := hbel_7.next hB_8
          have hsz_8 := hB_8.size
          clear X_7 Q_7 Y_7 cY_7_0 cY_7_1 cY_7_2 Ox_7 Px_7 Oy_7 Py_7 hbR_7 hbel_7 hB_8
          try clear hB
          (try go_wp2_with fail)
          refine hK.out _ _ ⟨cY_8_0, cY_8_1, cY_8_2⟩ (fun hHeld2 => ?_)
          clear hK K hHeld
          (try simp only [Act.put, List.setIfInBounds_toArray, List.set_cons_zero, List.set_cons_succ])
          refine take_run (i := 22) (d := some 81) (v := .bool bb) rfl rfl (by kernel_rfl) (by kernel_rfl) (by kernel_rfl) (fun _ _ _ h => h) (by rfl) (fun w hSw => by (try dsimp only at hSw); go_simp) (by assumption) ?_
          (try simp only [Act.put, List.setIfInBounds_toArray, List.set_cons_zero, List.set_cons_succ])
          refine take_run (i := 26) (d := some 85) (v := .bool false) rfl rfl (by kernel_rfl) (by kernel_rfl) (by kernel_rfl) (fun _ _ _ h => h) (by rfl) (fun w hSw => by (try dsimp only at hSw); go_simp) (by assumption) ?_
          (try simp only [Act.put, List.setIfInBounds_toArray, List.set_cons_zero, List.set_cons_succ])
          refine take_run (i := 27) (d := some 86) (v := .bool false) rfl rfl (by kernel_rfl) (by kernel_rfl) (by kernel_rfl) (fun _ _ _ h => h) (by rfl) (fun w hSw => by (try dsimp only at hSw); go_simp) (by assumption) ?_
          (try simp only [Act.put, List.setIfInBounds_toArray, List.set_cons_zero, List.set_cons_succ])
          refine wpAnyH_done (by kernel_rfl) ?_ _
          refine NoPanic.normal ?_
          clear hn1 hn2 hn3
          all_goals (go_wp2_with fail; go_meet; exact ⟨rfl, hbR_8⟩)
      case rest =>
        obtain ⟨rfl, hBx⟩ := hcut
        clear hpv
        have hB_8 : Below wr.heap.size wr wc := hBx
        have X_8 := X_7.next hB_8
        have Q_8 := Q_7.next hB_8
        have Y_8 := Y_7.next hB_8
        have Ox_8 := Ox_7.below hB_8
        have Px_8 := Px_7.below hB_8
        have Oy_8 := Oy_7.below hB_8
        have Py_8 := Py_7.below hB_8
        have hbel_8 := hbel_7.next hB_8
        have hsz_8 := hB_8.size
        clear X_7 Q_7 Y_7 Ox_7 Px_7 Oy_7 Py_7 hbel_7 hB_8
        clear hBx
        have cY_8_0 : _ = some (Value.bool (decide (y.num < 0))) := Y_8.cell 0
        have cY_8_1 : _ = some (Value.slice ya yn yc) := Y_8.cell 1
        have cY_8_2 : _ = some (Value.slice yb ym yd) := Y_8.cell 2
        have cQ_8_0 : _ = some (Value.bool (decide (q.num < 0))) := Q_8.cell 0
        have cQ_8_1 : _ = some (Value.slice xa xn xc) := Q_8.cell 1
        have cQ_8_2 : _ = some (Value.slice xb xm xd) := Q_8.cell 2
        go_wp2_with fail
        refine (qsub (Oy_8.rdQ Py_8 hys) (by omega) (Ox_8.rdQ Px_8 hqs) (by omega)).mono ?_
        rintro e w9 ⟨oa, on, oc, ob, om, od, rfl, hO, hO', hDo, hB⟩
        have hB_9 : Below wc.heap.size wc w9 := (bl.next hB)
        have X_9 := X_8.next hB_9
        have Q_9 := Q_8.next hB_9
        have Y_9 := Y_8.next hB_9
        have Ox_9 := Ox_8.below hB_9
        have Px_9 := Px_8.below hB_9
        have Oy_9 := Oy_8.below hB_9
        have Py_9 := Py_8.below hB_9
        have hbel_9 := hbel_8.next hB_9
        have hsz_9 := hB_9.size
        clear X_8 Q_8 cQ_8_0 cQ_8_1 cQ_8_2 Y_8 cY_8_0 cY_8_1 cY_8_2 Ox_8 Px_8 Oy_8 Py_8 hbel_8 hB_9
        have Oo_9 := hO
        have ltOo := hO.ltB
        have Po_9 := hO'
        have ltPo := hO'.ltB
        clear hO hO'
        try clear hB
        have hoqs := (hys.sub hqs).mono (show _ ≤ 100 by omega)
        generalize hoq : y - q = o at *
        clear hoq
        have hbx := blk_new w9 #[Value.bool (decide (o.num < 0)), Value.slice oa on oc, Value.slice ob om od] 29
        have hbB := (Below.refl w9.heap.size w9).alloc (Nat.le_refl _) (.cells #[Value.bool (decide (o.num < 0)), Value.slice oa on oc, Value.slice ob om od] 29)
        have hltO := hbx.lt
        have hB_10 : Below w9.heap.size w9 (w9.alloc (.cells #[Value.bool (decide (o.num < 0)), Value.slice oa on oc, Value.slice ob om od] 29)) := hbB
        have X_10 := X_9.next hB_10
        have Q_10 := Q_9.next hB_10
        have Y_10 := Y_9.next hB_10
        have Ox_10 := Ox_9.below hB_10
        have Px_10 := Px_9.below hB_10
        have Oy_10 := Oy_9.below hB_10
        have Py_10 := Py_9.below hB_10
        have Oo_10 := Oo_9.below hB_10
        have Po_10 := Po_9.below hB_10
        have hbel_10 := hbel_9.next hB_10
        have hsz_10 := hB_10.size
        clear hB_10
        have O_10 := hbx
        clear hbx hbB
        have cO_10_0 : _ = some (Value.bool (decide (o.num < 0))) := O_10.cell 0
        have fO_10_0 := O_10.free 0
        have cO_10_1 : _ = some (Value.slice oa on oc) := O_10.cell 1
        have fO_10_1 := O_10.free 1
        have cO_10_2 : _ = some (Value.slice ob om od) := O_10.cell 2
        have fO_10_2 := O_10.free 2
        go_wp2_with fail
        clear X_9 Q_9 Y_9 Ox_9 Px_9 Oy_9 Py_9 Oo_9 Po_9 hbel_9
        generalize (w9.alloc (.cells #[Value.bool (decide (o.num < 0)), Value.slice oa on oc, Value.slice ob om od] 29)) = v10 at *
        go_wp2_with fail
        refine (qsign (Oo_10.rdQ Po_10 hoqs) (by omega)).mono ?_
        rintro e w11 ⟨rfl, hB⟩
        have hB_11 : Below v10.heap.size v10 w11 := (bl.next hB)
        have X_11 := X_10.next hB_11
        have Q_11 := Q_10.next hB_11
        have Y_11 := Y_10.next hB_11
        have O_11 := O_10.next hB_11
        have Ox_11 := Ox_10.below hB_11
        have Px_11 := Px_10.below hB_11
        have Oy_11 := Oy_10.below hB_11
        have Py_11 := Py_10.below hB_11
        have Oo_11 := Oo_10.below hB_11
        have Po_11 := Po_10.below hB_11
        have hbel_11 := hbel_10.next hB_11
        have hsz_11 := hB_11.size
        clear X_10 Q_10 Y_10 O_10 cO_10_0 fO_10_0 cO_10_1 fO_10_1 cO_10_2 fO_10_2 Ox_10 Px_10 Oy_10 Py_10 Oo_10 Po_10 hbel_10 hB_11
        try clear hB
        obtain ⟨T, hT⟩ : ∃ T, 10 ^ N = T := ⟨_, rfl⟩
        have hTs : Sz T 24 := by rw [← hT]; exact (ten_sz9 N).mono (Nat.le_refl _) (by omega)
        have hTn : T ≠ 0 := by rw [← hT]; exact Nat.ne_of_gt (Nat.pow_pos (by decide))
        have HOv := lover (w := w11) N (by omega)
        unfold RetOv at HOv
        rw [hT] at HOv hl ho2
        clear hT
        go_wp2_with fail
        refine (HOv).mono ?_
        rintro e w12 ⟨pa, pc, pb, pm, pd, rfl, hR1, hR2, hO, hB⟩
        have hB_12 : Below w11.heap.size w11 w12 := (bl.next hB)
        have X_12 := X_11.next hB_12
        have Q_12 := Q_11.next hB_12
        have Y_12 := Y_11.next hB_12
        have O_12 := O_11.next hB_12
        have Ox_12 := Ox_11.below hB_12
        have Px_12 := Px_11.below hB_12
        have Oy_12 := Oy_11.below hB_12
        have Py_12 := Py_11.below hB_12
        have Oo_12 := Oo_11.below hB_12
        have Po_12 := Po_11.below hB_12
        have hbel_12 := hbel_11.next hB_12
        have hsz_12 := hB_12.size
        clear X_11 Q_11 Y_11 O_11 Ox_11 Px_11 Oy_11 Py_11 Oo_11 Po_11 hbel_11 hB_12
        have T_12 := hO
        have ltT := hO.ltB
        have U_12 := hR1
        clear hO hR1 hR2
        try clear hB
        have hbx0 : Blk ((w12.alloc (.cells #[Value.int .u32 1] 39)).alloc (.cells #[Value.int .u32 2] 39)) (w12.heap.size) #[Value.int .u32 1] := ((blk_new' w12 #[Value.int .u32 1] 39 (g := w12.heap.size) (by simp)).alloc _)
        have hbx1 : Blk ((w12.alloc (.cells #[Value.int .u32 1] 39)).alloc (.cells #[Value.int .u32 2] 39)) (w12.heap.size + 1) #[Value.int .u32 2] := (blk_new' (w12.alloc (.cells #[Value.int .u32 1] 39)) #[Value.int .u32 2] 39 (g := w12.heap.size + 1) (by simp))
        have hbB : Below w12.heap.size w12 ((w12.alloc (.cells #[Value.int .u32 1] 39)).alloc (.cells #[Value.int .u32 2] 39)) := bl
        have hltL1 := hbx0.lt
        have hltL2 := hbx1.lt
        have hB_13 : Below w12.heap.size w12 ((w12.alloc (.cells #[Value.int .u32 1] 39)).alloc (.cells #[Value.int .u32 2] 39)) := hbB
        have X_13 := X_12.next hB_13
        have Q_13 := Q_12.next hB_13
        have Y_13 := Y_12.next hB_13
        have O_13 := O_12.next hB_13
        have Ox_13 := Ox_12.below hB_13
        have Px_13 := Px_12.below hB_13
        have Oy_13 := Oy_12.below hB_13
        have Py_13 := Py_12.below hB_13
        have Oo_13 := Oo_12.below hB_13
        have Po_13 := Po_12.below hB_13
        have T_13 := T_12.below hB_13
        have U_13 := U_12.below hB_13
        have hbel_13 := hbel_12.next hB_13
        have hsz_13 := hB_13.size
        clear hB_13
        have L1_13 := hbx0
        clear hbx0
        have L2_13 := hbx1
        clear hbx1
        clear hbB
        go_wp2_with fail
        clear X_12 Q_12 Y_12 O_12 Ox_12 Px_12 Oy_12 Py_12 Oo_12 Po_12 T_12 U_12 hbel_12
        generalize ((w12.alloc (.cells #[Value.int .u32 1] 39)).alloc (.cells #[Value.int .u32 2] 39)) = v13 at *
        have A1_13 : RdQ 24 v13 false pa 1 pc pb pm pd (mkRat 1 T) := ⟨1, T, U_13.mono (by omega), T_13.rdN hTs, by unfold qv; rw [und_of hTn]; rfl⟩
        have A2_13 : RdQ 1 v13 false (some ⟨w12.heap.size, 0, none⟩) 1 1 (some ⟨w12.heap.size + 1, 0, none⟩) 1 1 (mkRat 1 2) := ⟨1, 2, rdN_blk rfl (by decide) L1_13, rdN_blk rfl (by decide) L2_13, rfl⟩
        have hhq : QS (mkRat 1 T * mkRat 1 2) 100 := ((A1_13.qs (by omega)).mul (A2_13.qs (by omega))).mono (by omega)
        go_wp2_with fail
        refine (qmul A1_13 (by omega) A2_13 (by omega)).mono ?_
        rintro e w14 ⟨ha, hn, hc, hb, hm, hd, rfl, hO, hO', hDh, hB⟩
        have hB_14 : Below v13.heap.size v13 w14 := (bl.next hB)
        have X_14 := X_13.next hB_14
        have Q_14 := Q_13.next hB_14
        have Y_14 := Y_13.next hB_14
        have O_14 := O_13.next hB_14
        have L1_14 := L1_13.next hB_14
        have L2_14 := L2_13.next hB_14
        have Ox_14 := Ox_13.below hB_14
        have Px_14 := Px_13.below hB_14
        have Oy_14 := Oy_13.below hB_14
        have Py_14 := Py_13.below hB_14
        have Oo_14 := Oo_13.below hB_14
        have Po_14 := Po_13.below hB_14
        have T_14 := T_13.below hB_14
        have U_14 := U_13.below hB_14
        have A1_14 := A1_13.below hB_14
        have A2_14 := A2_13.below hB_14
        have hbel_14 := hbel_13.next hB_14
        have hsz_14 := hB_14.size
        clear X_13 Q_13 Y_13 O_13 L1_13 L2_13 Ox_13 Px_13 Oy_13 Py_13 Oo_13 Po_13 T_13 U_13 A1_13 A2_13 hbel_13 hB_14
        have Oh_14 := hO
        have ltOh := hO.ltB
        have Ph_14 := hO'
        have ltPh := hO'.ltB
        clear hO hO'
        try clear hB
        clear A1_14
        clear A2_14
        generalize mkRat 1 T * mkRat 1 2 = h at *
        have hbx := blk_new w14 #[Value.bool (decide (h.num < 0)), Value.slice ha hn hc, Value.slice hb hm hd] 29
        have hbB := (Below.refl w14.heap.size w14).alloc (Nat.le_refl _) (.cells #[Value.bool (decide (h.num < 0)), Value.slice ha hn hc, Value.slice hb hm hd] 29)
        have hltH := hbx.lt
        have hB_15 : Below w14.heap.size w14 (w14.alloc (.cells #[Value.bool (decide (h.num < 0)), Value.slice ha hn hc, Value.slice hb hm hd] 29)) := hbB
        have X_15 := X_14.next hB_15
        have Q_15 := Q_14.next hB_15
        have Y_15 := Y_14.next hB_15
        have O_15 := O_14.next hB_15
        have L1_15 := L1_14.next hB_15
        have L2_15 := L2_14.next hB_15
        have Ox_15 := Ox_14.below hB_15
        have Px_15 := Px_14.below hB_15
        have Oy_15 := Oy_14.below hB_15
        have Py_15 := Py_14.below hB_15
        have Oo_15 := Oo_14.below hB_15
        have Po_15 := Po_14.below hB_15
        have T_15 := T_14.below hB_15
        have U_15 := U_14.below hB_15
        have Oh_15 := Oh_14.below hB_15
        have Ph_15 := Ph_14.below hB_15
        have hbel_15 := hbel_14.next hB_15
        have hsz_15 := hB_15.size
        clear hB_15
        have H_15 := hbx
        clear hbx hbB
        have cO_15_0 : _ = some (Value.bool (decide (o.num < 0))) := O_15.cell 0
        have fO_15_0 := O_15.free 0
        have cO_15_1 : _ = some (Value.slice oa on oc) := O_15.cell 1
        have fO_15_1 := O_15.free 1
        have cO_15_2 : _ = some (Value.slice ob om od) := O_15.cell 2
        have fO_15_2 := O_15.free 2
        have cH_15_0 : _ = some (Value.bool (decide (h.num < 0))) := H_15.cell 0
        have cH_15_1 : _ = some (Value.slice ha hn hc) := H_15.cell 1
        have cH_15_2 : _ = some (Value.slice hb hm hd) := H_15.cell 2
        go_wp2_with fail
        clear X_14 Q_14 Y_14 O_14 L1_14 L2_14 Ox_14 Px_14 Oy_14 Py_14 Oo_14 Po_14 T_14 U_14 Oh_14 Ph_14 hbel_14
        generalize (w14.alloc (.cells #[Value.bool (decide (h.num < 0)), Value.slice ha hn hc, Value.slice hb hm hd] 29)) = v15 at *
        go_wp2_with fail
        refine (qcmp (Oo_15.rdQ Po_15 hoqs) (by omega) (Oh_15.rdQ Ph_15 hhq) (by omega)).mono ?_
        rintro e w16 ⟨rfl, hB⟩
        have hB_16 : Below v15.heap.size v15 w16 := (bl.next hB)
        have X_16 := X_15.next hB_16
        have Q_16 := Q_15.next hB_16
        have Y_16 := Y_15.next hB_16
        have O_16 := O_15.next hB_16
        have L1_16 := L1_15.next hB_16
        have L2_16 := L2_15.next hB_16
        have H_16 := H_15.next hB_16
        have Ox_16 := Ox_15.below hB_16
        have Px_16 := Px_15.below hB_16
        have Oy_16 := Oy_15.below hB_16
        have Py_16 := Py_15.below hB_16
        have Oo_16 := Oo_15.below hB_16
        have Po_16 := Po_15.below hB_16
        have T_16 := T_15.below hB_16
        have U_16 := U_15.below hB_16
        have Oh_16 := Oh_15.below hB_16
        have Ph_16 := Ph_15.below hB_16
        have hbel_16 := hbel_15.next hB_16
        have hsz_16 := hB_16.size
        clear X_15 Q_15 Y_15 O_15 cO_15_0 fO_15_0 cO_15_1 fO_15_1 cO_15_2 fO_15_2 L1_15 L2_15 H_15 cH_15_0 cH_15_1 cH_15_2 Ox_15 Px_15 Oy_15 Py_15 Oo_15 Po_15 T_15 U_15 Oh_15 Ph_15 hbel_15 hB_16
        try clear hB
        generalize cmpQ o h = cv at *
        obtain ⟨dv, hdv⟩ : ∃ v, cmpQ y q = v := ⟨_, rfl⟩
        have hdr := cmpQ_range y q
        rw [hdv] at hdr
        have hfin : cv < 0 ∨ (0 ≤ cv ∧ dv = 1) := by
          rcases Int.lt_or_le cv 0 with h8 | h8
          · exact .inl h8
          · refine .inr ⟨h8, ?_⟩
            have h9 := ho2.out (by omega)
            rw [← hdv]
            rw [cmpQ_swap, cmpQ_lt h9]; rfl
        clear ho2
        have cY_16_0 : _ = some (Value.bool (decide (y.num < 0))) := Y_16.cell 0
        have cY_16_1 : _ = some (Value.slice ya yn yc) := Y_16.cell 1
        have cY_16_2 : _ = some (Value.slice yb ym yd) := Y_16.cell 2
        have cQ_16_0 : _ = some (Value.bool (decide (q.num < 0))) := Q_16.cell 0
        have cQ_16_1 : _ = some (Value.slice xa xn xc) := Q_16.cell 1
        have cQ_16_2 : _ = some (Value.slice xb xm xd) := Q_16.cell 2
        go_wp2_with fail
        refine (qcmp (Oy_16.rdQ Py_16 hys) (by omega) (Ox_16.rdQ Px_16 hqs) (by omega)).mono ?_
        rw [hdv]
        rintro e w17 ⟨rfl, hB⟩
        have hB_17 : Below w16.heap.size w16 w17 := (bl.next hB)
        have X_17 := X_16.next hB_17
        have Q_17 := Q_16.next hB_17
        have Y_17 := Y_16.next hB_17
        have O_17 := O_16.next hB_17
        have L1_17 := L1_16.next hB_17
        have L2_17 := L2_16.next hB_17
        have H_17 := H_16.next hB_17
        have Ox_17 := Ox_16.below hB_17
        have Px_17 := Px_16.below hB_17
        have Oy_17 := Oy_16.below hB_17
        have Py_17 := Py_16.below hB_17
        have Oo_17 := Oo_16.below hB_17
        have Po_17 := Po_16.below hB_17
        have T_17 := T_16.below hB_17
        have U_17 := U_16.below hB_17
        have Oh_17 := Oh_16.below hB_17
        have Ph_17 := Ph_16.below hB_17
        have hbel_17 := hbel_16.next hB_17
        have hsz_17 := hB_17.size
        clear X_16 Q_16 cQ_16_0 cQ_16_1 cQ_16_2 Y_16 cY_16_0 cY_16_1 cY_16_2 O_16 L1_16 L2_16 H_16 Ox_16 Px_16 Oy_16 Py_16 Oo_16 Po_16 T_16 U_16 Oh_16 Ph_16 hbel_16 hB_17
        try clear hB
        have cQ_17_0 : _ = some (Value.bool (decide (q.num < 0))) := Q_17.cell 0
        have cQ_17_1 : _ = some (Value.slice xa xn xc) := Q_17.cell 1
        have cQ_17_2 : _ = some (Value.slice xb xm xd) := Q_17.cell 2
        go_wp2_with fail
        refine (qsign (Ox_17.rdQ Px_17 hqs) (by omega)).mono ?_
        rintro e w18 ⟨rfl, hB⟩
        have hB_18 : Below w17.heap.size w17 w18 := (bl.next hB)
        have X_18 := X_17.next hB_18
        have Q_18 := Q_17.next hB_18
        have Y_18 := Y_17.next hB_18
        have O_18 := O_17.next hB_18
        have L1_18 := L1_17.next hB_18
        have L2_18 := L2_17.next hB_18
        have H_18 := H_17.next hB_18
        have Ox_18 := Ox_17.below hB_18
        have Px_18 := Px_17.below hB_18
        have Oy_18 := Oy_17.below hB_18
        have Py_18 := Py_17.below hB_18
        have Oo_18 := Oo_17.below hB_18
        have Po_18 := Po_17.below hB_18
        have T_18 := T_17.below hB_18
        have U_18 := U_17.below hB_18
        have Oh_18 := Oh_17.below hB_18
        have Ph_18 := Ph_17.below hB_18
        have hbel_18 := hbel_17.next hB_18
        have hsz_18 := hB_18.size
        clear X_17 Q_17 cQ_17_0 cQ_17_1 cQ_17_2 Y_17 O_17 L1_17 L2_17 H_17 Ox_17 Px_17 Oy_17 Py_17 Oo_17 Po_17 T_17 U_17 Oh_17 Ph_17 hbel_17 hB_18
        try clear hB
        clear hdv
        rcases hfin with h8 | ⟨h8, rfl⟩
        · go_wp2
          go_ret
          exact ⟨rfl, hbel_18⟩
        · go_wp2
          go_ret
          exact ⟨rfl, hbel_18⟩

set_option maxRecDepth 100000 in
set_option maxHeartbeats 8000000 in
theorem dnear_01 {w : World} {q : Rat} {s : Bool} {a b : Option Addr} {n c m d : Nat} (z : Int) (h1 : -9223372036854775808 ≤ z) (h2 : z ≤ 9223372036854775807) (HF : Hid (∀ W, Below w.heap.size w W → Calls Try.prog 59 #[.agg #[.bool s, .slice a n c, .slice b m d]] W (fun e w' => RetQ W q e w'))) (hqs : QS q 20) (N : Nat) (hN : bdN z 200 = (N : Int)) (hN2 : N ≤ 200) (hoff : ¬ rdQ q N - q < 0) (hneg : q < 0) :
    Calls Try.prog 13 #[.agg #[.bool s, .slice a n c, .slice b m d], .int .i64 z] w (fun e w' => e = .returned (.bool true) ∧ Below w.heap.size w w') := by
  have HB := hid (fun w => lbound (w := w) z 200 h1 h2 (by omega) (by omega))
  rw [hN] at HB
  obtain ⟨bb, P, hsy, hS0, hSb, hpt, hPz, hPn⟩ := near_text q N
  have hsz := near_size hqs hN2
  obtain ⟨hd1, hd2⟩ := near_back q N
  have HP := hid (fun w => dparse (w := w) (roT q N) hsz)
  rw [hd1, hd2] at HP
  have HR := hid (fun (W : World) {a' b' : Option Addr} {n' c' m' d' : Nat} (h : RdQ 20 W (decide (q.num < 0)) a' n' c' b' m' d' q) => dround h (by omega) N (by omega))
  have hys := rdQ_qs hqs hN2
  have hnear := near_law q N
  have hon : decide (sgnQ (rdQ q N - q) < 0) = false := by rw [sgnQ_dec]; simp [hoff]
  have hqn : decide (sgnQ q < 0) = true := by rw [sgnQ_dec]; simp [hneg]
  have hof : offQ q (rdQ q N) = rdQ q N - q := by unfold offQ; rw [if_neg hoff]
  rw [hof] at hnear
  clear hd1 hd2 hof hoff hN
  generalize rdQ q N = y at *
  generalize roT q N = S at *
  obtain ⟨hl, ho⟩ := hnear
  have ho2 := hid (fun h => (ho h).1 hneg)
  clear ho
  have hpt := hid hpt
  have hPz := hid hPz
  have hPn := hid hPn
  have hx0 := hSb hS0
  have hne := be_ne (s := S) (by omega)
  have hbb : (bb != bb) = false := by simp
  clear hSb hneg
  have hent := ent1 w #[Value.bool s, Value.slice a n c, Value.slice b m d] 29
  go_enter Try.func13, Try.ntmps13
  go_wp2_with fail
  generalize (w.alloc (.cells #[Value.bool s, Value.slice a n c, Value.slice b m d] 29)) = W0 at hent ⊢
  obtain ⟨X_0, hbel_0, hsz_0⟩ := hent
  go_wp2_with fail
  refine (lalive).mono ?_
  rintro e w1 ⟨rfl, hB⟩
  have hB_1 : Below W0.heap.size W0 w1 := (bl.next hB)
  have X_1 := X_0.next hB_1
  have hbel_1 := hbel_0.next hB_1
  have hsz_1 := hB_1.size
  clear X_0 hbel_0 hB_1
  try clear hB
  have cX_1_0 : _ = some (Value.bool s) := X_1.cell 0
  have cX_1_1 : _ = some (Value.slice a n c) := X_1.cell 1
  have cX_1_2 : _ = some (Value.slice b m d) := X_1.cell 2
  go_wp2_with fail
  refine (HF.out _ hbel_1).mono ?_
  rintro e w2 ⟨xa, xn, xc, xb, xm, xd, rfl, hO, hO', hDx, hB⟩
  have hB_2 : Below w1.heap.size w1 w2 := (bl.next hB)
  have X_2 := X_1.next hB_2
  have hbel_2 := hbel_1.next hB_2
  have hsz_2 := hB_2.size
  clear X_1 cX_1_0 cX_1_1 cX_1_2 hbel_1 hB_2
  have Ox_2 := hO
  have ltOx := hO.ltB
  have Px_2 := hO'
  have ltPx := hO'.ltB
  clear hO hO'
  try clear hB
  have hbx := blk_new w2 #[Value.bool (decide (q.num < 0)), Value.slice xa xn xc, Value.slice xb xm xd] 29
  have hbB := (Below.refl w2.heap.size w2).alloc (Nat.le_refl _) (.cells #[Value.bool (decide (q.num < 0)), Value.slice xa xn xc, Value.slice xb xm xd] 29)
  have hltQ := hbx.lt
  have hB_3 : Below w2.heap.size w2 (w2.alloc (.cells #[Value.bool (decide (q.num < 0)), Value.slice xa xn xc, Value.slice xb xm xd] 29)) := hbB
  have X_3 := X_2.next hB_3
  have Ox_3 := Ox_2.below hB_3
  have Px_3 := Px_2.below hB_3
  have hbel_3 := hbel_2.next hB_3
  have hsz_3 := hB_3.size
  clear hB_3
  have Q_3 := hbx
  clear hbx hbB
  go_wp2_with fail
  clear X_2 Ox_2 Px_2 hbel_2
  generalize (w2.alloc (.cells #[Value.bool (decide (q.num < 0)), Value.slice xa xn xc, Value.slice xb xm xd] 29)) = v3 at *
  go_wp2_with fail
  refine (HB.out _).mono ?_
  rintro e w4 ⟨rfl, hB⟩
  have hB_4 : Below v3.heap.size v3 w4 := (bl.next hB)
  have X_4 := X_3.next hB_4
  have Q_4 := Q_3.next hB_4
  have Ox_4 := Ox_3.below hB_4
  have Px_4 := Px_3.below hB_4
  have hbel_4 := hbel_3.next hB_4
  have hsz_4 := hB_4.size
  clear X_3 Q_3 Ox_3 Px_3 hbel_3 hB_4
  try clear hB
  have cQ_4_0 : _ = some (Value.bool (decide (q.num < 0))) := Q_4.cell 0
  have cQ_4_1 : _ = some (Value.slice xa xn xc) := Q_4.cell 1
  have cQ_4_2 : _ = some (Value.slice xb xm xd) := Q_4.cell 2
  go_wp2_with fail
  refine (HR.out _ (Ox_4.rdQ Px_4 hqs)).mono ?_
  rintro e w5 ⟨rfl, hB⟩
  have hB_5 : Below w4.heap.size w4 w5 := (bl.next hB)
  have X_5 := X_4.next hB_5
  have Q_5 := Q_4.next hB_5
  have Ox_5 := Ox_4.below hB_5
  have Px_5 := Px_4.below hB_5
  have hbel_5 := hbel_4.next hB_5
  have hsz_5 := hB_5.size
  clear X_4 Q_4 cQ_4_0 cQ_4_1 cQ_4_2 Ox_4 Px_4 hbel_4 hB_5
  try clear hB
  go_wp2_with fail
  refine (HP.out _).mono ?_
  rintro e w6 ⟨ya, yn, yc, yb, ym, yd, rfl, hO, hO', hDy, hB⟩
  have hB_6 : Below w5.heap.size w5 w6 := (bl.next hB)
  have X_6 := X_5.next hB_6
  have Q_6 := Q_5.next hB_6
  have Ox_6 := Ox_5.below hB_6
  have Px_6 := Px_5.below hB_6
  have hbel_6 := hbel_5.next hB_6
  have hsz_6 := hB_6.size
  clear X_5 Q_5 Ox_5 Px_5 hbel_5 hB_6
  have Oy_6 := hO
  have ltOy := hO.ltB
  have Py_6 := hO'
  have ltPy := hO'.ltB
  clear hO hO'
  try clear hB
  have hbx := blk_new w6 #[Value.bool (qsg y 0), Value.slice ya yn yc, Value.slice yb ym yd] 29
  have hbB := (Below.refl w6.heap.size w6).alloc (Nat.le_refl _) (.cells #[Value.bool (qsg y 0), Value.slice ya yn yc, Value.slice yb ym yd] 29)
  have hltY := hbx.lt
  have hB_7 : Below w6.heap.size w6 (w6.alloc (.cells #[Value.bool (qsg y 0), Value.slice ya yn yc, Value.slice yb ym yd] 29)) := hbB
  have X_7 := X_6.next hB_7
  have Q_7 := Q_6.next hB_7
  have Ox_7 := Ox_6.below hB_7
  have Px_7 := Px_6.below hB_7
  have Oy_7 := Oy_6.below hB_7
  have Py_7 := Py_6.below hB_7
  have hbel_7 := hbel_6.next hB_7
  have hsz_7 := hB_7.size
  clear hB_7
  have Y_7 := hbx
  clear hbx hbB
  go_wp2_with fail
  clear X_6 Q_6 Ox_6 Px_6 Oy_6 Py_6 hbel_6
  generalize (w6.alloc (.cells #[Value.bool (qsg y 0), Value.slice ya yn yc, Value.slice yb ym yd] 29)) = v7 at *
  rw [qnl_ok] at Oy_7
  rw [qdl_ok] at Py_7
  rw [qsg_ok] at Y_7
  have hf1 : ((0 : Int) != 0) = false := by decide
  go_wp2_with fail
  obtain ⟨W0, hW0⟩ : ∃ y : World, y = v7 := ⟨_, rfl⟩
  subst hW0
  go_loopw [12, 13] (fun pv iv wr => ∃ (i : Nat) (pz : Int), i ≤ S.size ∧ iv = .int .i64 i ∧ pv = .int .i64 pz ∧ Hid ((P < i ∧ pz = (P : Int)) ∨ (i ≤ P ∧ pz = -1)) ∧ wr = W0) (fun _ iv _ => S.size - (intOf iv).toNat)
  case atStart => exact ⟨0, -1, by omega, rfl, rfl, .inr ⟨by omega, rfl⟩, rfl⟩
  case round =>
    obtain ⟨i, pz, hi, rfl, rfl, hpz, hwr⟩ := hrel
    subst hwr
    by_cases hlt : i < S.size
    · have hx := by_get S i hlt
      obtain ⟨xx, hxe⟩ : ∃ x, S[i].toNat = x := ⟨_, rfl⟩
      have hp := hpt.out i hlt
      rw [hx, hxe] at hp
      by_cases h46 : xx = 46
      · have hd : ((xx : Int) == 46) = true := by simp [h46]
        have hn : Hid ((P < i + 1 ∧ (i : Int) = (P : Int)) ∨ (i + 1 ≤ P ∧ (i : Int) = -1)) := by have := hp.1 h46; exact .inl ⟨by omega, by omega⟩
        clear hp hx hpz h46
        go_wp2
        go_roundw
        case rel => exact ⟨i + 1, i, by omega, by go_num, rfl, hn, by first | trivial | rfl⟩
        case measure => simp [intOf]; omega
      · have hd : ((xx : Int) == 46) = false := by simp; omega
        have hn : Hid ((P < i + 1 ∧ pz = (P : Int)) ∨ (i + 1 ≤ P ∧ pz = -1)) := by
          have h1 := mt hp.2 h46
          rcases hpz.out with ⟨h2, h3⟩ | ⟨h2, h3⟩
          · exact .inl ⟨by omega, h3⟩
          · exact .inr ⟨by omega, h3⟩
        clear hp hx hpz h46
        go_wp2
        go_roundw
        case rel => exact ⟨i + 1, pz, by omega, by go_num, rfl, hn, by first | trivial | rfl⟩
        case measure => simp [intOf]; omega
    · obtain rfl : i = S.size := by omega
      have hpv : (N = 0 → pz = -1) ∧ (N ≠ 0 → pz = ((S.size - N - 1 : Nat) : Int) ∧ N + 1 ≤ S.size) := by
        have h1 := hPz.out
        have h2 := hPn.out
        rcases hpz.out with ⟨h3, h4⟩ | ⟨h3, h4⟩
        · exact ⟨fun e => by have := h1 e; omega, fun e => by have := h2 e; omega⟩
        · exact ⟨fun e => h4, fun e => by have := h2 e; omega⟩
      obtain ⟨c0, hc0⟩ : ∃ x, S[0].toNat = x := ⟨_, rfl⟩
      rw [hc0] at hx0
      clear hpt hPz hPn hpz hlt
      go_upto_region 14 with fail
      go_cut [86] (fun s86 wx => s86 = .bool false ∧ Below wr.heap.size wr wx)
      case first =>
        by_cases hN0 : N = 0
        · have hpz := hpv.1 hN0
          subst hpz
          have hn1 : ((N : Int) == 0) = true := by simp; omega
          have hn2 : decide ((0 : Int) < (N : Int)) = false := by simp; omega
          have hn3 : decide (0 < N) = false := by simp; omega
          clear hpv hN0
          have hbR_7 : Below wr.heap.size wr wr := Below.refl _ _
          have cY_7_0 : _ = some (Value.bool (decide (y.num < 0))) := Y_7.cell 0
          have cY_7_1 : _ = some (Value.slice ya yn yc) := Y_7.cell 1
          have cY_7_2 : _ = some (Value.slice yb ym yd) := Y_7.cell 2
          refine wp_region_noPanic ?_
          refine wp_region_held_drew (S := (fun w' => w'.cell? ⟨w6.heap.size, 0, none⟩ = some (Value.bool (decide (y.num < 0))) ∧ w'.cell? ⟨w6.heap.size, 1, none⟩ = some (Value.slice ya yn yc) ∧ w'.cell? ⟨w6.heap.size, 2, none⟩ = some (Value.slice yb ym yd))) (by kernel_rfl) ⟨cY_7_0, cY_7_1, cY_7_2⟩ (fun hHeld => ?_)
          refine take_run (i := 0) (d := some 59) (v := .int .i64 (N : Int)) rfl rfl (by kernel_rfl) (by kernel_rfl) (by kernel_rfl) (fun _ _ _ h => h) (by rfl) (fun w hSw => by (try dsimp only at hSw); go_simp) (by assumption) ?_
          (try simp only [Act.put, List.setIfInBounds_toArray, List.set_cons_zero, List.set_cons_succ])
          refine take_run (i := 1) (d := some 60) (v := .bool true) rfl rfl (by kernel_rfl) (by kernel_rfl) (by kernel_rfl) (fun _ _ _ h => h) (by rfl) (fun w hSw => by (try dsimp only at hSw); go_simp) (by assumption) ?_
          (try simp only [Act.put, List.setIfInBounds_toArray, List.set_cons_zero, List.set_cons_succ])
          refine take_run (i := 2) (d := some 61) (v := .bool true) rfl rfl (by kernel_rfl) (by kernel_rfl) (by kernel_rfl) (fun _ _ _ h => h) (by rfl) (fun w hSw => by (try dsimp only at hSw); go_simp) (by assumption) ?_
          (try simp only [Act.put, List.setIfInBounds_toArray, List.set_cons_zero, List.set_cons_succ])
          refine take_run (i := 3) (d := some 62) (v := .int .i64 (-1)) rfl rfl (by kernel_rfl) (by kernel_rfl) (by kernel_rfl) (fun _ _ _ h => h) (by rfl) (fun w hSw => by (try dsimp only at hSw); go_simp) (by assumption) ?_
          (try simp only [Act.put, List.setIfInBounds_toArray, List.set_cons_zero, List.set_cons_succ])
          refine take_run (i := 4) (d := some 63) (v := .bool false) rfl rfl (by kernel_rfl) (by kernel_rfl) (by kernel_rfl) (fun _ _ _ h => h) (by rfl) (fun w hSw => by (try dsimp only at hSw); go_simp) (by assumption) ?_
          (try simp only [Act.put, List.setIfInBounds_toArray, List.set_cons_zero, List.set_cons_succ])
          refine take_run (i := 5) (d := some 64) (v := .bool false) rfl rfl (by kernel_rfl) (by kernel_rfl) (by kernel_rfl) (fun _ _ _ h => h) (by rfl) (fun w hSw => by (try dsimp only at hSw); go_simp) (by assumption) ?_
          (try simp only [Act.put, List.setIfInBounds_toArray, List.set_cons_zero, List.set_cons_succ])
          refine take_run (i := 6) (d := some 65) (v := .bool false) rfl rfl (by kernel_rfl) (by kernel_rfl) (by kernel_rfl) (fun _ _ _ h => h) (by rfl) (fun w hSw => by (try dsimp only at hSw); go_simp) (by assumption) ?_
          (try simp only [Act.put, List.setIfInBounds_toArray, List.set_cons_zero, List.set_cons_succ])
          refine take_run (i := 7) (d := some 66) (v := .int .i64 (N : Int)) rfl rfl (by kernel_rfl) (by kernel_rfl) (by kernel_rfl) (fun _ _ _ h => h) (by rfl) (fun w hSw => by (try dsimp only at hSw); go_simp) (by assumption) ?_
          (try simp only [Act.put, List.setIfInBounds_toArray, List.set_cons_zero, List.set_cons_succ])
          refine take_run (i := 8) (d := some 67) (v := .bool false) rfl rfl (by kernel_rfl) (by kernel_rfl) (by kernel_rfl) (fun _ _ _ h => h) (by rfl) (fun w hSw => by (try dsimp only at hSw); go_simp) (by assumption) ?_
          (try simp only [Act.put, List.setIfInBounds_toArray, List.set_cons_zero, List.set_cons_succ])
          refine take_run (i := 9) (d := some 68) (v := .bool false) rfl rfl (by kernel_rfl) (by kernel_rfl) (by kernel_rfl) (fun _ _ _ h => h) (by rfl) (fun w hSw => by (try dsimp only at hSw); go_simp) (by assumption) ?_
          (try simp only [Act.put, List.setIfInBounds_toArray, List.set_cons_zero, List.set_cons_succ])
          refine take_skip (i := 10) (d := some 69) rfl rfl (by kernel_rfl) (by kernel_rfl) (by kernel_rfl) (fun _ _ _ h => h) (by rfl) (by assumption) ?_
          (try simp only [Act.put, List.setIfInBounds_toArray, List.set_cons_zero, List.set_cons_succ])
          refine take_skip (i := 11) (d := some 70) rfl rfl (by kernel_rfl) (by kernel_rfl) (by kernel_rfl) (fun _ _ _ h => h) (by rfl) (by assumption) ?_
          (try simp only [Act.put, List.setIfInBounds_toArray, List.set_cons_zero, List.set_cons_succ])
          refine take_skip (i := 12) (d := some 71) rfl rfl (by kernel_rfl) (by kernel_rfl) (by kernel_rfl) (fun _ _ _ h => h) (by rfl) (by assumption) ?_
          (try simp only [Act.put, List.setIfInBounds_toArray, List.set_cons_zero, List.set_cons_succ])
          refine take_skip (i := 13) (d := some 72) rfl rfl (by kernel_rfl) (by kernel_rfl) (by kernel_rfl) (fun _ _ _ h => h) (by rfl) (by assumption) ?_
          (try simp only [Act.put, List.setIfInBounds_toArray, List.set_cons_zero, List.set_cons_succ])
          refine take_skip (i := 14) (d := some 73) rfl rfl (by kernel_rfl) (by kernel_rfl) (by kernel_rfl) (fun _ _ _ h => h) (by rfl) (by assumption) ?_
          (try simp only [Act.put, List.setIfInBounds_toArray, List.set_cons_zero, List.set_cons_succ])
          refine take_skip (i := 15) (d := some 74) rfl rfl (by kernel_rfl) (by kernel_rfl) (by kernel_rfl) (fun _ _ _ h => h) (by rfl) (by assumption) ?_
          (try simp only [Act.put, List.setIfInBounds_toArray, List.set_cons_zero, List.set_cons_succ])
          refine take_skip (i := 16) (d := some 75) rfl rfl (by kernel_rfl) (by kernel_rfl) (by kernel_rfl) (fun _ _ _ h => h) (by rfl) (by assumption) ?_
          (try simp only [Act.put, List.setIfInBounds_toArray, List.set_cons_zero, List.set_cons_succ])
          refine take_run (i := 17) (d := some 76) (v := .bool false) rfl rfl (by kernel_rfl) (by kernel_rfl) (by kernel_rfl) (fun _ _ _ h => h) (by rfl) (fun w hSw => by (try dsimp only at hSw); go_simp) (by assumption) ?_
          (try simp only [Act.put, List.setIfInBounds_toArray, List.set_cons_zero, List.set_cons_succ])
          refine take_run (i := 18) (d := some 77) (v := .bool false) rfl rfl (by kernel_rfl) (by kernel_rfl) (by kernel_rfl) (fun _ _ _ h => h) (by rfl) (fun w hSw => by (try dsimp only at hSw); go_simp) (by assumption) ?_
          (try simp only [Act.put, List.setIfInBounds_toArray, List.set_cons_zero, List.set_cons_succ])
          refine take_run (i := 19) (d := some 78) (v := .bool false) rfl rfl (by kernel_rfl) (by kernel_rfl) (by kernel_rfl) (fun _ _ _ h => h) (by rfl) (fun w hSw => by (try dsimp only at hSw); go_simp) (by assumption) ?_
          (try simp only [Act.put, List.setIfInBounds_toArray, List.set_cons_zero, List.set_cons_succ])
          refine take_run (i := 20) (d := some 79) (v := .agg #[Value.bool (decide (y.num < 0)), Value.slice ya yn yc, Value.slice yb ym yd]) rfl rfl (by kernel_rfl) (by kernel_rfl) (by kernel_rfl) (fun _ _ _ h => h) (by rfl) (fun w hSw => by (try dsimp only at hSw); go_simp) (by assumption) ?_
          (try simp only [Act.put, List.setIfInBounds_toArray, List.set_cons_zero, List.set_cons_succ])
          refine take_run (i := 23) (d := some 82) (v := .string S) rfl rfl (by kernel_rfl) (by kernel_rfl) (by kernel_rfl) (fun _ _ _ h => h) (by rfl) (fun w hSw => by (try dsimp only at hSw); go_simp) (by assumption) ?_
          (try simp only [Act.put, List.setIfInBounds_toArray, List.set_cons_zero, List.set_cons_succ])
          refine take_run (i := 24) (d := some 83) (v := .int .u8 (c0 : Int)) rfl rfl (by kernel_rfl) (by kernel_rfl) (by kernel_rfl) (fun _ _ _ h => h) (by rfl) (fun w hSw => by (try dsimp only at hSw); go_simp) (by assumption) ?_
          (try simp only [Act.put, List.setIfInBounds_toArray, List.set_cons_zero, List.set_cons_succ])
          refine take_run (i := 25) (d := some 84) (v := .bool bb) rfl rfl (by kernel_rfl) (by kernel_rfl) (by kernel_rfl) (fun _ _ _ h => h) (by rfl) (fun w hSw => by (try dsimp only at hSw); go_simp) (by assumption) ?_
          (try simp only [Act.put, List.setIfInBounds_toArray, List.set_cons_zero, List.set_cons_succ])
          refine wpAnyH_ready (rs := [21]) (by kernel_rfl) (by simp) ?_
          refine AllReadyH.cons (o := _) rfl (fun K hK => ?_) AllReadyH.nil
          go_simp
          refine (qsign ((Oy_7.below bl).rdQ (Py_7.below bl) hys) (by omega)).mono ?_
          rintro e w8 ⟨rfl, hB⟩
          have hB_8 : Below wr.heap.size wr w8 := (bl.next hB)
          have X_8 := X_7.next hB_8
          have Q_8 := Q_7.next hB_8
          have Y_8 := Y_7.next hB_8
          have cY_8_0 : _ = some (Value.bool (decide (y.num < 0))) := Y_8.cell 0
          have cY_8_1 : _ = some (Value.slice ya yn yc) := Y_8.cell 1
          have cY_8_2 : _ = some (Value.slice yb ym yd) := Y_8.cell 2
          have Ox_8 := Ox_7.below hB_8
          have Px_8 := Px_7.below hB_8
          have Oy_8 := Oy_7.below hB_8
          have Py_8 := Py_7.below hB_8
          have hbR_8 := hbR_7.next hB_8
          have hbel_8 := hbel_7.next hB_8
          have hsz_8 := hB_8.size
          clear X_7 Q_7 Y_7 cY_7_0 cY_7_1 cY_7_2 Ox_7 Px_7 Oy_7 Py_7 hbR_7 hbel_7 hB_8
          try clear hB
          (try go_wp2_with fail)
          refine hK.out _ _ ⟨cY_8_0, cY_8_1, cY_8_2⟩ (fun hHeld2 => ?_)
          clear hK K hHeld
          (try simp only [Act.put, List.setIfInBounds_toArray, List.set_cons_zero, List.set_cons_succ])
          refine take_run (i := 22) (d := some 81) (v := .bool bb) rfl rfl (by kernel_rfl) (by kernel_rfl) (by kernel_rfl) (fun _ _ _ h => h) (by rfl) (fun w hSw => by (try dsimp only at hSw); go_simp) (by assumption) ?_
          (try simp only [Act.put, List.setIfInBounds_toArray, List.set_cons_zero, List.set_cons_succ])
          refine take_run (i := 26) (d := some 85) (v := .bool false) rfl rfl (by kernel_rfl) (by kernel_rfl) (by kernel_rfl) (fun _ _ _ h => h) (by rfl) (fun w hSw => by (try dsimp only at hSw); go_simp) (by assumption) ?_
          (try simp only [Act.put, List.setIfInBounds_toArray, List.set_cons_zero, List.set_cons_succ])
          refine take_run (i := 27) (d := some 86) (v := .bool false) rfl rfl (by kernel_rfl) (by kernel_rfl) (by kernel_rfl) (fun _ _ _ h => h) (by rfl) (fun w hSw => by (try dsimp only at hSw); go_simp) (by assumption) ?_
          (try simp only [Act.put, List.setIfInBounds_toArray, List.set_cons_zero, List.set_cons_succ])
          refine wpAnyH_done (by kernel_rfl) ?_ _
          refine NoPanic.normal ?_
          clear hn1 hn2 hn3
          all_goals (go_wp2_with fail; go_meet; exact ⟨rfl, hbR_8⟩)
        · obtain ⟨hpz, hNS⟩ := hpv.2 hN0
          obtain ⟨m2, hm2⟩ : ∃ y, S.size - N - 1 = y := ⟨_, rfl⟩
          obtain ⟨m3, hm3⟩ : ∃ y, S.size - N = y := ⟨_, rfl⟩
          rw [hm2] at hpz
          subst hpz
          have hn1 : ((N : Int) == 0) = false := by simp; omega
          have hn2 : decide ((0 : Int) < (N : Int)) = true := by simp; omega
          have hn3 : decide (0 < N) = true := by simp; omega
          have hw1 : IntKind.i64.wrap ((S.size : Int) - (N : Int)) = (m3 : Int) := by rw [IntKind.wrap_i64]; omega
          have hw2 : IntKind.i64.wrap ((m3 : Int) - 1) = (m2 : Int) := by rw [IntKind.wrap_i64]; omega
          have hw3 : ((m2 : Int) != (m2 : Int)) = false := by simp
          clear hm2 hm3 hpv hN0
          have hbR_7 : Below wr.heap.size wr wr := Below.refl _ _
          have cY_7_0 : _ = some (Value.bool (decide (y.num < 0))) := Y_7.cell 0
          have cY_7_1 : _ = some (Value.slice ya yn yc) := Y_7.cell 1
          have cY_7_2 : _ = some (Value.slice yb ym yd) := Y_7.cell 2
          refine wp_region_noPanic ?_
          refine wp_region_held_drew (S := (fun w' => w'.cell? ⟨w6.heap.size, 0, none⟩ = some (Value.bool (decide (y.num < 0))) ∧ w'.cell? ⟨w6.heap.size, 1, none⟩ = some (Value.slice ya yn yc) ∧ w'.cell? ⟨w6.heap.size, 2, none⟩ = some (Value.slice yb ym yd))) (by kernel_rfl) ⟨cY_7_0, cY_7_1, cY_7_2⟩ (fun hHeld => ?_)
          refine take_run (i := 0) (d := some 59) (v := .int .i64 (N : Int)) rfl rfl (by kernel_rfl) (by kernel_rfl) (by kernel_rfl) (fun _ _ _ h => h) (by rfl) (fun w hSw => by (try dsimp only at hSw); go_simp) (by assumption) ?_
          (try simp only [Act.put, List.setIfInBounds_toArray, List.set_cons_zero, List.set_cons_succ])
          refine take_run (i := 1) (d := some 60) (v := .bool false) rfl rfl (by kernel_rfl) (by kernel_rfl) (by kernel_rfl) (fun _ _ _ h => h) (by rfl) (fun w hSw => by (try dsimp only at hSw); go_simp) (by assumption) ?_
          (try simp only [Act.put, List.setIfInBounds_toArray, List.set_cons_zero, List.set_cons_succ])
          refine take_run (i := 2) (d := some 61) (v := .bool false) rfl rfl (by kernel_rfl) (by kernel_rfl) (by kernel_rfl) (fun _ _ _ h => h) (by rfl) (fun w hSw => by (try dsimp only at hSw); go_simp) (by assumption) ?_
          (try simp only [Act.put, List.setIfInBounds_toArray, List.set_cons_zero, List.set_cons_succ])
          refine take_skip (i := 3) (d := some 62) rfl rfl (by kernel_rfl) (by kernel_rfl) (by kernel_rfl) (fun _ _ _ h => h) (by rfl) (by assumption) ?_
          (try simp only [Act.put, List.setIfInBounds_toArray, List.set_cons_zero, List.set_cons_succ])
          refine take_skip (i := 4) (d := some 63) rfl rfl (by kernel_rfl) (by kernel_rfl) (by kernel_rfl) (fun _ _ _ h => h) (by rfl) (by assumption) ?_
          (try simp only [Act.put, List.setIfInBounds_toArray, List.set_cons_zero, List.set_cons_succ])
          refine take_run (i := 5) (d := some 64) (v := .bool false) rfl rfl (by kernel_rfl) (by kernel_rfl) (by kernel_rfl) (fun _ _ _ h => h) (by rfl) (fun w hSw => by (try dsimp only at hSw); go_simp) (by assumption) ?_
          (try simp only [Act.put, List.setIfInBounds_toArray, List.set_cons_zero, List.set_cons_succ])
          refine take_run (i := 6) (d := some 65) (v := .bool false) rfl rfl (by kernel_rfl) (by kernel_rfl) (by kernel_rfl) (fun _ _ _ h => h) (by rfl) (fun w hSw => by (try dsimp only at hSw); go_simp) (by assumption) ?_
          (try simp only [Act.put, List.setIfInBounds_toArray, List.set_cons_zero, List.set_cons_succ])
          refine take_run (i := 7) (d := some 66) (v := .int .i64 (N : Int)) rfl rfl (by kernel_rfl) (by kernel_rfl) (by kernel_rfl) (fun _ _ _ h => h) (by rfl) (fun w hSw => by (try dsimp only at hSw); go_simp) (by assumption) ?_
          (try simp only [Act.put, List.setIfInBounds_toArray, List.set_cons_zero, List.set_cons_succ])
          refine take_run (i := 8) (d := some 67) (v := .bool true) rfl rfl (by kernel_rfl) (by kernel_rfl) (by kernel_rfl) (fun _ _ _ h => h) (by rfl) (fun w hSw => by (try dsimp only at hSw); go_simp) (by assumption) ?_
          (try simp only [Act.put, List.setIfInBounds_toArray, List.set_cons_zero, List.set_cons_succ])
          refine take_run (i := 9) (d := some 68) (v := .bool true) rfl rfl (by kernel_rfl) (by kernel_rfl) (by kernel_rfl) (fun _ _ _ h => h) (by rfl) (fun w hSw => by (try dsimp only at hSw); go_simp) (by assumption) ?_
          (try simp only [Act.put, List.setIfInBounds_toArray, List.set_cons_zero, List.set_cons_succ])
          refine take_run (i := 10) (d := some 69) (v := .int .i64 (m2 : Int)) rfl rfl (by kernel_rfl) (by kernel_rfl) (by kernel_rfl) (fun _ _ _ h => h) (by rfl) (fun w hSw => by (try dsimp only at hSw); go_simp) (by assumption) ?_
          (try simp only [Act.put, List.setIfInBounds_toArray, List.set_cons_zero, List.set_cons_succ])
          refine take_run (i := 11) (d := some 70) (v := .string S) rfl rfl (by kernel_rfl) (by kernel_rfl) (by kernel_rfl) (fun _ _ _ h => h) (by rfl) (fun w hSw => by (try dsimp only at hSw); go_simp) (by assumption) ?_
          (try simp only [Act.put, List.setIfInBounds_toArray, List.set_cons_zero, List.set_cons_succ])
          refine take_run (i := 12) (d := some 71) (v := .int .i64 (S.size : Int)) rfl rfl (by kernel_rfl) (by kernel_rfl) (by kernel_rfl) (fun _ _ _ h => h) (by rfl) (fun w hSw => by (try dsimp only at hSw); go_simp) (by assumption) ?_
          (try simp only [Act.put, List.setIfInBounds_toArray, List.set_cons_zero, List.set_cons_succ])
          refine take_run (i := 13) (d := some 72) (v := .int .i64 (N : Int)) rfl rfl (by kernel_rfl) (by kernel_rfl) (by kernel_rfl) (fun _ _ _ h => h) (by rfl) (fun w hSw => by (try dsimp only at hSw); go_simp) (by assumption) ?_
          (try simp only [Act.put, List.setIfInBounds_toArray, List.set_cons_zero, List.set_cons_succ])
          refine take_run (i := 14) (d := some 73) (v := .int .i64 (m3 : Int)) rfl rfl (by kernel_rfl) (by kernel_rfl) (by kernel_rfl) (fun _ _ _ h => h) (by rfl) (fun w hSw => by (try dsimp only at hSw); go_simp) (by assumption) ?_
          (try simp only [Act.put, List.setIfInBounds_toArray, List.set_cons_zero, List.set_cons_succ])
          refine take_run (i := 15) (d := some 74) (v := .int .i64 (m2 : Int)) rfl rfl (by kernel_rfl) (by kernel_rfl) (by kernel_rfl) (fun _ _ _ h => h) (by rfl) (fun w hSw => by (try dsimp only at hSw); go_simp) (by assumption) ?_
          (try simp only [Act.put, List.setIfInBounds_toArray, List.set_cons_zero, List.set_cons_succ])
          refine take_run (i := 16) (d := some 75) (v := .bool false) rfl rfl (by kernel_rfl) (by kernel_rfl) (by kernel_rfl) (fun _ _ _ h => h) (by rfl) (fun w hSw => by (try dsimp only at hSw); go_simp) (by assumption) ?_
          (try simp only [Act.put, List.setIfInBounds_toArray, List.set_cons_zero, List.set_cons_succ])
          refine take_run (i := 17) (d := some 76) (v := .bool false) rfl rfl (by kernel_rfl) (by kernel_rfl) (by kernel_rfl) (fun _ _ _ h => h) (by rfl) (fun w hSw => by (try dsimp only at hSw); go_simp) (by assumption) ?_
          (try simp only [Act.put, List.setIfInBounds_toArray, List.set_cons_zero, List.set_cons_succ])
          refine take_run (i := 18) (d := some 77) (v := .bool false) rfl rfl (by kernel_rfl) (by kernel_rfl) (by kernel_rfl) (fun _ _ _ h => h) (by rfl) (fun w hSw => by (try dsimp only at hSw); go_simp) (by assumption) ?_
          (try simp only [Act.put, List.setIfInBounds_toArray, List.set_cons_zero, List.set_cons_succ])
          refine take_run (i := 19) (d := some 78) (v := .bool false) rfl rfl (by kernel_rfl) (by kernel_rfl) (by kernel_rfl) (fun _ _ _ h => h) (by rfl) (fun w hSw => by (try dsimp only at hSw); go_simp) (by assumption) ?_
          (try simp only [Act.put, List.setIfInBounds_toArray, List.set_cons_zero, List.set_cons_succ])
          refine take_run (i := 20) (d := some 79) (v := .agg #[Value.bool (decide (y.num < 0)), Value.slice ya yn yc, Value.slice yb ym yd]) rfl rfl (by kernel_rfl) (by kernel_rfl) (by kernel_rfl) (fun _ _ _ h => h) (by rfl) (fun w hSw => by (try dsimp only at hSw); go_simp) (by assumption) ?_
          (try simp only [Act.put, List.setIfInBounds_toArray, List.set_cons_zero, List.set_cons_succ])
          refine take_run (i := 23) (d := some 82) (v := .string S) rfl rfl (by kernel_rfl) (by kernel_rfl) (by kernel_rfl) (fun _ _ _ h => h) (by rfl) (fun w hSw => by (try dsimp only at hSw); go_simp) (by assumption) ?_
          (try simp only [Act.put, List.setIfInBounds_toArray, List.set_cons_zero, List.set_cons_succ])
          refine take_run (i := 24) (d := some 83) (v := .int .u8 (c0 : Int)) rfl rfl (by kernel_rfl) (by kernel_rfl) (by kernel_rfl) (fun _ _ _ h => h) (by rfl) (fun w hSw => by (try dsimp only at hSw); go_simp) (by assumption) ?_
          (try simp only [Act.put, List.setIfInBounds_toArray, List.set_cons_zero, List.set_cons_succ])
          refine take_run (i := 25) (d := some 84) (v := .bool bb) rfl rfl (by kernel_rfl) (by kernel_rfl) (by kernel_rfl) (fun _ _ _ h => h) (by rfl) (fun w hSw => by (try dsimp only at hSw); go_simp) (by assumption) ?_
          (try simp only [Act.put, List.setIfInBounds_toArray, List.set_cons_zero, List.set_cons_succ])
          refine wpAnyH_ready (rs := [21]) (by kernel_rfl) (by simp) ?_
          refine AllReadyH.cons (o := _) rfl (fun K hK => ?_) AllReadyH.nil
          go_simp
          refine (qsign ((Oy_7.below bl).rdQ (Py_7.below bl) hys) (by omega)).mono ?_
          rintro e w8 ⟨rfl, hB⟩
          have hB_8 : Below wr.heap.size wr w8 := (bl.next hB)
          have X_8 := X_7.next hB_8
          have Q_8 := Q_7.next hB_8
          have Y_8 := Y_7.next hB_8
          have cY_8_0 : _ = some (Value.bool (decide (y.num < 0))) := Y_8.cell 0
          have cY_8_1 : _ = some (Value.slice ya yn yc) := Y_8.cell 1
          have cY_8_2 : _ = some (Value.slice yb ym yd) := Y_8.cell 2
          have Ox_8 := Ox_7.below hB_8
          have Px_8 := Px_7.below hB_8
          have Oy_8 := Oy_7.below hB_8
          have Py_8 := Py_7.below hB_8
          have hbR_8 := hbR_7.next hB_8
          have hbel_8 := hbel_7.next hB_8
          have hsz_8 := hB_8.size
          clear X_7 Q_7 Y_7 cY_7_0 cY_7_1 cY_7_2 Ox_7 Px_7 Oy_7 Py_7 hbR_7 hbel_7 hB_8
          try clear hB
          (try go_wp2_with fail)
          refine hK.out _ _ ⟨cY_8_0, cY_8_1, cY_8_2⟩ (fun hHeld2 => ?_)
          clear hK K hHeld
          (try simp only [Act.put, List.setIfInBounds_toArray, List.set_cons_zero, List.set_cons_succ])
          refine take_run (i := 22) (d := some 81) (v := .bool bb) rfl rfl (by kernel_rfl) (by kernel_rfl) (by kernel_rfl) (fun _ _ _ h => h) (by rfl) (fun w hSw => by (try dsimp only at hSw); go_simp) (by assumption) ?_
          (try simp only [Act.put, List.setIfInBounds_toArray, List.set_cons_zero, List.set_cons_succ])
          refine take_run (i := 26) (d := some 85) (v := .bool false) rfl rfl (by kernel_rfl) (by kernel_rfl) (by kernel_rfl) (fun _ _ _ h => h) (by rfl) (fun w hSw => by (try dsimp only at hSw); go_simp) (by assumption) ?_
          (try simp only [Act.put, List.setIfInBounds_toArray, List.set_cons_zero, List.set_cons_succ])
          refine take_run (i := 27) (d := some 86) (v := .bool false) rfl rfl (by kernel_rfl) (by kernel_rfl) (by kernel_rfl) (fun _ _ _ h => h) (by rfl) (fun w hSw => by (try dsimp only at hSw); go_simp) (by assumption) ?_
          (try simp only [Act.put, List.setIfInBounds_toArray, List.set_cons_zero, List.set_cons_succ])
          refine wpAnyH_done (by kernel_rfl) ?_ _
          refine NoPanic.normal ?_
          clear hn1 hn2 hn3
          all_goals (go_wp2_with fail; go_meet; exact ⟨rfl, hbR_8⟩)
      case rest =>
        obtain ⟨rfl, hBx⟩ := hcut
        clear hpv
        have hB_8 : Below wr.heap.size wr wc := hBx
        have X_8 := X_7.next hB_8
        have Q_8 := Q_7.next hB_8
        have Y_8 := Y_7.next hB_8
        have Ox_8 := Ox_7.below hB_8
        have Px_8 := Px_7.below hB_8
        have Oy_8 := Oy_7.below hB_8
        have Py_8 := Py_7.below hB_8
        have hbel_8 := hbel_7.next hB_8
        have hsz_8 := hB_8.size
        clear X_7 Q_7 Y_7 Ox_7 Px_7 Oy_7 Py_7 hbel_7 hB_8
        clear hBx
        have cY_8_0 : _ = some (Value.bool (decide (y.num < 0))) := Y_8.cell 0
        have cY_8_1 : _ = some (Value.slice ya yn yc) := Y_8.cell 1
        have cY_8_2 : _ = some (Value.slice yb ym yd) := Y_8.cell 2
        have cQ_8_0 : _ = some (Value.bool (decide (q.num < 0))) := Q_8.cell 0
        have cQ_8_1 : _ = some (Value.slice xa xn xc) := Q_8.cell 1
        have cQ_8_2 : _ = some (Value.slice xb xm xd) := Q_8.cell 2
        go_wp2_with fail
        refine (qsub (Oy_8.rdQ Py_8 hys) (by omega) (Ox_8.rdQ Px_8 hqs) (by omega)).mono ?_
        rintro e w9 ⟨oa, on, oc, ob, om, od, rfl, hO, hO', hDo, hB⟩
        have hB_9 : Below wc.heap.size wc w9 := (bl.next hB)
        have X_9 := X_8.next hB_9
        have Q_9 := Q_8.next hB_9
        have Y_9 := Y_8.next hB_9
        have Ox_9 := Ox_8.below hB_9
        have Px_9 := Px_8.below hB_9
        have Oy_9 := Oy_8.below hB_9
        have Py_9 := Py_8.below hB_9
        have hbel_9 := hbel_8.next hB_9
        have hsz_9 := hB_9.size
        clear X_8 Q_8 cQ_8_0 cQ_8_1 cQ_8_2 Y_8 cY_8_0 cY_8_1 cY_8_2 Ox_8 Px_8 Oy_8 Py_8 hbel_8 hB_9
        have Oo_9 := hO
        have ltOo := hO.ltB
        have Po_9 := hO'
        have ltPo := hO'.ltB
        clear hO hO'
        try clear hB
        have hoqs := (hys.sub hqs).mono (show _ ≤ 100 by omega)
        generalize hoq : y - q = o at *
        clear hoq
        have hbx := blk_new w9 #[Value.bool (decide (o.num < 0)), Value.slice oa on oc, Value.slice ob om od] 29
        have hbB := (Below.refl w9.heap.size w9).alloc (Nat.le_refl _) (.cells #[Value.bool (decide (o.num < 0)), Value.slice oa on oc, Value.slice ob om od] 29)
        have hltO := hbx.lt
        have hB_10 : Below w9.heap.size w9 (w9.alloc (.cells #[Value.bool (decide (o.num < 0)), Value.slice oa on oc, Value.slice ob om od] 29)) := hbB
        have X_10 := X_9.next hB_10
        have Q_10 := Q_9.next hB_10
        have Y_10 := Y_9.next hB_10
        have Ox_10 := Ox_9.below hB_10
        have Px_10 := Px_9.below hB_10
        have Oy_10 := Oy_9.below hB_10
        have Py_10 := Py_9.below hB_10
        have Oo_10 := Oo_9.below hB_10
        have Po_10 := Po_9.below hB_10
        have hbel_10 := hbel_9.next hB_10
        have hsz_10 := hB_10.size
        clear hB_10
        have O_10 := hbx
        clear hbx hbB
        have cO_10_0 : _ = some (Value.bool (decide (o.num < 0))) := O_10.cell 0
        have fO_10_0 := O_10.free 0
        have cO_10_1 : _ = some (Value.slice oa on oc) := O_10.cell 1
        have fO_10_1 := O_10.free 1
        have cO_10_2 : _ = some (Value.slice ob om od) := O_10.cell 2
        have fO_10_2 := O_10.free 2
        go_wp2_with fail
        clear X_9 Q_9 Y_9 Ox_9 Px_9 Oy_9 Py_9 Oo_9 Po_9 hbel_9
        generalize (w9.alloc (.cells #[Value.bool (decide (o.num < 0)), Value.slice oa on oc, Value.slice ob om od] 29)) = v10 at *
        go_wp2_with fail
        refine (qsign (Oo_10.rdQ Po_10 hoqs) (by omega)).mono ?_
        rintro e w11 ⟨rfl, hB⟩
        have hB_11 : Below v10.heap.size v10 w11 := (bl.next hB)
        have X_11 := X_10.next hB_11
        have Q_11 := Q_10.next hB_11
        have Y_11 := Y_10.next hB_11
        have O_11 := O_10.next hB_11
        have Ox_11 := Ox_10.below hB_11
        have Px_11 := Px_10.below hB_11
        have Oy_11 := Oy_10.below hB_11
        have Py_11 := Py_10.below hB_11
        have Oo_11 := Oo_10.below hB_11
        have Po_11 := Po_10.below hB_11
        have hbel_11 := hbel_10.next hB_11
        have hsz_11 := hB_11.size
        clear X_10 Q_10 Y_10 O_10 cO_10_0 fO_10_0 cO_10_1 fO_10_1 cO_10_2 fO_10_2 Ox_10 Px_10 Oy_10 Py_10 Oo_10 Po_10 hbel_10 hB_11
        try clear hB
        obtain ⟨T, hT⟩ : ∃ T, 10 ^ N = T := ⟨_, rfl⟩
        have hTs : Sz T 24 := by rw [← hT]; exact (ten_sz9 N).mono (Nat.le_refl _) (by omega)
        have hTn : T ≠ 0 := by rw [← hT]; exact Nat.ne_of_gt (Nat.pow_pos (by decide))
        have HOv := lover (w := w11) N (by omega)
        unfold RetOv at HOv
        rw [hT] at HOv hl ho2
        clear hT
        go_wp2_with fail
        refine (HOv).mono ?_
        rintro e w12 ⟨pa, pc, pb, pm, pd, rfl, hR1, hR2, hO, hB⟩
        have hB_12 : Below w11.heap.size w11 w12 := (bl.next hB)
        have X_12 := X_11.next hB_12
        have Q_12 := Q_11.next hB_12
        have Y_12 := Y_11.next hB_12
        have O_12 := O_11.next hB_12
        have Ox_12 := Ox_11.below hB_12
        have Px_12 := Px_11.below hB_12
        have Oy_12 := Oy_11.below hB_12
        have Py_12 := Py_11.below hB_12
        have Oo_12 := Oo_11.below hB_12
        have Po_12 := Po_11.below hB_12
        have hbel_12 := hbel_11.next hB_12
        have hsz_12 := hB_12.size
        clear X_11 Q_11 Y_11 O_11 Ox_11 Px_11 Oy_11 Py_11 Oo_11 Po_11 hbel_11 hB_12
        have T_12 := hO
        have ltT := hO.ltB
        have U_12 := hR1
        clear hO hR1 hR2
        try clear hB
        have hbx0 : Blk ((w12.alloc (.cells #[Value.int .u32 1] 39)).alloc (.cells #[Value.int .u32 2] 39)) (w12.heap.size) #[Value.int .u32 1] := ((blk_new' w12 #[Value.int .u32 1] 39 (g := w12.heap.size) (by simp)).alloc _)
        have hbx1 : Blk ((w12.alloc (.cells #[Value.int .u32 1] 39)).alloc (.cells #[Value.int .u32 2] 39)) (w12.heap.size + 1) #[Value.int .u32 2] := (blk_new' (w12.alloc (.cells #[Value.int .u32 1] 39)) #[Value.int .u32 2] 39 (g := w12.heap.size + 1) (by simp))
        have hbB : Below w12.heap.size w12 ((w12.alloc (.cells #[Value.int .u32 1] 39)).alloc (.cells #[Value.int .u32 2] 39)) := bl
        have hltL1 := hbx0.lt
        have hltL2 := hbx1.lt
        have hB_13 : Below w12.heap.size w12 ((w12.alloc (.cells #[Value.int .u32 1] 39)).alloc (.cells #[Value.int .u32 2] 39)) := hbB
        have X_13 := X_12.next hB_13
        have Q_13 := Q_12.next hB_13
        have Y_13 := Y_12.next hB_13
        have O_13 := O_12.next hB_13
        have Ox_13 := Ox_12.below hB_13
        have Px_13 := Px_12.below hB_13
        have Oy_13 := Oy_12.below hB_13
        have Py_13 := Py_12.below hB_13
        have Oo_13 := Oo_12.below hB_13
        have Po_13 := Po_12.below hB_13
        have T_13 := T_12.below hB_13
        have U_13 := U_12.below hB_13
        have hbel_13 := hbel_12.next hB_13
        have hsz_13 := hB_13.size
        clear hB_13
        have L1_13 := hbx0
        clear hbx0
        have L2_13 := hbx1
        clear hbx1
        clear hbB
        go_wp2_with fail
        clear X_12 Q_12 Y_12 O_12 Ox_12 Px_12 Oy_12 Py_12 Oo_12 Po_12 T_12 U_12 hbel_12
        generalize ((w12.alloc (.cells #[Value.int .u32 1] 39)).alloc (.cells #[Value.int .u32 2] 39)) = v13 at *
        have A1_13 : RdQ 24 v13 false pa 1 pc pb pm pd (mkRat 1 T) := ⟨1, T, U_13.mono (by omega), T_13.rdN hTs, by unfold qv; rw [und_of hTn]; rfl⟩
        have A2_13 : RdQ 1 v13 false (some ⟨w12.heap.size, 0, none⟩) 1 1 (some ⟨w12.heap.size + 1, 0, none⟩) 1 1 (mkRat 1 2) := ⟨1, 2, rdN_blk rfl (by decide) L1_13, rdN_blk rfl (by decide) L2_13, rfl⟩
        have hhq : QS (mkRat 1 T * mkRat 1 2) 100 := ((A1_13.qs (by omega)).mul (A2_13.qs (by omega))).mono (by omega)
        go_wp2_with fail
        refine (qmul A1_13 (by omega) A2_13 (by omega)).mono ?_
        rintro e w14 ⟨ha, hn, hc, hb, hm, hd, rfl, hO, hO', hDh, hB⟩
        have hB_14 : Below v13.heap.size v13 w14 := (bl.next hB)
        have X_14 := X_13.next hB_14
        have Q_14 := Q_13.next hB_14
        have Y_14 := Y_13.next hB_14
        have O_14 := O_13.next hB_14
        have L1_14 := L1_13.next hB_14
        have L2_14 := L2_13.next hB_14
        have Ox_14 := Ox_13.below hB_14
        have Px_14 := Px_13.below hB_14
        have Oy_14 := Oy_13.below hB_14
        have Py_14 := Py_13.below hB_14
        have Oo_14 := Oo_13.below hB_14
        have Po_14 := Po_13.below hB_14
        have T_14 := T_13.below hB_14
        have U_14 := U_13.below hB_14
        have A1_14 := A1_13.below hB_14
        have A2_14 := A2_13.below hB_14
        have hbel_14 := hbel_13.next hB_14
        have hsz_14 := hB_14.size
        clear X_13 Q_13 Y_13 O_13 L1_13 L2_13 Ox_13 Px_13 Oy_13 Py_13 Oo_13 Po_13 T_13 U_13 A1_13 A2_13 hbel_13 hB_14
        have Oh_14 := hO
        have ltOh := hO.ltB
        have Ph_14 := hO'
        have ltPh := hO'.ltB
        clear hO hO'
        try clear hB
        clear A1_14
        clear A2_14
        generalize mkRat 1 T * mkRat 1 2 = h at *
        have hbx := blk_new w14 #[Value.bool (decide (h.num < 0)), Value.slice ha hn hc, Value.slice hb hm hd] 29
        have hbB := (Below.refl w14.heap.size w14).alloc (Nat.le_refl _) (.cells #[Value.bool (decide (h.num < 0)), Value.slice ha hn hc, Value.slice hb hm hd] 29)
        have hltH := hbx.lt
        have hB_15 : Below w14.heap.size w14 (w14.alloc (.cells #[Value.bool (decide (h.num < 0)), Value.slice ha hn hc, Value.slice hb hm hd] 29)) := hbB
        have X_15 := X_14.next hB_15
        have Q_15 := Q_14.next hB_15
        have Y_15 := Y_14.next hB_15
        have O_15 := O_14.next hB_15
        have L1_15 := L1_14.next hB_15
        have L2_15 := L2_14.next hB_15
        have Ox_15 := Ox_14.below hB_15
        have Px_15 := Px_14.below hB_15
        have Oy_15 := Oy_14.below hB_15
        have Py_15 := Py_14.below hB_15
        have Oo_15 := Oo_14.below hB_15
        have Po_15 := Po_14.below hB_15
        have T_15 := T_14.below hB_15
        have U_15 := U_14.below hB_15
        have Oh_15 := Oh_14.below hB_15
        have Ph_15 := Ph_14.below hB_15
        have hbel_15 := hbel_14.next hB_15
        have hsz_15 := hB_15.size
        clear hB_15
        have H_15 := hbx
        clear hbx hbB
        have cO_15_0 : _ = some (Value.bool (decide (o.num < 0))) := O_15.cell 0
        have fO_15_0 := O_15.free 0
        have cO_15_1 : _ = some (Value.slice oa on oc) := O_15.cell 1
        have fO_15_1 := O_15.free 1
        have cO_15_2 : _ = some (Value.slice ob om od) := O_15.cell 2
        have fO_15_2 := O_15.free 2
        have cH_15_0 : _ = some (Value.bool (decide (h.num < 0))) := H_15.cell 0
        have cH_15_1 : _ = some (Value.slice ha hn hc) := H_15.cell 1
        have cH_15_2 : _ = some (Value.slice hb hm hd) := H_15.cell 2
        go_wp2_with fail
        clear X_14 Q_14 Y_14 O_14 L1_14 L2_14 Ox_14 Px_14 Oy_14 Py_14 Oo_14 Po_14 T_14 U_14 Oh_14 Ph_14 hbel_14
        generalize (w14.alloc (.cells #[Value.bool (decide (h.num < 0)), Value.slice ha hn hc, Value.slice hb hm hd] 29)) = v15 at *
        go_wp2_with fail
        refine (qcmp (Oo_15.rdQ Po_15 hoqs) (by omega) (Oh_15.rdQ Ph_15 hhq) (by omega)).mono ?_
        rintro e w16 ⟨rfl, hB⟩
        have hB_16 : Below v15.heap.size v15 w16 := (bl.next hB)
        have X_16 := X_15.next hB_16
        have Q_16 := Q_15.next hB_16
        have Y_16 := Y_15.next hB_16
        have O_16 := O_15.next hB_16
        have L1_16 := L1_15.next hB_16
        have L2_16 := L2_15.next hB_16
        have H_16 := H_15.next hB_16
        have Ox_16 := Ox_15.below hB_16
        have Px_16 := Px_15.below hB_16
        have Oy_16 := Oy_15.below hB_16
        have Py_16 := Py_15.below hB_16
        have Oo_16 := Oo_15.below hB_16
        have Po_16 := Po_15.below hB_16
        have T_16 := T_15.below hB_16
        have U_16 := U_15.below hB_16
        have Oh_16 := Oh_15.below hB_16
        have Ph_16 := Ph_15.below hB_16
        have hbel_16 := hbel_15.next hB_16
        have hsz_16 := hB_16.size
        clear X_15 Q_15 Y_15 O_15 cO_15_0 fO_15_0 cO_15_1 fO_15_1 cO_15_2 fO_15_2 L1_15 L2_15 H_15 cH_15_0 cH_15_1 cH_15_2 Ox_15 Px_15 Oy_15 Py_15 Oo_15 Po_15 T_15 U_15 Oh_15 Ph_15 hbel_15 hB_16
        try clear hB
        generalize cmpQ o h = cv at *
        obtain ⟨dv, hdv⟩ : ∃ v, cmpQ y q = v := ⟨_, rfl⟩
        have hdr := cmpQ_range y q
        rw [hdv] at hdr
        have hfin : cv < 0 ∨ (0 ≤ cv ∧ dv = -1) := by
          rcases Int.lt_or_le cv 0 with h8 | h8
          · exact .inl h8
          · refine .inr ⟨h8, ?_⟩
            have h9 := ho2.out (by omega)
            rw [← hdv]
            exact cmpQ_lt h9
        clear ho2
        have cY_16_0 : _ = some (Value.bool (decide (y.num < 0))) := Y_16.cell 0
        have cY_16_1 : _ = some (Value.slice ya yn yc) := Y_16.cell 1
        have cY_16_2 : _ = some (Value.slice yb ym yd) := Y_16.cell 2
        have cQ_16_0 : _ = some (Value.bool (decide (q.num < 0))) := Q_16.cell 0
        have cQ_16_1 : _ = some (Value.slice xa xn xc) := Q_16.cell 1
        have cQ_16_2 : _ = some (Value.slice xb xm xd) := Q_16.cell 2
        go_wp2_with fail
        refine (qcmp (Oy_16.rdQ Py_16 hys) (by omega) (Ox_16.rdQ Px_16 hqs) (by omega)).mono ?_
        rw [hdv]
        rintro e w17 ⟨rfl, hB⟩
        have hB_17 : Below w16.heap.size w16 w17 := (bl.next hB)
        have X_17 := X_16.next hB_17
        have Q_17 := Q_16.next hB_17
        have Y_17 := Y_16.next hB_17
        have O_17 := O_16.next hB_17
        have L1_17 := L1_16.next hB_17
        have L2_17 := L2_16.next hB_17
        have H_17 := H_16.next hB_17
        have Ox_17 := Ox_16.below hB_17
        have Px_17 := Px_16.below hB_17
        have Oy_17 := Oy_16.below hB_17
        have Py_17 := Py_16.below hB_17
        have Oo_17 := Oo_16.below hB_17
        have Po_17 := Po_16.below hB_17
        have T_17 := T_16.below hB_17
        have U_17 := U_16.below hB_17
        have Oh_17 := Oh_16.below hB_17
        have Ph_17 := Ph_16.below hB_17
        have hbel_17 := hbel_16.next hB_17
        have hsz_17 := hB_17.size
        clear X_16 Q_16 cQ_16_0 cQ_16_1 cQ_16_2 Y_16 cY_16_0 cY_16_1 cY_16_2 O_16 L1_16 L2_16 H_16 Ox_16 Px_16 Oy_16 Py_16 Oo_16 Po_16 T_16 U_16 Oh_16 Ph_16 hbel_16 hB_17
        try clear hB
        have cQ_17_0 : _ = some (Value.bool (decide (q.num < 0))) := Q_17.cell 0
        have cQ_17_1 : _ = some (Value.slice xa xn xc) := Q_17.cell 1
        have cQ_17_2 : _ = some (Value.slice xb xm xd) := Q_17.cell 2
        go_wp2_with fail
        refine (qsign (Ox_17.rdQ Px_17 hqs) (by omega)).mono ?_
        rintro e w18 ⟨rfl, hB⟩
        have hB_18 : Below w17.heap.size w17 w18 := (bl.next hB)
        have X_18 := X_17.next hB_18
        have Q_18 := Q_17.next hB_18
        have Y_18 := Y_17.next hB_18
        have O_18 := O_17.next hB_18
        have L1_18 := L1_17.next hB_18
        have L2_18 := L2_17.next hB_18
        have H_18 := H_17.next hB_18
        have Ox_18 := Ox_17.below hB_18
        have Px_18 := Px_17.below hB_18
        have Oy_18 := Oy_17.below hB_18
        have Py_18 := Py_17.below hB_18
        have Oo_18 := Oo_17.below hB_18
        have Po_18 := Po_17.below hB_18
        have T_18 := T_17.below hB_18
        have U_18 := U_17.below hB_18
        have Oh_18 := Oh_17.below hB_18
        have Ph_18 := Ph_17.below hB_18
        have hbel_18 := hbel_17.next hB_18
        have hsz_18 := hB_18.size
        clear X_17 Q_17 cQ_17_0 cQ_17_1 cQ_17_2 Y_17 O_17 L1_17 L2_17 H_17 Ox_17 Px_17 Oy_17 Py_17 Oo_17 Po_17 T_17 U_17 Oh_17 Ph_17 hbel_17 hB_18
        try clear hB
        have cY_18_0 : _ = some (Value.bool (decide (y.num < 0))) := Y_18.cell 0
        have cY_18_1 : _ = some (Value.slice ya yn yc) := Y_18.cell 1
        have cY_18_2 : _ = some (Value.slice yb ym yd) := Y_18.cell 2
        have cQ_18_0 : _ = some (Value.bool (decide (q.num < 0))) := Q_18.cell 0
        have cQ_18_1 : _ = some (Value.slice xa xn xc) := Q_18.cell 1
        have cQ_18_2 : _ = some (Value.slice xb xm xd) := Q_18.cell 2
        go_wp2_with fail
        refine (qcmp (Oy_18.rdQ Py_18 hys) (by omega) (Ox_18.rdQ Px_18 hqs) (by omega)).mono ?_
        rw [hdv]
        rintro e w19 ⟨rfl, hB⟩
        have hB_19 : Below w18.heap.size w18 w19 := (bl.next hB)
        have X_19 := X_18.next hB_19
        have Q_19 := Q_18.next hB_19
        have Y_19 := Y_18.next hB_19
        have O_19 := O_18.next hB_19
        have L1_19 := L1_18.next hB_19
        have L2_19 := L2_18.next hB_19
        have H_19 := H_18.next hB_19
        have Ox_19 := Ox_18.below hB_19
        have Px_19 := Px_18.below hB_19
        have Oy_19 := Oy_18.below hB_19
        have Py_19 := Py_18.below hB_19
        have Oo_19 := Oo_18.below hB_19
        have Po_19 := Po_18.below hB_19
        have T_19 := T_18.below hB_19
        have U_19 := U_18.below hB_19
        have Oh_19 := Oh_18.below hB_19
        have Ph_19 := Ph_18.below hB_19
        have hbel_19 := hbel_18.next hB_19
        have hsz_19 := hB_19.size
        clear X_18 Q_18 cQ_18_0 cQ_18_1 cQ_18_2 Y_18 cY_18_0 cY_18_1 cY_18_2 O_18 L1_18 L2_18 H_18 Ox_18 Px_18 Oy_18 Py_18 Oo_18 Po_18 T_18 U_18 Oh_18 Ph_18 hbel_18 hB_19
        try clear hB
        clear hdv
        rcases hfin with h8 | ⟨h8, rfl⟩
        · go_wp2
          go_ret
          exact ⟨rfl, hbel_19⟩
        · go_wp2
          go_ret
          exact ⟨rfl, hbel_19⟩

set_option maxRecDepth 100000 in
set_option maxHeartbeats 8000000 in
theorem dnear_10 {w : World} {q : Rat} {s : Bool} {a b : Option Addr} {n c m d : Nat} (z : Int) (h1 : -9223372036854775808 ≤ z) (h2 : z ≤ 9223372036854775807) (HF : Hid (∀ W, Below w.heap.size w W → Calls Try.prog 59 #[.agg #[.bool s, .slice a n c, .slice b m d]] W (fun e w' => RetQ W q e w'))) (hqs : QS q 20) (N : Nat) (hN : bdN z 200 = (N : Int)) (hN2 : N ≤ 200) (hoff : rdQ q N - q < 0) (hneg : ¬ q < 0) :
    Calls Try.prog 13 #[.agg #[.bool s, .slice a n c, .slice b m d], .int .i64 z] w (fun e w' => e = .returned (.bool true) ∧ Below w.heap.size w w') := by
  have HB := hid (fun w => lbound (w := w) z 200 h1 h2 (by omega) (by omega))
  rw [hN] at HB
  obtain ⟨bb, P, hsy, hS0, hSb, hpt, hPz, hPn⟩ := near_text q N
  have hsz := near_size hqs hN2
  obtain ⟨hd1, hd2⟩ := near_back q N
  have HP := hid (fun w => dparse (w := w) (roT q N) hsz)
  rw [hd1, hd2] at HP
  have HR := hid (fun (W : World) {a' b' : Option Addr} {n' c' m' d' : Nat} (h : RdQ 20 W (decide (q.num < 0)) a' n' c' b' m' d' q) => dround h (by omega) N (by omega))
  have hys := rdQ_qs hqs hN2
  have hnear := near_law q N
  have hon : decide (sgnQ (rdQ q N - q) < 0) = true := by rw [sgnQ_dec]; simp [hoff]
  have hqn : decide (sgnQ q < 0) = false := by rw [sgnQ_dec]; simp [hneg]
  have hof : offQ q (rdQ q N) = -(rdQ q N - q) := by unfold offQ; rw [if_pos hoff]
  rw [hof] at hnear
  clear hd1 hd2 hof hoff hN
  generalize rdQ q N = y at *
  generalize roT q N = S at *
  obtain ⟨hl, ho⟩ := hnear
  have ho2 := hid (fun h => (ho h).2 hneg)
  clear ho
  have hpt := hid hpt
  have hPz := hid hPz
  have hPn := hid hPn
  have hx0 := hSb hS0
  have hne := be_ne (s := S) (by omega)
  have hbb : (bb != bb) = false := by simp
  clear hSb hneg
  have hent := ent1 w #[Value.bool s, Value.slice a n c, Value.slice b m d] 29
  go_enter Try.func13, Try.ntmps13
  go_wp2_with fail
  generalize (w.alloc (.cells #[Value.bool s, Value.slice a n c, Value.slice b m d] 29)) = W0 at hent ⊢
  obtain ⟨X_0, hbel_0, hsz_0⟩ := hent
  go_wp2_with fail
  refine (lalive).mono ?_
  rintro e w1 ⟨rfl, hB⟩
  have hB_1 : Below W0.heap.size W0 w1 := (bl.next hB)
  have X_1 := X_0.next hB_1
  have hbel_1 := hbel_0.next hB_1
  have hsz_1 := hB_1.size
  clear X_0 hbel_0 hB_1
  try clear hB
  have cX_1_0 : _ = some (Value.bool s) := X_1.cell 0
  have cX_1_1 : _ = some (Value.slice a n c) := X_1.cell 1
  have cX_1_2 : _ = some (Value.slice b m d) := X_1.cell 2
  go_wp2_with fail
  refine (HF.out _ hbel_1).mono ?_
  rintro e w2 ⟨xa, xn, xc, xb, xm, xd, rfl, hO, hO', hDx, hB⟩
  have hB_2 : Below w1.heap.size w1 w2 := (bl.next hB)
  have X_2 := X_1.next hB_2
  have hbel_2 := hbel_1.next hB_2
  have hsz_2 := hB_2.size
  clear X_1 cX_1_0 cX_1_1 cX_1_2 hbel_1 hB_2
  have Ox_2 := hO
  have ltOx := hO.ltB
  have Px_2 := hO'
  have ltPx := hO'.ltB
  clear hO hO'
  try clear hB
  have hbx := blk_new w2 #[Value.bool (decide (q.num < 0)), Value.slice xa xn xc, Value.slice xb xm xd] 29
  have hbB := (Below.refl w2.heap.size w2).alloc (Nat.le_refl _) (.cells #[Value.bool (decide (q.num < 0)), Value.slice xa xn xc, Value.slice xb xm xd] 29)
  have hltQ := hbx.lt
  have hB_3 : Below w2.heap.size w2 (w2.alloc (.cells #[Value.bool (decide (q.num < 0)), Value.slice xa xn xc, Value.slice xb xm xd] 29)) := hbB
  have X_3 := X_2.next hB_3
  have Ox_3 := Ox_2.below hB_3
  have Px_3 := Px_2.below hB_3
  have hbel_3 := hbel_2.next hB_3
  have hsz_3 := hB_3.size
  clear hB_3
  have Q_3 := hbx
  clear hbx hbB
  go_wp2_with fail
  clear X_2 Ox_2 Px_2 hbel_2
  generalize (w2.alloc (.cells #[Value.bool (decide (q.num < 0)), Value.slice xa xn xc, Value.slice xb xm xd] 29)) = v3 at *
  go_wp2_with fail
  refine (HB.out _).mono ?_
  rintro e w4 ⟨rfl, hB⟩
  have hB_4 : Below v3.heap.size v3 w4 := (bl.next hB)
  have X_4 := X_3.next hB_4
  have Q_4 := Q_3.next hB_4
  have Ox_4 := Ox_3.below hB_4
  have Px_4 := Px_3.below hB_4
  have hbel_4 := hbel_3.next hB_4
  have hsz_4 := hB_4.size
  clear X_3 Q_3 Ox_3 Px_3 hbel_3 hB_4
  try clear hB
  have cQ_4_0 : _ = some (Value.bool (decide (q.num < 0))) := Q_4.cell 0
  have cQ_4_1 : _ = some (Value.slice xa xn xc) := Q_4.cell 1
  have cQ_4_2 : _ = some (Value.slice xb xm xd) := Q_4.cell 2
  go_wp2_with fail
  refine (HR.out _ (Ox_4.rdQ Px_4 hqs)).mono ?_
  rintro e w5 ⟨rfl, hB⟩
  have hB_5 : Below w4.heap.size w4 w5 := (bl.next hB)
  have X_5 := X_4.next hB_5
  have Q_5 := Q_4.next hB_5
  have Ox_5 := Ox_4.below hB_5
  have Px_5 := Px_4.below hB_5
  have hbel_5 := hbel_4.next hB_5
  have hsz_5 := hB_5.size
  clear X_4 Q_4 cQ_4_0 cQ_4_1 cQ_4_2 Ox_4 Px_4 hbel_4 hB_5
  try clear hB
  go_wp2_with fail
  refine (HP.out _).mono ?_
  rintro e w6 ⟨ya, yn, yc, yb, ym, yd, rfl, hO, hO', hDy, hB⟩
  have hB_6 : Below w5.heap.size w5 w6 := (bl.next hB)
  have X_6 := X_5.next hB_6
  have Q_6 := Q_5.next hB_6
  have Ox_6 := Ox_5.below hB_6
  have Px_6 := Px_5.below hB_6
  have hbel_6 := hbel_5.next hB_6
  have hsz_6 := hB_6.size
  clear X_5 Q_5 Ox_5 Px_5 hbel_5 hB_6
  have Oy_6 := hO
  have ltOy := hO.ltB
  have Py_6 := hO'
  have ltPy := hO'.ltB
  clear hO hO'
  try clear hB
  have hbx := blk_new w6 #[Value.bool (qsg y 0), Value.slice ya yn yc, Value.slice yb ym yd] 29
  have hbB := (Below.refl w6.heap.size w6).alloc (Nat.le_refl _) (.cells #[Value.bool (qsg y 0), Value.slice ya yn yc, Value.slice yb ym yd] 29)
  have hltY := hbx.lt
  have hB_7 : Below w6.heap.size w6 (w6.alloc (.cells #[Value.bool (qsg y 0), Value.slice ya yn yc, Value.slice yb ym yd] 29)) := hbB
  have X_7 := X_6.next hB_7
  have Q_7 := Q_6.next hB_7
  have Ox_7 := Ox_6.below hB_7
  have Px_7 := Px_6.below hB_7
  have Oy_7 := Oy_6.below hB_7
  have Py_7 := Py_6.below hB_7
  have hbel_7 := hbel_6.next hB_7
  have hsz_7 := hB_7.size
  clear hB_7
  have Y_7 := hbx
  clear hbx hbB
  go_wp2_with fail
  clear X_6 Q_6 Ox_6 Px_6 Oy_6 Py_6 hbel_6
  generalize (w6.alloc (.cells #[Value.bool (qsg y 0), Value.slice ya yn yc, Value.slice yb ym yd] 29)) = v7 at *
  rw [qnl_ok] at Oy_7
  rw [qdl_ok] at Py_7
  rw [qsg_ok] at Y_7
  have hf1 : ((0 : Int) != 0) = false := by decide
  go_wp2_with fail
  obtain ⟨W0, hW0⟩ : ∃ y : World, y = v7 := ⟨_, rfl⟩
  subst hW0
  go_loopw [12, 13] (fun pv iv wr => ∃ (i : Nat) (pz : Int), i ≤ S.size ∧ iv = .int .i64 i ∧ pv = .int .i64 pz ∧ Hid ((P < i ∧ pz = (P : Int)) ∨ (i ≤ P ∧ pz = -1)) ∧ wr = W0) (fun _ iv _ => S.size - (intOf iv).toNat)
  case atStart => exact ⟨0, -1, by omega, rfl, rfl, .inr ⟨by omega, rfl⟩, rfl⟩
  case round =>
    obtain ⟨i, pz, hi, rfl, rfl, hpz, hwr⟩ := hrel
    subst hwr
    by_cases hlt : i < S.size
    · have hx := by_get S i hlt
      obtain ⟨xx, hxe⟩ : ∃ x, S[i].toNat = x := ⟨_, rfl⟩
      have hp := hpt.out i hlt
      rw [hx, hxe] at hp
      by_cases h46 : xx = 46
      · have hd : ((xx : Int) == 46) = true := by simp [h46]
        have hn : Hid ((P < i + 1 ∧ (i : Int) = (P : Int)) ∨ (i + 1 ≤ P ∧ (i : Int) = -1)) := by have := hp.1 h46; exact .inl ⟨by omega, by omega⟩
        clear hp hx hpz h46
        go_wp2
        go_roundw
        case rel => exact ⟨i + 1, i, by omega, by go_num, rfl, hn, by first | trivial | rfl⟩
        case measure => simp [intOf]; omega
      · have hd : ((xx : Int) == 46) = false := by simp; omega
        have hn : Hid ((P < i + 1 ∧ pz = (P : Int)) ∨ (i + 1 ≤ P ∧ pz = -1)) := by
          have h1 := mt hp.2 h46
          rcases hpz.out with ⟨h2, h3⟩ | ⟨h2, h3⟩
          · exact .inl ⟨by omega, h3⟩
          · exact .inr ⟨by omega, h3⟩
        clear hp hx hpz h46
        go_wp2
        go_roundw
        case rel => exact ⟨i + 1, pz, by omega, by go_num, rfl, hn, by first | trivial | rfl⟩
        case measure => simp [intOf]; omega
    · obtain rfl : i = S.size := by omega
      have hpv : (N = 0 → pz = -1) ∧ (N ≠ 0 → pz = ((S.size - N - 1 : Nat) : Int) ∧ N + 1 ≤ S.size) := by
        have h1 := hPz.out
        have h2 := hPn.out
        rcases hpz.out with ⟨h3, h4⟩ | ⟨h3, h4⟩
        · exact ⟨fun e => by have := h1 e; omega, fun e => by have := h2 e; omega⟩
        · exact ⟨fun e => h4, fun e => by have := h2 e; omega⟩
      obtain ⟨c0, hc0⟩ : ∃ x, S[0].toNat = x := ⟨_, rfl⟩
      rw [hc0] at hx0
      clear hpt hPz hPn hpz hlt
      go_upto_region 14 with fail
      go_cut [86] (fun s86 wx => s86 = .bool false ∧ Below wr.heap.size wr wx)
      case first =>
        by_cases hN0 : N = 0
        · have hpz := hpv.1 hN0
          subst hpz
          have hn1 : ((N : Int) == 0) = true := by simp; omega
          have hn2 : decide ((0 : Int) < (N : Int)) = false := by simp; omega
          have hn3 : decide (0 < N) = false := by simp; omega
          clear hpv hN0
          have hbR_7 : Below wr.heap.size wr wr := Below.refl _ _
          have cY_7_0 : _ = some (Value.bool (decide (y.num < 0))) := Y_7.cell 0
          have cY_7_1 : _ = some (Value.slice ya yn yc) := Y_7.cell 1
          have cY_7_2 : _ = some (Value.slice yb ym yd) := Y_7.cell 2
          refine wp_region_noPanic ?_
          refine wp_region_held_drew (S := (fun w' => w'.cell? ⟨w6.heap.size, 0, none⟩ = some (Value.bool (decide (y.num < 0))) ∧ w'.cell? ⟨w6.heap.size, 1, none⟩ = some (Value.slice ya yn yc) ∧ w'.cell? ⟨w6.heap.size, 2, none⟩ = some (Value.slice yb ym yd))) (by kernel_rfl) ⟨cY_7_0, cY_7_1, cY_7_2⟩ (fun hHeld => ?_)
          refine take_run (i := 0) (d := some 59) (v := .int .i64 (N : Int)) rfl rfl (by kernel_rfl) (by kernel_rfl) (by kernel_rfl) (fun _ _ _ h => h) (by rfl) (fun w hSw => by (try dsimp only at hSw); go_simp) (by assumption) ?_
          (try simp only [Act.put, List.setIfInBounds_toArray, List.set_cons_zero, List.set_cons_succ])
          refine take_run (i := 1) (d := some 60) (v := .bool true) rfl rfl (by kernel_rfl) (by kernel_rfl) (by kernel_rfl) (fun _ _ _ h => h) (by rfl) (fun w hSw => by (try dsimp only at hSw); go_simp) (by assumption) ?_
          (try simp only [Act.put, List.setIfInBounds_toArray, List.set_cons_zero, List.set_cons_succ])
          refine take_run (i := 2) (d := some 61) (v := .bool true) rfl rfl (by kernel_rfl) (by kernel_rfl) (by kernel_rfl) (fun _ _ _ h => h) (by rfl) (fun w hSw => by (try dsimp only at hSw); go_simp) (by assumption) ?_
          (try simp only [Act.put, List.setIfInBounds_toArray, List.set_cons_zero, List.set_cons_succ])
          refine take_run (i := 3) (d := some 62) (v := .int .i64 (-1)) rfl rfl (by kernel_rfl) (by kernel_rfl) (by kernel_rfl) (fun _ _ _ h => h) (by rfl) (fun w hSw => by (try dsimp only at hSw); go_simp) (by assumption) ?_
          (try simp only [Act.put, List.setIfInBounds_toArray, List.set_cons_zero, List.set_cons_succ])
          refine take_run (i := 4) (d := some 63) (v := .bool false) rfl rfl (by kernel_rfl) (by kernel_rfl) (by kernel_rfl) (fun _ _ _ h => h) (by rfl) (fun w hSw => by (try dsimp only at hSw); go_simp) (by assumption) ?_
          (try simp only [Act.put, List.setIfInBounds_toArray, List.set_cons_zero, List.set_cons_succ])
          refine take_run (i := 5) (d := some 64) (v := .bool false) rfl rfl (by kernel_rfl) (by kernel_rfl) (by kernel_rfl) (fun _ _ _ h => h) (by rfl) (fun w hSw => by (try dsimp only at hSw); go_simp) (by assumption) ?_
          (try simp only [Act.put, List.setIfInBounds_toArray, List.set_cons_zero, List.set_cons_succ])
          refine take_run (i := 6) (d := some 65) (v := .bool false) rfl rfl (by kernel_rfl) (by kernel_rfl) (by kernel_rfl) (fun _ _ _ h => h) (by rfl) (fun w hSw => by (try dsimp only at hSw); go_simp) (by assumption) ?_
          (try simp only [Act.put, List.setIfInBounds_toArray, List.set_cons_zero, List.set_cons_succ])
          refine take_run (i := 7) (d := some 66) (v := .int .i64 (N : Int)) rfl rfl (by kernel_rfl) (by kernel_rfl) (by kernel_rfl) (fun _ _ _ h => h) (by rfl) (fun w hSw => by (try dsimp only at hSw); go_simp) (by assumption) ?_
          (try simp only [Act.put, List.setIfInBounds_toArray, List.set_cons_zero, List.set_cons_succ])
          refine take_run (i := 8) (d := some 67) (v := .bool false) rfl rfl (by kernel_rfl) (by kernel_rfl) (by kernel_rfl) (fun _ _ _ h => h) (by rfl) (fun w hSw => by (try dsimp only at hSw); go_simp) (by assumption) ?_
          (try simp only [Act.put, List.setIfInBounds_toArray, List.set_cons_zero, List.set_cons_succ])
          refine take_run (i := 9) (d := some 68) (v := .bool false) rfl rfl (by kernel_rfl) (by kernel_rfl) (by kernel_rfl) (fun _ _ _ h => h) (by rfl) (fun w hSw => by (try dsimp only at hSw); go_simp) (by assumption) ?_
          (try simp only [Act.put, List.setIfInBounds_toArray, List.set_cons_zero, List.set_cons_succ])
          refine take_skip (i := 10) (d := some 69) rfl rfl (by kernel_rfl) (by kernel_rfl) (by kernel_rfl) (fun _ _ _ h => h) (by rfl) (by assumption) ?_
          (try simp only [Act.put, List.setIfInBounds_toArray, List.set_cons_zero, List.set_cons_succ])
          refine take_skip (i := 11) (d := some 70) rfl rfl (by kernel_rfl) (by kernel_rfl) (by kernel_rfl) (fun _ _ _ h => h) (by rfl) (by assumption) ?_
          (try simp only [Act.put, List.setIfInBounds_toArray, List.set_cons_zero, List.set_cons_succ])
          refine take_skip (i := 12) (d := some 71) rfl rfl (by kernel_rfl) (by kernel_rfl) (by kernel_rfl) (fun _ _ _ h => h) (by rfl) (by assumption) ?_
          (try simp only [Act.put, List.setIfInBounds_toArray, List.set_cons_zero, List.set_cons_succ])
          refine take_skip (i := 13) (d := some 72) rfl rfl (by kernel_rfl) (by kernel_rfl) (by kernel_rfl) (fun _ _ _ h => h) (by rfl) (by assumption) ?_
          (try simp only [Act.put, List.setIfInBounds_toArray, List.set_cons_zero, List.set_cons_succ])
          refine take_skip (i := 14) (d := some 73) rfl rfl (by kernel_rfl) (by kernel_rfl) (by kernel_rfl) (fun _ _ _ h => h) (by rfl) (by assumption) ?_
          (try simp only [Act.put, List.setIfInBounds_toArray, List.set_cons_zero, List.set_cons_succ])
          refine take_skip (i := 15) (d := some 74) rfl rfl (by kernel_rfl) (by kernel_rfl) (by kernel_rfl) (fun _ _ _ h => h) (by rfl) (by assumption) ?_
          (try simp only [Act.put, List.setIfInBounds_toArray, List.set_cons_zero, List.set_cons_succ])
          refine take_skip (i := 16) (d := some 75) rfl rfl (by kernel_rfl) (by kernel_rfl) (by kernel_rfl) (fun _ _ _ h => h) (by rfl) (by assumption) ?_
          (try simp only [Act.put, List.setIfInBounds_toArray, List.set_cons_zero, List.set_cons_succ])
          refine take_run (i := 17) (d := some 76) (v := .bool false) rfl rfl (by kernel_rfl) (by kernel_rfl) (by kernel_rfl) (fun _ _ _ h => h) (by rfl) (fun w hSw => by (try dsimp only at hSw); go_simp) (by assumption) ?_
          (try simp only [Act.put, List.setIfInBounds_toArray, List.set_cons_zero, List.set_cons_succ])
          refine take_run (i := 18) (d := some 77) (v := .bool false) rfl rfl (by kernel_rfl) (by kernel_rfl) (by kernel_rfl) (fun _ _ _ h => h) (by rfl) (fun w hSw => by (try dsimp only at hSw); go_simp) (by assumption) ?_
          (try simp only [Act.put, List.setIfInBounds_toArray, List.set_cons_zero, List.set_cons_succ])
          refine take_run (i := 19) (d := some 78) (v := .bool false) rfl rfl (by kernel_rfl) (by kernel_rfl) (by kernel_rfl) (fun _ _ _ h => h) (by rfl) (fun w hSw => by (try dsimp only at hSw); go_simp) (by assumption) ?_
          (try simp only [Act.put, List.setIfInBounds_toArray, List.set_cons_zero, List.set_cons_succ])
          refine take_run (i := 20) (d := some 79) (v := .agg #[Value.bool (decide (y.num < 0)), Value.slice ya yn yc, Value.slice yb ym yd]) rfl rfl (by kernel_rfl) (by kernel_rfl) (by kernel_rfl) (fun _ _ _ h => h) (by rfl) (fun w hSw => by (try dsimp only at hSw); go_simp) (by assumption) ?_
          (try simp only [Act.put, List.setIfInBounds_toArray, List.set_cons_zero, List.set_cons_succ])
          refine take_run (i := 23) (d := some 82) (v := .string S) rfl rfl (by kernel_rfl) (by kernel_rfl) (by kernel_rfl) (fun _ _ _ h => h) (by rfl) (fun w hSw => by (try dsimp only at hSw); go_simp) (by assumption) ?_
          (try simp only [Act.put, List.setIfInBounds_toArray, List.set_cons_zero, List.set_cons_succ])
          refine take_run (i := 24) (d := some 83) (v := .int .u8 (c0 : Int)) rfl rfl (by kernel_rfl) (by kernel_rfl) (by kernel_rfl) (fun _ _ _ h => h) (by rfl) (fun w hSw => by (try dsimp only at hSw); go_simp) (by assumption) ?_
          (try simp only [Act.put, List.setIfInBounds_toArray, List.set_cons_zero, List.set_cons_succ])
          refine take_run (i := 25) (d := some 84) (v := .bool bb) rfl rfl (by kernel_rfl) (by kernel_rfl) (by kernel_rfl) (fun _ _ _ h => h) (by rfl) (fun w hSw => by (try dsimp only at hSw); go_simp) (by assumption) ?_
          (try simp only [Act.put, List.setIfInBounds_toArray, List.set_cons_zero, List.set_cons_succ])
          refine wpAnyH_ready (rs := [21]) (by kernel_rfl) (by simp) ?_
          refine AllReadyH.cons (o := _) rfl (fun K hK => ?_) AllReadyH.nil
          go_simp
          refine (qsign ((Oy_7.below bl).rdQ (Py_7.below bl) hys) (by omega)).mono ?_
          rintro e w8 ⟨rfl, hB⟩
          have hB_8 : Below wr.heap.size wr w8 := (bl.next hB)
          have X_8 := X_7.next hB_8
          have Q_8 := Q_7.next hB_8
          have Y_8 := Y_7.next hB_8
          have cY_8_0 : _ = some (Value.bool (decide (y.num < 0))) := Y_8.cell 0
          have cY_8_1 : _ = some (Value.slice ya yn yc) := Y_8.cell 1
          have cY_8_2 : _ = some (Value.slice yb ym yd) := Y_8.cell 2
          have Ox_8 := Ox_7.below hB_8
          have Px_8 := Px_7.below hB_8
          have Oy_8 := Oy_7.below hB_8
          have Py_8 := Py_7.below hB_8
          have hbR_8 := hbR_7.next hB_8
          have hbel_8 := hbel_7.next hB_8
          have hsz_8 := hB_8.size
          clear X_7 Q_7 Y_7 cY_7_0 cY_7_1 cY_7_2 Ox_7 Px_7 Oy_7 Py_7 hbR_7 hbel_7 hB_8
          try clear hB
          (try go_wp2_with fail)
          refine hK.out _ _ ⟨cY_8_0, cY_8_1, cY_8_2⟩ (fun hHeld2 => ?_)
          clear hK K hHeld
          (try simp only [Act.put, List.setIfInBounds_toArray, List.set_cons_zero, List.set_cons_succ])
          refine take_run (i := 22) (d := some 81) (v := .bool bb) rfl rfl (by kernel_rfl) (by kernel_rfl) (by kernel_rfl) (fun _ _ _ h => h) (by rfl) (fun w hSw => by (try dsimp only at hSw); go_simp) (by assumption) ?_
          (try simp only [Act.put, List.setIfInBounds_toArray, List.set_cons_zero, List.set_cons_succ])
          refine take_run (i := 26) (d := some 85) (v := .bool false) rfl rfl (by kernel_rfl) (by kernel_rfl) (by kernel_rfl) (fun _ _ _ h => h) (by rfl) (fun w hSw => by (try dsimp only at hSw); go_simp) (by assumption) ?_
          (try simp only [Act.put, List.setIfInBounds_toArray, List.set_cons_zero, List.set_cons_succ])
          refine take_run (i := 27) (d := some 86) (v := .bool false) rfl rfl (by kernel_rfl) (by kernel_rfl) (by kernel_rfl) (fun _ _ _ h => h) (by rfl) (fun w hSw => by (try dsimp only at hSw); go_simp) (by assumption) ?_
          (try simp only [Act.put, List.setIfInBounds_toArray, List.set_cons_zero, List.set_cons_succ])
          refine wpAnyH_done (by kernel_rfl) ?_ _
          refine NoPanic.normal ?_
          clear hn1 hn2 hn3
          all_goals (go_wp2_with fail; go_meet; exact ⟨rfl, hbR_8⟩)
        · obtain ⟨hpz, hNS⟩ := hpv.2 hN0
          obtain ⟨m2, hm2⟩ : ∃ y, S.size - N - 1 = y := ⟨_, rfl⟩
          obtain ⟨m3, hm3⟩ : ∃ y, S.size - N = y := ⟨_, rfl⟩
          rw [hm2] at hpz
          subst hpz
          have hn1 : ((N : Int) == 0) = false := by simp; omega
          have hn2 : decide ((0 : Int) < (N : Int)) = true := by simp; omega
          have hn3 : decide (0 < N) = true := by simp; omega
          have hw1 : IntKind.i64.wrap ((S.size : Int) - (N : Int)) = (m3 : Int) := by rw [IntKind.wrap_i64]; omega
          have hw2 : IntKind.i64.wrap ((m3 : Int) - 1) = (m2 : Int) := by rw [IntKind.wrap_i64]; omega
          have hw3 : ((m2 : Int) != (m2 : Int)) = false := by simp
          clear hm2 hm3 hpv hN0
          have hbR_7 : Below wr.heap.size wr wr := Below.refl _ _
          have cY_7_0 : _ = some (Value.bool (decide (y.num < 0))) := Y_7.cell 0
          have cY_7_1 : _ = some (Value.slice ya yn yc) := Y_7.cell 1
          have cY_7_2 : _ = some (Value.slice yb ym yd) := Y_7.cell 2
          refine wp_region_noPanic ?_
          refine wp_region_held_drew (S := (fun w' => w'.cell? ⟨w6.heap.size, 0, none⟩ = some (Value.bool (decide (y.num < 0))) ∧ w'.cell? ⟨w6.heap.size, 1, none⟩ = some (Value.slice ya yn yc) ∧ w'.cell? ⟨w6.heap.size, 2, none⟩ = some (Value.slice yb ym yd))) (by kernel_rfl) ⟨cY_7_0, cY_7_1, cY_7_2⟩ (fun hHeld => ?_)
          refine take_run (i := 0) (d := some 59) (v := .int .i64 (N : Int)) rfl rfl (by kernel_rfl) (by kernel_rfl) (by kernel_rfl) (fun _ _ _ h => h) (by rfl) (fun w hSw => by (try dsimp only at hSw); go_simp) (by assumption) ?_
          (try simp only [Act.put, List.setIfInBounds_toArray, List.set_cons_zero, List.set_cons_succ])
          refine take_run (i := 1) (d := some 60) (v := .bool false) rfl rfl (by kernel_rfl) (by kernel_rfl) (by kernel_rfl) (fun _ _ _ h => h) (by rfl) (fun w hSw => by (try dsimp only at hSw); go_simp) (by assumption) ?_
          (try simp only [Act.put, List.setIfInBounds_toArray, List.set_cons_zero, List.set_cons_succ])
          refine take_run (i := 2) (d := some 61) (v := .bool false) rfl rfl (by kernel_rfl) (by kernel_rfl) (by kernel_rfl) (fun _ _ _ h => h) (by rfl) (fun w hSw => by (try dsimp only at hSw); go_simp) (by assumption) ?_
          (try simp only [Act.put, List.setIfInBounds_toArray, List.set_cons_zero, List.set_cons_succ])
          refine take_skip (i := 3) (d := some 62) rfl rfl (by kernel_rfl) (by kernel_rfl) (by kernel_rfl) (fun _ _ _ h => h) (by rfl) (by assumption) ?_
          (try simp only [Act.put, List.setIfInBounds_toArray, List.set_cons_zero, List.set_cons_succ])
          refine take_skip (i := 4) (d := some 63) rfl rfl (by kernel_rfl) (by kernel_rfl) (by kernel_rfl) (fun _ _ _ h => h) (by rfl) (by assumption) ?_
          (try simp only [Act.put, List.setIfInBounds_toArray, List.set_cons_zero, List.set_cons_succ])
          refine take_run (i := 5) (d := some 64) (v := .bool false) rfl rfl (by kernel_rfl) (by kernel_rfl) (by kernel_rfl) (fun _ _ _ h => h) (by rfl) (fun w hSw => by (try dsimp only at hSw); go_simp) (by assumption) ?_
          (try simp only [Act.put, List.setIfInBounds_toArray, List.set_cons_zero, List.set_cons_succ])
          refine take_run (i := 6) (d := some 65) (v := .bool false) rfl rfl (by kernel_rfl) (by kernel_rfl) (by kernel_rfl) (fun _ _ _ h => h) (by rfl) (fun w hSw => by (try dsimp only at hSw); go_simp) (by assumption) ?_
          (try simp only [Act.put, List.setIfInBounds_toArray, List.set_cons_zero, List.set_cons_succ])
          refine take_run (i := 7) (d := some 66) (v := .int .i64 (N : Int)) rfl rfl (by kernel_rfl) (by kernel_rfl) (by kernel_rfl) (fun _ _ _ h => h) (by rfl) (fun w hSw => by (try dsimp only at hSw); go_simp) (by assumption) ?_
          (try simp only [Act.put, List.setIfInBounds_toArray, List.set_cons_zero, List.set_cons_succ])
          refine take_run (i := 8) (d := some 67) (v := .bool true) rfl rfl (by kernel_rfl) (by kernel_rfl) (by kernel_rfl) (fun _ _ _ h => h) (by rfl) (fun w hSw => by (try dsimp only at hSw); go_simp) (by assumption) ?_
          (try simp only [Act.put, List.setIfInBounds_toArray, List.set_cons_zero, List.set_cons_succ])
          refine take_run (i := 9) (d := some 68) (v := .bool true) rfl rfl (by kernel_rfl) (by kernel_rfl) (by kernel_rfl) (fun _ _ _ h => h) (by rfl) (fun w hSw => by (try dsimp only at hSw); go_simp) (by assumption) ?_
          (try simp only [Act.put, List.setIfInBounds_toArray, List.set_cons_zero, List.set_cons_succ])
          refine take_run (i := 10) (d := some 69) (v := .int .i64 (m2 : Int)) rfl rfl (by kernel_rfl) (by kernel_rfl) (by kernel_rfl) (fun _ _ _ h => h) (by rfl) (fun w hSw => by (try dsimp only at hSw); go_simp) (by assumption) ?_
          (try simp only [Act.put, List.setIfInBounds_toArray, List.set_cons_zero, List.set_cons_succ])
          refine take_run (i := 11) (d := some 70) (v := .string S) rfl rfl (by kernel_rfl) (by kernel_rfl) (by kernel_rfl) (fun _ _ _ h => h) (by rfl) (fun w hSw => by (try dsimp only at hSw); go_simp) (by assumption) ?_
          (try simp only [Act.put, List.setIfInBounds_toArray, List.set_cons_zero, List.set_cons_succ])
          refine take_run (i := 12) (d := some 71) (v := .int .i64 (S.size : Int)) rfl rfl (by kernel_rfl) (by kernel_rfl) (by kernel_rfl) (fun _ _ _ h => h) (by rfl) (fun w hSw => by (try dsimp only at hSw); go_simp) (by assumption) ?_
          (try simp only [Act.put, List.setIfInBounds_toArray, List.set_cons_zero, List.set_cons_succ])
          refine take_run (i := 13) (d := some 72) (v := .int .i64 (N : Int)) rfl rfl (by kernel_rfl) (by kernel_rfl) (by kernel_rfl) (fun _ _ _ h => h) (by rfl) (fun w hSw => by (try dsimp only at hSw); go_simp) (by assumption) ?_
          (try simp only [Act.put, List.setIfInBounds_toArray, List.set_cons_zero, List.set_cons_succ])
          refine take_run (i := 14) (d := some 73) (v := .int .i64 (m3 : Int)) rfl rfl (by kernel_rfl) (by kernel_rfl) (by kernel_rfl) (fun _ _ _ h => h) (by rfl) (fun w hSw => by (try dsimp only at hSw); go_simp) (by assumption) ?_
          (try simp only [Act.put, List.setIfInBounds_toArray, List.set_cons_zero, List.set_cons_succ])
          refine take_run (i := 15) (d := some 74) (v := .int .i64 (m2 : Int)) rfl rfl (by kernel_rfl) (by kernel_rfl) (by kernel_rfl) (fun _ _ _ h => h) (by rfl) (fun w hSw => by (try dsimp only at hSw); go_simp) (by assumption) ?_
          (try simp only [Act.put, List.setIfInBounds_toArray, List.set_cons_zero, List.set_cons_succ])
          refine take_run (i := 16) (d := some 75) (v := .bool false) rfl rfl (by kernel_rfl) (by kernel_rfl) (by kernel_rfl) (fun _ _ _ h => h) (by rfl) (fun w hSw => by (try dsimp only at hSw); go_simp) (by assumption) ?_
          (try simp only [Act.put, List.setIfInBounds_toArray, List.set_cons_zero, List.set_cons_succ])
          refine take_run (i := 17) (d := some 76) (v := .bool false) rfl rfl (by kernel_rfl) (by kernel_rfl) (by kernel_rfl) (fun _ _ _ h => h) (by rfl) (fun w hSw => by (try dsimp only at hSw); go_simp) (by assumption) ?_
          (try simp only [Act.put, List.setIfInBounds_toArray, List.set_cons_zero, List.set_cons_succ])
          refine take_run (i := 18) (d := some 77) (v := .bool false) rfl rfl (by kernel_rfl) (by kernel_rfl) (by kernel_rfl) (fun _ _ _ h => h) (by rfl) (fun w hSw => by (try dsimp only at hSw); go_simp) (by assumption) ?_
          (try simp only [Act.put, List.setIfInBounds_toArray, List.set_cons_zero, List.set_cons_succ])
          refine take_run (i := 19) (d := some 78) (v := .bool false) rfl rfl (by kernel_rfl) (by kernel_rfl) (by kernel_rfl) (fun _ _ _ h => h) (by rfl) (fun w hSw => by (try dsimp only at hSw); go_simp) (by assumption) ?_
          (try simp only [Act.put, List.setIfInBounds_toArray, List.set_cons_zero, List.set_cons_succ])
          refine take_run (i := 20) (d := some 79) (v := .agg #[Value.bool (decide (y.num < 0)), Value.slice ya yn yc, Value.slice yb ym yd]) rfl rfl (by kernel_rfl) (by kernel_rfl) (by kernel_rfl) (fun _ _ _ h => h) (by rfl) (fun w hSw => by (try dsimp only at hSw); go_simp) (by assumption) ?_
          (try simp only [Act.put, List.setIfInBounds_toArray, List.set_cons_zero, List.set_cons_succ])
          refine take_run (i := 23) (d := some 82) (v := .string S) rfl rfl (by kernel_rfl) (by kernel_rfl) (by kernel_rfl) (fun _ _ _ h => h) (by rfl) (fun w hSw => by (try dsimp only at hSw); go_simp) (by assumption) ?_
          (try simp only [Act.put, List.setIfInBounds_toArray, List.set_cons_zero, List.set_cons_succ])
          refine take_run (i := 24) (d := some 83) (v := .int .u8 (c0 : Int)) rfl rfl (by kernel_rfl) (by kernel_rfl) (by kernel_rfl) (fun _ _ _ h => h) (by rfl) (fun w hSw => by (try dsimp only at hSw); go_simp) (by assumption) ?_
          (try simp only [Act.put, List.setIfInBounds_toArray, List.set_cons_zero, List.set_cons_succ])
          refine take_run (i := 25) (d := some 84) (v := .bool bb) rfl rfl (by kernel_rfl) (by kernel_rfl) (by kernel_rfl) (fun _ _ _ h => h) (by rfl) (fun w hSw => by (try dsimp only at hSw); go_simp) (by assumption) ?_
          (try simp only [Act.put, List.setIfInBounds_toArray, List.set_cons_zero, List.set_cons_succ])
          refine wpAnyH_ready (rs := [21]) (by kernel_rfl) (by simp) ?_
          refine AllReadyH.cons (o := _) rfl (fun K hK => ?_) AllReadyH.nil
          go_simp
          refine (qsign ((Oy_7.below bl).rdQ (Py_7.below bl) hys) (by omega)).mono ?_
          rintro e w8 ⟨rfl, hB⟩
          have hB_8 : Below wr.heap.size wr w8 := (bl.next hB)
          have X_8 := X_7.next hB_8
          have Q_8 := Q_7.next hB_8
          have Y_8 := Y_7.next hB_8
          have cY_8_0 : _ = some (Value.bool (decide (y.num < 0))) := Y_8.cell 0
          have cY_8_1 : _ = some (Value.slice ya yn yc) := Y_8.cell 1
          have cY_8_2 : _ = some (Value.slice yb ym yd) := Y_8.cell 2
          have Ox_8 := Ox_7.below hB_8
          have Px_8 := Px_7.below hB_8
          have Oy_8 := Oy_7.below hB_8
          have Py_8 := Py_7.below hB_8
          have hbR_8 := hbR_7.next hB_8
          have hbel_8 := hbel_7.next hB_8
          have hsz_8 := hB_8.size
          clear X_7 Q_7 Y_7 cY_7_0 cY_7_1 cY_7_2 Ox_7 Px_7 Oy_7 Py_7 hbR_7 hbel_7 hB_8
          try clear hB
          (try go_wp2_with fail)
          refine hK.out _ _ ⟨cY_8_0, cY_8_1, cY_8_2⟩ (fun hHeld2 => ?_)
          clear hK K hHeld
          (try simp only [Act.put, List.setIfInBounds_toArray, List.set_cons_zero, List.set_cons_succ])
          refine take_run (i := 22) (d := some 81) (v := .bool bb) rfl rfl (by kernel_rfl) (by kernel_rfl) (by kernel_rfl) (fun _ _ _ h => h) (by rfl) (fun w hSw => by (try dsimp only at hSw); go_simp) (by assumption) ?_
          (try simp only [Act.put, List.setIfInBounds_toArray, List.set_cons_zero, List.set_cons_succ])
          refine take_run (i := 26) (d := some 85) (v := .bool false) rfl rfl (by kernel_rfl) (by kernel_rfl) (by kernel_rfl) (fun _ _ _ h => h) (by rfl) (fun w hSw => by (try dsimp only at hSw); go_simp) (by assumption) ?_
          (try simp only [Act.put, List.setIfInBounds_toArray, List.set_cons_zero, List.set_cons_succ])
          refine take_run (i := 27) (d := some 86) (v := .bool false) rfl rfl (by kernel_rfl) (by kernel_rfl) (by kernel_rfl) (fun _ _ _ h => h) (by rfl) (fun w hSw => by (try dsimp only at hSw); go_simp) (by assumption) ?_
          (try simp only [Act.put, List.setIfInBounds_toArray, List.set_cons_zero, List.set_cons_succ])
          refine wpAnyH_done (by kernel_rfl) ?_ _
          refine NoPanic.normal ?_
          clear hn1 hn2 hn3
          all_goals (go_wp2_with fail; go_meet; exact ⟨rfl, hbR_8⟩)
      case rest =>
        obtain ⟨rfl, hBx⟩ := hcut
        clear hpv
        have hB_8 : Below wr.heap.size wr wc := hBx
        have X_8 := X_7.next hB_8
        have Q_8 := Q_7.next hB_8
        have Y_8 := Y_7.next hB_8
        have Ox_8 := Ox_7.below hB_8
        have Px_8 := Px_7.below hB_8
        have Oy_8 := Oy_7.below hB_8
        have Py_8 := Py_7.below hB_8
        have hbel_8 := hbel_7.next hB_8
        have hsz_8 := hB_8.size
        clear X_7 Q_7 Y_7 Ox_7 Px_7 Oy_7 Py_7 hbel_7 hB_8
        clear hBx
        have cY_8_0 : _ = some (Value.bool (decide (y.num < 0))) := Y_8.cell 0
        have cY_8_1 : _ = some (Value.slice ya yn yc) := Y_8.cell 1
        have cY_8_2 : _ = some (Value.slice yb ym yd) := Y_8.cell 2
        have cQ_8_0 : _ = some (Value.bool (decide (q.num < 0))) := Q_8.cell 0
        have cQ_8_1 : _ = some (Value.slice xa xn xc) := Q_8.cell 1
        have cQ_8_2 : _ = some (Value.slice xb xm xd) := Q_8.cell 2
        go_wp2_with fail
        refine (qsub (Oy_8.rdQ Py_8 hys) (by omega) (Ox_8.rdQ Px_8 hqs) (by omega)).mono ?_
        rintro e w9 ⟨oa, on, oc, ob, om, od, rfl, hO, hO', hDo, hB⟩
        have hB_9 : Below wc.heap.size wc w9 := (bl.next hB)
        have X_9 := X_8.next hB_9
        have Q_9 := Q_8.next hB_9
        have Y_9 := Y_8.next hB_9
        have Ox_9 := Ox_8.below hB_9
        have Px_9 := Px_8.below hB_9
        have Oy_9 := Oy_8.below hB_9
        have Py_9 := Py_8.below hB_9
        have hbel_9 := hbel_8.next hB_9
        have hsz_9 := hB_9.size
        clear X_8 Q_8 cQ_8_0 cQ_8_1 cQ_8_2 Y_8 cY_8_0 cY_8_1 cY_8_2 Ox_8 Px_8 Oy_8 Py_8 hbel_8 hB_9
        have Oo_9 := hO
        have ltOo := hO.ltB
        have Po_9 := hO'
        have ltPo := hO'.ltB
        clear hO hO'
        try clear hB
        have hoqs := (hys.sub hqs).mono (show _ ≤ 100 by omega)
        generalize hoq : y - q = o at *
        clear hoq
        have hbx := blk_new w9 #[Value.bool (decide (o.num < 0)), Value.slice oa on oc, Value.slice ob om od] 29
        have hbB := (Below.refl w9.heap.size w9).alloc (Nat.le_refl _) (.cells #[Value.bool (decide (o.num < 0)), Value.slice oa on oc, Value.slice ob om od] 29)
        have hltO := hbx.lt
        have hB_10 : Below w9.heap.size w9 (w9.alloc (.cells #[Value.bool (decide (o.num < 0)), Value.slice oa on oc, Value.slice ob om od] 29)) := hbB
        have X_10 := X_9.next hB_10
        have Q_10 := Q_9.next hB_10
        have Y_10 := Y_9.next hB_10
        have Ox_10 := Ox_9.below hB_10
        have Px_10 := Px_9.below hB_10
        have Oy_10 := Oy_9.below hB_10
        have Py_10 := Py_9.below hB_10
        have Oo_10 := Oo_9.below hB_10
        have Po_10 := Po_9.below hB_10
        have hbel_10 := hbel_9.next hB_10
        have hsz_10 := hB_10.size
        clear hB_10
        have O_10 := hbx
        clear hbx hbB
        have cO_10_0 : _ = some (Value.bool (decide (o.num < 0))) := O_10.cell 0
        have fO_10_0 := O_10.free 0
        have cO_10_1 : _ = some (Value.slice oa on oc) := O_10.cell 1
        have fO_10_1 := O_10.free 1
        have cO_10_2 : _ = some (Value.slice ob om od) := O_10.cell 2
        have fO_10_2 := O_10.free 2
        go_wp2_with fail
        clear X_9 Q_9 Y_9 Ox_9 Px_9 Oy_9 Py_9 Oo_9 Po_9 hbel_9
        generalize (w9.alloc (.cells #[Value.bool (decide (o.num < 0)), Value.slice oa on oc, Value.slice ob om od] 29)) = v10 at *
        go_wp2_with fail
        refine (qsign (Oo_10.rdQ Po_10 hoqs) (by omega)).mono ?_
        rintro e w11 ⟨rfl, hB⟩
        have hB_11 : Below v10.heap.size v10 w11 := (bl.next hB)
        have X_11 := X_10.next hB_11
        have Q_11 := Q_10.next hB_11
        have Y_11 := Y_10.next hB_11
        have O_11 := O_10.next hB_11
        have Ox_11 := Ox_10.below hB_11
        have Px_11 := Px_10.below hB_11
        have Oy_11 := Oy_10.below hB_11
        have Py_11 := Py_10.below hB_11
        have Oo_11 := Oo_10.below hB_11
        have Po_11 := Po_10.below hB_11
        have hbel_11 := hbel_10.next hB_11
        have hsz_11 := hB_11.size
        clear X_10 Q_10 Y_10 O_10 cO_10_0 fO_10_0 cO_10_1 fO_10_1 cO_10_2 fO_10_2 Ox_10 Px_10 Oy_10 Py_10 Oo_10 Po_10 hbel_10 hB_11
        try clear hB
        obtain ⟨o2, hoq3⟩ : ∃ y, -o = y := ⟨_, rfl⟩
        have hoq2 := hoqs.neg
        rw [hoq3] at hoq2 hl ho2
        have hoq4 := hid hoq3
        clear hoq3
        have cO_11_0 : _ = some (Value.bool (decide (o.num < 0))) := O_11.cell 0
        have fO_11_0 := O_11.free 0
        have cO_11_1 : _ = some (Value.slice oa on oc) := O_11.cell 1
        have fO_11_1 := O_11.free 1
        have cO_11_2 : _ = some (Value.slice ob om od) := O_11.cell 2
        have fO_11_2 := O_11.free 2
        go_wp2_with fail
        refine (qneg (Oo_11.rdQ Po_11 hoqs) (by omega)).mono ?_
        rw [hoq4.out]
        rintro e w12 ⟨ua, un, uc, ub, um, ud, rfl, hO, hO', hDu, hB⟩
        have hB_12 : Below w11.heap.size w11 w12 := (bl.next hB)
        have X_12 := X_11.next hB_12
        have Q_12 := Q_11.next hB_12
        have Y_12 := Y_11.next hB_12
        have O_12 := O_11.next hB_12
        have Ox_12 := Ox_11.below hB_12
        have Px_12 := Px_11.below hB_12
        have Oy_12 := Oy_11.below hB_12
        have Py_12 := Py_11.below hB_12
        have Oo_12 := Oo_11.below hB_12
        have Po_12 := Po_11.below hB_12
        have hbel_12 := hbel_11.next hB_12
        have hsz_12 := hB_12.size
        clear X_11 Q_11 Y_11 O_11 cO_11_0 fO_11_0 cO_11_1 fO_11_1 cO_11_2 fO_11_2 Ox_11 Px_11 Oy_11 Py_11 Oo_11 Po_11 hbel_11 hB_12
        have Ou_12 := hO
        have ltOu := hO.ltB
        have Pu_12 := hO'
        have ltPu := hO'.ltB
        clear hO hO'
        try clear hB
        have cO_12_0 : _ = some (Value.bool (decide (o.num < 0))) := O_12.cell 0
        have fO_12_0 := O_12.free 0
        have cO_12_1 : _ = some (Value.slice oa on oc) := O_12.cell 1
        have fO_12_1 := O_12.free 1
        have cO_12_2 : _ = some (Value.slice ob om od) := O_12.cell 2
        have fO_12_2 := O_12.free 2
        have hkp := kp_set3 w12 (w9.heap.size) (Value.bool (decide (o2.num < 0))) (Value.slice ua un uc) (Value.slice ub um ud)
        have O_13 := (show Blk _ _ #[Value.bool (decide (o2.num < 0)), Value.slice ua un uc, Value.slice ub um ud] from (((O_12).setCell (i := 0) (v := Value.bool (decide (o2.num < 0))) (by simp)).setCell (i := 1) (v := Value.slice ua un uc) (by simp)).setCell (i := 2) (v := Value.slice ub um ud) (by simp))
        have X_13 := X_12.set3 (show w.heap.size ≠ w9.heap.size by omega) (Value.bool (decide (o2.num < 0))) (Value.slice ua un uc) (Value.slice ub um ud)
        have Q_13 := Q_12.set3 (show w2.heap.size ≠ w9.heap.size by omega) (Value.bool (decide (o2.num < 0))) (Value.slice ua un uc) (Value.slice ub um ud)
        have Y_13 := Y_12.set3 (show w6.heap.size ≠ w9.heap.size by omega) (Value.bool (decide (o2.num < 0))) (Value.slice ua un uc) (Value.slice ub um ud)
        have Ox_13 := Ox_12.kp hkp (fun g e => by have := ltOx g e; show ¬ (g = _); omega)
        have Px_13 := Px_12.kp hkp (fun g e => by have := ltPx g e; show ¬ (g = _); omega)
        have Oy_13 := Oy_12.kp hkp (fun g e => by have := ltOy g e; show ¬ (g = _); omega)
        have Py_13 := Py_12.kp hkp (fun g e => by have := ltPy g e; show ¬ (g = _); omega)
        have Ou_13 := Ou_12.kp hkp (fun g e => by have := (Ou_12.lt' _ e).1; show ¬ (g = _); omega)
        have Pu_13 := Pu_12.kp hkp (fun g e => by have := (Pu_12.lt' _ e).1; show ¬ (g = _); omega)
        have hbel_13 := Below.set3 hbel_12 (show w.heap.size ≤ w9.heap.size by omega) (Value.bool (decide (o2.num < 0))) (Value.slice ua un uc) (Value.slice ub um ud)
        have hsz_13 := hkp.size
        go_wp2_with fail
        clear X_12 Q_12 Y_12 O_12 cO_12_0 fO_12_0 cO_12_1 fO_12_1 cO_12_2 fO_12_2 Ox_12 Px_12 Oy_12 Py_12 Oo_12 Po_12 Ou_12 Pu_12 hbel_12 hkp
        generalize (((w12.setCell ⟨w9.heap.size, 0, none⟩ (Value.bool (decide (o2.num < 0)))).setCell ⟨w9.heap.size, 1, none⟩ (Value.slice ua un uc)).setCell ⟨w9.heap.size, 2, none⟩ (Value.slice ub um ud)) = v13 at *
        obtain ⟨T, hT⟩ : ∃ T, 10 ^ N = T := ⟨_, rfl⟩
        have hTs : Sz T 24 := by rw [← hT]; exact (ten_sz9 N).mono (Nat.le_refl _) (by omega)
        have hTn : T ≠ 0 := by rw [← hT]; exact Nat.ne_of_gt (Nat.pow_pos (by decide))
        have HOv := lover (w := v13) N (by omega)
        unfold RetOv at HOv
        rw [hT] at HOv hl ho2
        clear hT
        go_wp2_with fail
        refine (HOv).mono ?_
        rintro e w14 ⟨pa, pc, pb, pm, pd, rfl, hR1, hR2, hO, hB⟩
        have hB_14 : Below v13.heap.size v13 w14 := (bl.next hB)
        have X_14 := X_13.next hB_14
        have Q_14 := Q_13.next hB_14
        have Y_14 := Y_13.next hB_14
        have O_14 := O_13.next hB_14
        have Ox_14 := Ox_13.below hB_14
        have Px_14 := Px_13.below hB_14
        have Oy_14 := Oy_13.below hB_14
        have Py_14 := Py_13.below hB_14
        have Ou_14 := Ou_13.below hB_14
        have Pu_14 := Pu_13.below hB_14
        have hbel_14 := hbel_13.next hB_14
        have hsz_14 := hB_14.size
        clear X_13 Q_13 Y_13 O_13 Ox_13 Px_13 Oy_13 Py_13 Ou_13 Pu_13 hbel_13 hB_14
        have T_14 := hO
        have ltT := hO.ltB
        have U_14 := hR1
        clear hO hR1 hR2
        try clear hB
        have hbx0 : Blk ((w14.alloc (.cells #[Value.int .u32 1] 39)).alloc (.cells #[Value.int .u32 2] 39)) (w14.heap.size) #[Value.int .u32 1] := ((blk_new' w14 #[Value.int .u32 1] 39 (g := w14.heap.size) (by simp)).alloc _)
        have hbx1 : Blk ((w14.alloc (.cells #[Value.int .u32 1] 39)).alloc (.cells #[Value.int .u32 2] 39)) (w14.heap.size + 1) #[Value.int .u32 2] := (blk_new' (w14.alloc (.cells #[Value.int .u32 1] 39)) #[Value.int .u32 2] 39 (g := w14.heap.size + 1) (by simp))
        have hbB : Below w14.heap.size w14 ((w14.alloc (.cells #[Value.int .u32 1] 39)).alloc (.cells #[Value.int .u32 2] 39)) := bl
        have hltL1 := hbx0.lt
        have hltL2 := hbx1.lt
        have hB_15 : Below w14.heap.size w14 ((w14.alloc (.cells #[Value.int .u32 1] 39)).alloc (.cells #[Value.int .u32 2] 39)) := hbB
        have X_15 := X_14.next hB_15
        have Q_15 := Q_14.next hB_15
        have Y_15 := Y_14.next hB_15
        have O_15 := O_14.next hB_15
        have Ox_15 := Ox_14.below hB_15
        have Px_15 := Px_14.below hB_15
        have Oy_15 := Oy_14.below hB_15
        have Py_15 := Py_14.below hB_15
        have Ou_15 := Ou_14.below hB_15
        have Pu_15 := Pu_14.below hB_15
        have T_15 := T_14.below hB_15
        have U_15 := U_14.below hB_15
        have hbel_15 := hbel_14.next hB_15
        have hsz_15 := hB_15.size
        clear hB_15
        have L1_15 := hbx0
        clear hbx0
        have L2_15 := hbx1
        clear hbx1
        clear hbB
        go_wp2_with fail
        clear X_14 Q_14 Y_14 O_14 Ox_14 Px_14 Oy_14 Py_14 Ou_14 Pu_14 T_14 U_14 hbel_14
        generalize ((w14.alloc (.cells #[Value.int .u32 1] 39)).alloc (.cells #[Value.int .u32 2] 39)) = v15 at *
        have A1_15 : RdQ 24 v15 false pa 1 pc pb pm pd (mkRat 1 T) := ⟨1, T, U_15.mono (by omega), T_15.rdN hTs, by unfold qv; rw [und_of hTn]; rfl⟩
        have A2_15 : RdQ 1 v15 false (some ⟨w14.heap.size, 0, none⟩) 1 1 (some ⟨w14.heap.size + 1, 0, none⟩) 1 1 (mkRat 1 2) := ⟨1, 2, rdN_blk rfl (by decide) L1_15, rdN_blk rfl (by decide) L2_15, rfl⟩
        have hhq : QS (mkRat 1 T * mkRat 1 2) 100 := ((A1_15.qs (by omega)).mul (A2_15.qs (by omega))).mono (by omega)
        go_wp2_with fail
        refine (qmul A1_15 (by omega) A2_15 (by omega)).mono ?_
        rintro e w16 ⟨ha, hn, hc, hb, hm, hd, rfl, hO, hO', hDh, hB⟩
        have hB_16 : Below v15.heap.size v15 w16 := (bl.next hB)
        have X_16 := X_15.next hB_16
        have Q_16 := Q_15.next hB_16
        have Y_16 := Y_15.next hB_16
        have O_16 := O_15.next hB_16
        have L1_16 := L1_15.next hB_16
        have L2_16 := L2_15.next hB_16
        have Ox_16 := Ox_15.below hB_16
        have Px_16 := Px_15.below hB_16
        have Oy_16 := Oy_15.below hB_16
        have Py_16 := Py_15.below hB_16
        have Ou_16 := Ou_15.below hB_16
        have Pu_16 := Pu_15.below hB_16
        have T_16 := T_15.below hB_16
        have U_16 := U_15.below hB_16
        have A1_16 := A1_15.below hB_16
        have A2_16 := A2_15.below hB_16
        have hbel_16 := hbel_15.next hB_16
        have hsz_16 := hB_16.size
        clear X_15 Q_15 Y_15 O_15 L1_15 L2_15 Ox_15 Px_15 Oy_15 Py_15 Ou_15 Pu_15 T_15 U_15 A1_15 A2_15 hbel_15 hB_16
        have Oh_16 := hO
        have ltOh := hO.ltB
        have Ph_16 := hO'
        have ltPh := hO'.ltB
        clear hO hO'
        try clear hB
        clear A1_16
        clear A2_16
        generalize mkRat 1 T * mkRat 1 2 = h at *
        have hbx := blk_new w16 #[Value.bool (decide (h.num < 0)), Value.slice ha hn hc, Value.slice hb hm hd] 29
        have hbB := (Below.refl w16.heap.size w16).alloc (Nat.le_refl _) (.cells #[Value.bool (decide (h.num < 0)), Value.slice ha hn hc, Value.slice hb hm hd] 29)
        have hltH := hbx.lt
        have hB_17 : Below w16.heap.size w16 (w16.alloc (.cells #[Value.bool (decide (h.num < 0)), Value.slice ha hn hc, Value.slice hb hm hd] 29)) := hbB
        have X_17 := X_16.next hB_17
        have Q_17 := Q_16.next hB_17
        have Y_17 := Y_16.next hB_17
        have O_17 := O_16.next hB_17
        have L1_17 := L1_16.next hB_17
        have L2_17 := L2_16.next hB_17
        have Ox_17 := Ox_16.below hB_17
        have Px_17 := Px_16.below hB_17
        have Oy_17 := Oy_16.below hB_17
        have Py_17 := Py_16.below hB_17
        have Ou_17 := Ou_16.below hB_17
        have Pu_17 := Pu_16.below hB_17
        have T_17 := T_16.below hB_17
        have U_17 := U_16.below hB_17
        have Oh_17 := Oh_16.below hB_17
        have Ph_17 := Ph_16.below hB_17
        have hbel_17 := hbel_16.next hB_17
        have hsz_17 := hB_17.size
        clear hB_17
        have H_17 := hbx
        clear hbx hbB
        have cO_17_0 : _ = some (Value.bool (decide (o2.num < 0))) := O_17.cell 0
        have fO_17_0 := O_17.free 0
        have cO_17_1 : _ = some (Value.slice ua un uc) := O_17.cell 1
        have fO_17_1 := O_17.free 1
        have cO_17_2 : _ = some (Value.slice ub um ud) := O_17.cell 2
        have fO_17_2 := O_17.free 2
        have cH_17_0 : _ = some (Value.bool (decide (h.num < 0))) := H_17.cell 0
        have cH_17_1 : _ = some (Value.slice ha hn hc) := H_17.cell 1
        have cH_17_2 : _ = some (Value.slice hb hm hd) := H_17.cell 2
        go_wp2_with fail
        clear X_16 Q_16 Y_16 O_16 L1_16 L2_16 Ox_16 Px_16 Oy_16 Py_16 Ou_16 Pu_16 T_16 U_16 Oh_16 Ph_16 hbel_16
        generalize (w16.alloc (.cells #[Value.bool (decide (h.num < 0)), Value.slice ha hn hc, Value.slice hb hm hd] 29)) = v17 at *
        go_wp2_with fail
        refine (qcmp (Ou_17.rdQ Pu_17 hoq2) (by omega) (Oh_17.rdQ Ph_17 hhq) (by omega)).mono ?_
        rintro e w18 ⟨rfl, hB⟩
        have hB_18 : Below v17.heap.size v17 w18 := (bl.next hB)
        have X_18 := X_17.next hB_18
        have Q_18 := Q_17.next hB_18
        have Y_18 := Y_17.next hB_18
        have O_18 := O_17.next hB_18
        have L1_18 := L1_17.next hB_18
        have L2_18 := L2_17.next hB_18
        have H_18 := H_17.next hB_18
        have Ox_18 := Ox_17.below hB_18
        have Px_18 := Px_17.below hB_18
        have Oy_18 := Oy_17.below hB_18
        have Py_18 := Py_17.below hB_18
        have Ou_18 := Ou_17.below hB_18
        have Pu_18 := Pu_17.below hB_18
        have T_18 := T_17.below hB_18
        have U_18 := U_17.below hB_18
        have Oh_18 := Oh_17.below hB_18
        have Ph_18 := Ph_17.below hB_18
        have hbel_18 := hbel_17.next hB_18
        have hsz_18 := hB_18.size
        clear X_17 Q_17 Y_17 O_17 cO_17_0 fO_17_0 cO_17_1 fO_17_1 cO_17_2 fO_17_2 L1_17 L2_17 H_17 cH_17_0 cH_17_1 cH_17_2 Ox_17 Px_17 Oy_17 Py_17 Ou_17 Pu_17 T_17 U_17 Oh_17 Ph_17 hbel_17 hB_18
        try clear hB
        generalize cmpQ o2 h = cv at *
        obtain ⟨dv, hdv⟩ : ∃ v, cmpQ y q = v := ⟨_, rfl⟩
        have hdr := cmpQ_range y q
        rw [hdv] at hdr
        have hfin : cv < 0 ∨ (0 ≤ cv ∧ dv = 1) := by
          rcases Int.lt_or_le cv 0 with h8 | h8
          · exact .inl h8
          · refine .inr ⟨h8, ?_⟩
            have h9 := ho2.out (by omega)
            rw [← hdv]
            rw [cmpQ_swap, cmpQ_lt h9]; rfl
        clear ho2
        have cY_18_0 : _ = some (Value.bool (decide (y.num < 0))) := Y_18.cell 0
        have cY_18_1 : _ = some (Value.slice ya yn yc) := Y_18.cell 1
        have cY_18_2 : _ = some (Value.slice yb ym yd) := Y_18.cell 2
        have cQ_18_0 : _ = some (Value.bool (decide (q.num < 0))) := Q_18.cell 0
        have cQ_18_1 : _ = some (Value.slice xa xn xc) := Q_18.cell 1
        have cQ_18_2 : _ = some (Value.slice xb xm xd) := Q_18.cell 2
        go_wp2_with fail
        refine (qcmp (Oy_18.rdQ Py_18 hys) (by omega) (Ox_18.rdQ Px_18 hqs) (by omega)).mono ?_
        rw [hdv]
        rintro e w19 ⟨rfl, hB⟩
        have hB_19 : Below w18.heap.size w18 w19 := (bl.next hB)
        have X_19 := X_18.next hB_19
        have Q_19 := Q_18.next hB_19
        have Y_19 := Y_18.next hB_19
        have O_19 := O_18.next hB_19
        have L1_19 := L1_18.next hB_19
        have L2_19 := L2_18.next hB_19
        have H_19 := H_18.next hB_19
        have Ox_19 := Ox_18.below hB_19
        have Px_19 := Px_18.below hB_19
        have Oy_19 := Oy_18.below hB_19
        have Py_19 := Py_18.below hB_19
        have Ou_19 := Ou_18.below hB_19
        have Pu_19 := Pu_18.below hB_19
        have T_19 := T_18.below hB_19
        have U_19 := U_18.below hB_19
        have Oh_19 := Oh_18.below hB_19
        have Ph_19 := Ph_18.below hB_19
        have hbel_19 := hbel_18.next hB_19
        have hsz_19 := hB_19.size
        clear X_18 Q_18 cQ_18_0 cQ_18_1 cQ_18_2 Y_18 cY_18_0 cY_18_1 cY_18_2 O_18 L1_18 L2_18 H_18 Ox_18 Px_18 Oy_18 Py_18 Ou_18 Pu_18 T_18 U_18 Oh_18 Ph_18 hbel_18 hB_19
        try clear hB
        have cQ_19_0 : _ = some (Value.bool (decide (q.num < 0))) := Q_19.cell 0
        have cQ_19_1 : _ = some (Value.slice xa xn xc) := Q_19.cell 1
        have cQ_19_2 : _ = some (Value.slice xb xm xd) := Q_19.cell 2
        go_wp2_with fail
        refine (qsign (Ox_19.rdQ Px_19 hqs) (by omega)).mono ?_
        rintro e w20 ⟨rfl, hB⟩
        have hB_20 : Below w19.heap.size w19 w20 := (bl.next hB)
        have X_20 := X_19.next hB_20
        have Q_20 := Q_19.next hB_20
        have Y_20 := Y_19.next hB_20
        have O_20 := O_19.next hB_20
        have L1_20 := L1_19.next hB_20
        have L2_20 := L2_19.next hB_20
        have H_20 := H_19.next hB_20
        have Ox_20 := Ox_19.below hB_20
        have Px_20 := Px_19.below hB_20
        have Oy_20 := Oy_19.below hB_20
        have Py_20 := Py_19.below hB_20
        have Ou_20 := Ou_19.below hB_20
        have Pu_20 := Pu_19.below hB_20
        have T_20 := T_19.below hB_20
        have U_20 := U_19.below hB_20
        have Oh_20 := Oh_19.below hB_20
        have Ph_20 := Ph_19.below hB_20
        have hbel_20 := hbel_19.next hB_20
        have hsz_20 := hB_20.size
        clear X_19 Q_19 cQ_19_0 cQ_19_1 cQ_19_2 Y_19 O_19 L1_19 L2_19 H_19 Ox_19 Px_19 Oy_19 Py_19 Ou_19 Pu_19 T_19 U_19 Oh_19 Ph_19 hbel_19 hB_20
        try clear hB
        clear hdv
        rcases hfin with h8 | ⟨h8, rfl⟩
        · go_wp2
          go_ret
          exact ⟨rfl, hbel_20⟩
        · go_wp2
          go_ret
          exact ⟨rfl, hbel_20⟩

set_option maxRecDepth 100000 in
set_option maxHeartbeats 8000000 in
theorem dnear_11 {w : World} {q : Rat} {s : Bool} {a b : Option Addr} {n c m d : Nat} (z : Int) (h1 : -9223372036854775808 ≤ z) (h2 : z ≤ 9223372036854775807) (HF : Hid (∀ W, Below w.heap.size w W → Calls Try.prog 59 #[.agg #[.bool s, .slice a n c, .slice b m d]] W (fun e w' => RetQ W q e w'))) (hqs : QS q 20) (N : Nat) (hN : bdN z 200 = (N : Int)) (hN2 : N ≤ 200) (hoff : rdQ q N - q < 0) (hneg : q < 0) :
    Calls Try.prog 13 #[.agg #[.bool s, .slice a n c, .slice b m d], .int .i64 z] w (fun e w' => e = .returned (.bool true) ∧ Below w.heap.size w w') := by
  have HB := hid (fun w => lbound (w := w) z 200 h1 h2 (by omega) (by omega))
  rw [hN] at HB
  obtain ⟨bb, P, hsy, hS0, hSb, hpt, hPz, hPn⟩ := near_text q N
  have hsz := near_size hqs hN2
  obtain ⟨hd1, hd2⟩ := near_back q N
  have HP := hid (fun w => dparse (w := w) (roT q N) hsz)
  rw [hd1, hd2] at HP
  have HR := hid (fun (W : World) {a' b' : Option Addr} {n' c' m' d' : Nat} (h : RdQ 20 W (decide (q.num < 0)) a' n' c' b' m' d' q) => dround h (by omega) N (by omega))
  have hys := rdQ_qs hqs hN2
  have hnear := near_law q N
  have hon : decide (sgnQ (rdQ q N - q) < 0) = true := by rw [sgnQ_dec]; simp [hoff]
  have hqn : decide (sgnQ q < 0) = true := by rw [sgnQ_dec]; simp [hneg]
  have hof : offQ q (rdQ q N) = -(rdQ q N - q) := by unfold offQ; rw [if_pos hoff]
  rw [hof] at hnear
  clear hd1 hd2 hof hoff hN
  generalize rdQ q N = y at *
  generalize roT q N = S at *
  obtain ⟨hl, ho⟩ := hnear
  have ho2 := hid (fun h => (ho h).1 hneg)
  clear ho
  have hpt := hid hpt
  have hPz := hid hPz
  have hPn := hid hPn
  have hx0 := hSb hS0
  have hne := be_ne (s := S) (by omega)
  have hbb : (bb != bb) = false := by simp
  clear hSb hneg
  have hent := ent1 w #[Value.bool s, Value.slice a n c, Value.slice b m d] 29
  go_enter Try.func13, Try.ntmps13
  go_wp2_with fail
  generalize (w.alloc (.cells #[Value.bool s, Value.slice a n c, Value.slice b m d] 29)) = W0 at hent ⊢
  obtain ⟨X_0, hbel_0, hsz_0⟩ := hent
  go_wp2_with fail
  refine (lalive).mono ?_
  rintro e w1 ⟨rfl, hB⟩
  have hB_1 : Below W0.heap.size W0 w1 := (bl.next hB)
  have X_1 := X_0.next hB_1
  have hbel_1 := hbel_0.next hB_1
  have hsz_1 := hB_1.size
  clear X_0 hbel_0 hB_1
  try clear hB
  have cX_1_0 : _ = some (Value.bool s) := X_1.cell 0
  have cX_1_1 : _ = some (Value.slice a n c) := X_1.cell 1
  have cX_1_2 : _ = some (Value.slice b m d) := X_1.cell 2
  go_wp2_with fail
  refine (HF.out _ hbel_1).mono ?_
  rintro e w2 ⟨xa, xn, xc, xb, xm, xd, rfl, hO, hO', hDx, hB⟩
  have hB_2 : Below w1.heap.size w1 w2 := (bl.next hB)
  have X_2 := X_1.next hB_2
  have hbel_2 := hbel_1.next hB_2
  have hsz_2 := hB_2.size
  clear X_1 cX_1_0 cX_1_1 cX_1_2 hbel_1 hB_2
  have Ox_2 := hO
  have ltOx := hO.ltB
  have Px_2 := hO'
  have ltPx := hO'.ltB
  clear hO hO'
  try clear hB
  have hbx := blk_new w2 #[Value.bool (decide (q.num < 0)), Value.slice xa xn xc, Value.slice xb xm xd] 29
  have hbB := (Below.refl w2.heap.size w2).alloc (Nat.le_refl _) (.cells #[Value.bool (decide (q.num < 0)), Value.slice xa xn xc, Value.slice xb xm xd] 29)
  have hltQ := hbx.lt
  have hB_3 : Below w2.heap.size w2 (w2.alloc (.cells #[Value.bool (decide (q.num < 0)), Value.slice xa xn xc, Value.slice xb xm xd] 29)) := hbB
  have X_3 := X_2.next hB_3
  have Ox_3 := Ox_2.below hB_3
  have Px_3 := Px_2.below hB_3
  have hbel_3 := hbel_2.next hB_3
  have hsz_3 := hB_3.size
  clear hB_3
  have Q_3 := hbx
  clear hbx hbB
  go_wp2_with fail
  clear X_2 Ox_2 Px_2 hbel_2
  generalize (w2.alloc (.cells #[Value.bool (decide (q.num < 0)), Value.slice xa xn xc, Value.slice xb xm xd] 29)) = v3 at *
  go_wp2_with fail
  refine (HB.out _).mono ?_
  rintro e w4 ⟨rfl, hB⟩
  have hB_4 : Below v3.heap.size v3 w4 := (bl.next hB)
  have X_4 := X_3.next hB_4
  have Q_4 := Q_3.next hB_4
  have Ox_4 := Ox_3.below hB_4
  have Px_4 := Px_3.below hB_4
  have hbel_4 := hbel_3.next hB_4
  have hsz_4 := hB_4.size
  clear X_3 Q_3 Ox_3 Px_3 hbel_3 hB_4
  try clear hB
  have cQ_4_0 : _ = some (Value.bool (decide (q.num < 0))) := Q_4.cell 0
  have cQ_4_1 : _ = some (Value.slice xa xn xc) := Q_4.cell 1
  have cQ_4_2 : _ = some (Value.slice xb xm xd) := Q_4.cell 2
  go_wp2_with fail
  refine (HR.out _ (Ox_4.rdQ Px_4 hqs)).mono ?_
  rintro e w5 ⟨rfl, hB⟩
  have hB_5 : Below w4.heap.size w4 w5 := (bl.next hB)
  have X_5 := X_4.next hB_5
  have Q_5 := Q_4.next hB_5
  have Ox_5 := Ox_4.below hB_5
  have Px_5 := Px_4.below hB_5
  have hbel_5 := hbel_4.next hB_5
  have hsz_5 := hB_5.size
  clear X_4 Q_4 cQ_4_0 cQ_4_1 cQ_4_2 Ox_4 Px_4 hbel_4 hB_5
  try clear hB
  go_wp2_with fail
  refine (HP.out _).mono ?_
  rintro e w6 ⟨ya, yn, yc, yb, ym, yd, rfl, hO, hO', hDy, hB⟩
  have hB_6 : Below w5.heap.size w5 w6 := (bl.next hB)
  have X_6 := X_5.next hB_6
  have Q_6 := Q_5.next hB_6
  have Ox_6 := Ox_5.below hB_6
  have Px_6 := Px_5.below hB_6
  have hbel_6 := hbel_5.next hB_6
  have hsz_6 := hB_6.size
  clear X_5 Q_5 Ox_5 Px_5 hbel_5 hB_6
  have Oy_6 := hO
  have ltOy := hO.ltB
  have Py_6 := hO'
  have ltPy := hO'.ltB
  clear hO hO'
  try clear hB
  have hbx := blk_new w6 #[Value.bool (qsg y 0), Value.slice ya yn yc, Value.slice yb ym yd] 29
  have hbB := (Below.refl w6.heap.size w6).alloc (Nat.le_refl _) (.cells #[Value.bool (qsg y 0), Value.slice ya yn yc, Value.slice yb ym yd] 29)
  have hltY := hbx.lt
  have hB_7 : Below w6.heap.size w6 (w6.alloc (.cells #[Value.bool (qsg y 0), Value.slice ya yn yc, Value.slice yb ym yd] 29)) := hbB
  have X_7 := X_6.next hB_7
  have Q_7 := Q_6.next hB_7
  have Ox_7 := Ox_6.below hB_7
  have Px_7 := Px_6.below hB_7
  have Oy_7 := Oy_6.below hB_7
  have Py_7 := Py_6.below hB_7
  have hbel_7 := hbel_6.next hB_7
  have hsz_7 := hB_7.size
  clear hB_7
  have Y_7 := hbx
  clear hbx hbB
  go_wp2_with fail
  clear X_6 Q_6 Ox_6 Px_6 Oy_6 Py_6 hbel_6
  generalize (w6.alloc (.cells #[Value.bool (qsg y 0), Value.slice ya yn yc, Value.slice yb ym yd] 29)) = v7 at *
  rw [qnl_ok] at Oy_7
  rw [qdl_ok] at Py_7
  rw [qsg_ok] at Y_7
  have hf1 : ((0 : Int) != 0) = false := by decide
  go_wp2_with fail
  obtain ⟨W0, hW0⟩ : ∃ y : World, y = v7 := ⟨_, rfl⟩
  subst hW0
  go_loopw [12, 13] (fun pv iv wr => ∃ (i : Nat) (pz : Int), i ≤ S.size ∧ iv = .int .i64 i ∧ pv = .int .i64 pz ∧ Hid ((P < i ∧ pz = (P : Int)) ∨ (i ≤ P ∧ pz = -1)) ∧ wr = W0) (fun _ iv _ => S.size - (intOf iv).toNat)
  case atStart => exact ⟨0, -1, by omega, rfl, rfl, .inr ⟨by omega, rfl⟩, rfl⟩
  case round =>
    obtain ⟨i, pz, hi, rfl, rfl, hpz, hwr⟩ := hrel
    subst hwr
    by_cases hlt : i < S.size
    · have hx := by_get S i hlt
      obtain ⟨xx, hxe⟩ : ∃ x, S[i].toNat = x := ⟨_, rfl⟩
      have hp := hpt.out i hlt
      rw [hx, hxe] at hp
      by_cases h46 : xx = 46
      · have hd : ((xx : Int) == 46) = true := by simp [h46]
        have hn : Hid ((P < i + 1 ∧ (i : Int) = (P : Int)) ∨ (i + 1 ≤ P ∧ (i : Int) = -1)) := by have := hp.1 h46; exact .inl ⟨by omega, by omega⟩
        clear hp hx hpz h46
        go_wp2
        go_roundw
        case rel => exact ⟨i + 1, i, by omega, by go_num, rfl, hn, by first | trivial | rfl⟩
        case measure => simp [intOf]; omega
      · have hd : ((xx : Int) == 46) = false := by simp; omega
        have hn : Hid ((P < i + 1 ∧ pz = (P : Int)) ∨ (i + 1 ≤ P ∧ pz = -1)) := by
          have h1 := mt hp.2 h46
          rcases hpz.out with ⟨h2, h3⟩ | ⟨h2, h3⟩
          · exact .inl ⟨by omega, h3⟩
          · exact .inr ⟨by omega, h3⟩
        clear hp hx hpz h46
        go_wp2
        go_roundw
        case rel => exact ⟨i + 1, pz, by omega, by go_num, rfl, hn, by first | trivial | rfl⟩
        case measure => simp [intOf]; omega
    · obtain rfl : i = S.size := by omega
      have hpv : (N = 0 → pz = -1) ∧ (N ≠ 0 → pz = ((S.size - N - 1 : Nat) : Int) ∧ N + 1 ≤ S.size) := by
        have h1 := hPz.out
        have h2 := hPn.out
        rcases hpz.out with ⟨h3, h4⟩ | ⟨h3, h4⟩
        · exact ⟨fun e => by have := h1 e; omega, fun e => by have := h2 e; omega⟩
        · exact ⟨fun e => h4, fun e => by have := h2 e; omega⟩
      obtain ⟨c0, hc0⟩ : ∃ x, S[0].toNat = x := ⟨_, rfl⟩
      rw [hc0] at hx0
      clear hpt hPz hPn hpz hlt
      go_upto_region 14 with fail
      go_cut [86] (fun s86 wx => s86 = .bool false ∧ Below wr.heap.size wr wx)
      case first =>
        by_cases hN0 : N = 0
        · have hpz := hpv.1 hN0
          subst hpz
          have hn1 : ((N : Int) == 0) = true := by simp; omega
          have hn2 : decide ((0 : Int) < (N : Int)) = false := by simp; omega
          have hn3 : decide (0 < N) = false := by simp; omega
          clear hpv hN0
          have hbR_7 : Below wr.heap.size wr wr := Below.refl _ _
          have cY_7_0 : _ = some (Value.bool (decide (y.num < 0))) := Y_7.cell 0
          have cY_7_1 : _ = some (Value.slice ya yn yc) := Y_7.cell 1
          have cY_7_2 : _ = some (Value.slice yb ym yd) := Y_7.cell 2
          refine wp_region_noPanic ?_
          refine wp_region_held_drew (S := (fun w' => w'.cell? ⟨w6.heap.size, 0, none⟩ = some (Value.bool (decide (y.num < 0))) ∧ w'.cell? ⟨w6.heap.size, 1, none⟩ = some (Value.slice ya yn yc) ∧ w'.cell? ⟨w6.heap.size, 2, none⟩ = some (Value.slice yb ym yd))) (by kernel_rfl) ⟨cY_7_0, cY_7_1, cY_7_2⟩ (fun hHeld => ?_)
          refine take_run (i := 0) (d := some 59) (v := .int .i64 (N : Int)) rfl rfl (by kernel_rfl) (by kernel_rfl) (by kernel_rfl) (fun _ _ _ h => h) (by rfl) (fun w hSw => by (try dsimp only at hSw); go_simp) (by assumption) ?_
          (try simp only [Act.put, List.setIfInBounds_toArray, List.set_cons_zero, List.set_cons_succ])
          refine take_run (i := 1) (d := some 60) (v := .bool true) rfl rfl (by kernel_rfl) (by kernel_rfl) (by kernel_rfl) (fun _ _ _ h => h) (by rfl) (fun w hSw => by (try dsimp only at hSw); go_simp) (by assumption) ?_
          (try simp only [Act.put, List.setIfInBounds_toArray, List.set_cons_zero, List.set_cons_succ])
          refine take_run (i := 2) (d := some 61) (v := .bool true) rfl rfl (by kernel_rfl) (by kernel_rfl) (by kernel_rfl) (fun _ _ _ h => h) (by rfl) (fun w hSw => by (try dsimp only at hSw); go_simp) (by assumption) ?_
          (try simp only [Act.put, List.setIfInBounds_toArray, List.set_cons_zero, List.set_cons_succ])
          refine take_run (i := 3) (d := some 62) (v := .int .i64 (-1)) rfl rfl (by kernel_rfl) (by kernel_rfl) (by kernel_rfl) (fun _ _ _ h => h) (by rfl) (fun w hSw => by (try dsimp only at hSw); go_simp) (by assumption) ?_
          (try simp only [Act.put, List.setIfInBounds_toArray, List.set_cons_zero, List.set_cons_succ])
          refine take_run (i := 4) (d := some 63) (v := .bool false) rfl rfl (by kernel_rfl) (by kernel_rfl) (by kernel_rfl) (fun _ _ _ h => h) (by rfl) (fun w hSw => by (try dsimp only at hSw); go_simp) (by assumption) ?_
          (try simp only [Act.put, List.setIfInBounds_toArray, List.set_cons_zero, List.set_cons_succ])
          refine take_run (i := 5) (d := some 64) (v := .bool false) rfl rfl (by kernel_rfl) (by kernel_rfl) (by kernel_rfl) (fun _ _ _ h => h) (by rfl) (fun w hSw => by (try dsimp only at hSw); go_simp) (by assumption) ?_
          (try simp only [Act.put, List.setIfInBounds_toArray, List.set_cons_zero, List.set_cons_succ])
          refine take_run (i := 6) (d := some 65) (v := .bool false) rfl rfl (by kernel_rfl) (by kernel_rfl) (by kernel_rfl) (fun _ _ _ h => h) (by rfl) (fun w hSw => by (try dsimp only at hSw); go_simp) (by assumption) ?_
          (try simp only [Act.put, List.setIfInBounds_toArray, List.set_cons_zero, List.set_cons_succ])
          refine take_run (i := 7) (d := some 66) (v := .int .i64 (N : Int)) rfl rfl (by kernel_rfl) (by kernel_rfl) (by kernel_rfl) (fun _ _ _ h => h) (by rfl) (fun w hSw => by (try dsimp only at hSw); go_simp) (by assumption) ?_
          (try simp only [Act.put, List.setIfInBounds_toArray, List.set_cons_zero, List.set_cons_succ])
          refine take_run (i := 8) (d := some 67) (v := .bool false) rfl rfl (by kernel_rfl) (by kernel_rfl) (by kernel_rfl) (fun _ _ _ h => h) (by rfl) (fun w hSw => by (try dsimp only at hSw); go_simp) (by assumption) ?_
          (try simp only [Act.put, List.setIfInBounds_toArray, List.set_cons_zero, List.set_cons_succ])
          refine take_run (i := 9) (d := some 68) (v := .bool false) rfl rfl (by kernel_rfl) (by kernel_rfl) (by kernel_rfl) (fun _ _ _ h => h) (by rfl) (fun w hSw => by (try dsimp only at hSw); go_simp) (by assumption) ?_
          (try simp only [Act.put, List.setIfInBounds_toArray, List.set_cons_zero, List.set_cons_succ])
          refine take_skip (i := 10) (d := some 69) rfl rfl (by kernel_rfl) (by kernel_rfl) (by kernel_rfl) (fun _ _ _ h => h) (by rfl) (by assumption) ?_
          (try simp only [Act.put, List.setIfInBounds_toArray, List.set_cons_zero, List.set_cons_succ])
          refine take_skip (i := 11) (d := some 70) rfl rfl (by kernel_rfl) (by kernel_rfl) (by kernel_rfl) (fun _ _ _ h => h) (by rfl) (by assumption) ?_
          (try simp only [Act.put, List.setIfInBounds_toArray, List.set_cons_zero, List.set_cons_succ])
          refine take_skip (i := 12) (d := some 71) rfl rfl (by kernel_rfl) (by kernel_rfl) (by kernel_rfl) (fun _ _ _ h => h) (by rfl) (by assumption) ?_
          (try simp only [Act.put, List.setIfInBounds_toArray, List.set_cons_zero, List.set_cons_succ])
          refine take_skip (i := 13) (d := some 72) rfl rfl (by kernel_rfl) (by kernel_rfl) (by kernel_rfl) (fun _ _ _ h => h) (by rfl) (by assumption) ?_
          (try simp only [Act.put, List.setIfInBounds_toArray, List.set_cons_zero, List.set_cons_succ])
          refine take_skip (i := 14) (d := some 73) rfl rfl (by kernel_rfl) (by kernel_rfl) (by kernel_rfl) (fun _ _ _ h => h) (by rfl) (by assumption) ?_
          (try simp only [Act.put, List.setIfInBounds_toArray, List.set_cons_zero, List.set_cons_succ])
          refine take_skip (i := 15) (d := some 74) rfl rfl (by kernel_rfl) (by kernel_rfl) (by kernel_rfl) (fun _ _ _ h => h) (by rfl) (by assumption) ?_
          (try simp only [Act.put, List.setIfInBounds_toArray, List.set_cons_zero, List.set_cons_succ])
          refine take_skip (i := 16) (d := some 75) rfl rfl (by kernel_rfl) (by kernel_rfl) (by kernel_rfl) (fun _ _ _ h => h) (by rfl) (by assumption) ?_
          (try simp only [Act.put, List.setIfInBounds_toArray, List.set_cons_zero, List.set_cons_succ])
          refine take_run (i := 17) (d := some 76) (v := .bool false) rfl rfl (by kernel_rfl) (by kernel_rfl) (by kernel_rfl) (fun _ _ _ h => h) (by rfl) (fun w hSw => by (try dsimp only at hSw); go_simp) (by assumption) ?_
          (try simp only [Act.put, List.setIfInBounds_toArray, List.set_cons_zero, List.set_cons_succ])
          refine take_run (i := 18) (d := some 77) (v := .bool false) rfl rfl (by kernel_rfl) (by kernel_rfl) (by kernel_rfl) (fun _ _ _ h => h) (by rfl) (fun w hSw => by (try dsimp only at hSw); go_simp) (by assumption) ?_
          (try simp only [Act.put, List.setIfInBounds_toArray, List.set_cons_zero, List.set_cons_succ])
          refine take_run (i := 19) (d := some 78) (v := .bool false) rfl rfl (by kernel_rfl) (by kernel_rfl) (by kernel_rfl) (fun _ _ _ h => h) (by rfl) (fun w hSw => by (try dsimp only at hSw); go_simp) (by assumption) ?_
          (try simp only [Act.put, List.setIfInBounds_toArray, List.set_cons_zero, List.set_cons_succ])
          refine take_run (i := 20) (d := some 79) (v := .agg #[Value.bool (decide (y.num < 0)), Value.slice ya yn yc, Value.slice yb ym yd]) rfl rfl (by kernel_rfl) (by kernel_rfl) (by kernel_rfl) (fun _ _ _ h => h) (by rfl) (fun w hSw => by (try dsimp only at hSw); go_simp) (by assumption) ?_
          (try simp only [Act.put, List.setIfInBounds_toArray, List.set_cons_zero, List.set_cons_succ])
          refine take_run (i := 23) (d := some 82) (v := .string S) rfl rfl (by kernel_rfl) (by kernel_rfl) (by kernel_rfl) (fun _ _ _ h => h) (by rfl) (fun w hSw => by (try dsimp only at hSw); go_simp) (by assumption) ?_
          (try simp only [Act.put, List.setIfInBounds_toArray, List.set_cons_zero, List.set_cons_succ])
          refine take_run (i := 24) (d := some 83) (v := .int .u8 (c0 : Int)) rfl rfl (by kernel_rfl) (by kernel_rfl) (by kernel_rfl) (fun _ _ _ h => h) (by rfl) (fun w hSw => by (try dsimp only at hSw); go_simp) (by assumption) ?_
          (try simp only [Act.put, List.setIfInBounds_toArray, List.set_cons_zero, List.set_cons_succ])
          refine take_run (i := 25) (d := some 84) (v := .bool bb) rfl rfl (by kernel_rfl) (by kernel_rfl) (by kernel_rfl) (fun _ _ _ h => h) (by rfl) (fun w hSw => by (try dsimp only at hSw); go_simp) (by assumption) ?_
          (try simp only [Act.put, List.setIfInBounds_toArray, List.set_cons_zero, List.set_cons_succ])
          refine wpAnyH_ready (rs := [21]) (by kernel_rfl) (by simp) ?_
          refine AllReadyH.cons (o := _) rfl (fun K hK => ?_) AllReadyH.nil
          go_simp
          refine (qsign ((Oy_7.below bl).rdQ (Py_7.below bl) hys) (by omega)).mono ?_
          rintro e w8 ⟨rfl, hB⟩
          have hB_8 : Below wr.heap.size wr w8 := (bl.next hB)
          have X_8 := X_7.next hB_8
          have Q_8 := Q_7.next hB_8
          have Y_8 := Y_7.next hB_8
          have cY_8_0 : _ = some (Value.bool (decide (y.num < 0))) := Y_8.cell 0
          have cY_8_1 : _ = some (Value.slice ya yn yc) := Y_8.cell 1
          have cY_8_2 : _ = some (Value.slice yb ym yd) := Y_8.cell 2
          have Ox_8 := Ox_7.below hB_8
          have Px_8 := Px_7.below hB_8
          have Oy_8 := Oy_7.below hB_8
          have Py_8 := Py_7.below hB_8
          have hbR_8 := hbR_7.next hB_8
          have hbel_8 := hbel_7.next hB_8
          have hsz_8 := hB_8.size
          clear X_7 Q_7 Y_7 cY_7_0 cY_7_1 cY_7_2 Ox_7 Px_7 Oy_7 Py_7 hbR_7 hbel_7 hB_8
          try clear hB
          (try go_wp2_with fail)
          refine hK.out _ _ ⟨cY_8_0, cY_8_1, cY_8_2⟩ (fun hHeld2 => ?_)
          clear hK K hHeld
          (try simp only [Act.put, List.setIfInBounds_toArray, List.set_cons_zero, List.set_cons_succ])
          refine take_run (i := 22) (d := some 81) (v := .bool bb) rfl rfl (by kernel_rfl) (by kernel_rfl) (by kernel_rfl) (fun _ _ _ h => h) (by rfl) (fun w hSw => by (try dsimp only at hSw); go_simp) (by assumption) ?_
          (try simp only [Act.put, List.setIfInBounds_toArray, List.set_cons_zero, List.set_cons_succ])
          refine take_run (i := 26) (d := some 85) (v := .bool false) rfl rfl (by kernel_rfl) (by kernel_rfl) (by kernel_rfl) (fun _ _ _ h => h) (by rfl) (fun w hSw => by (try dsimp only at hSw); go_simp) (by assumption) ?_
          (try simp only [Act.put, List.setIfInBounds_toArray, List.set_cons_zero, List.set_cons_succ])
          refine take_run (i := 27) (d := some 86) (v := .bool false) rfl rfl (by kernel_rfl) (by kernel_rfl) (by kernel_rfl) (fun _ _ _ h => h) (by rfl) (fun w hSw => by (try dsimp only at hSw); go_simp) (by assumption) ?_
          (try simp only [Act.put, List.setIfInBounds_toArray, List.set_cons_zero, List.set_cons_succ])
          refine wpAnyH_done (by kernel_rfl) ?_ _
          refine NoPanic.normal ?_
          clear hn1 hn2 hn3
          all_goals (go_wp2_with fail; go_meet; exact ⟨rfl, hbR_8⟩)
        · obtain ⟨hpz, hNS⟩ := hpv.2 hN0
          obtain ⟨m2, hm2⟩ : ∃ y, S.size - N - 1 = y := ⟨_, rfl⟩
          obtain ⟨m3, hm3⟩ : ∃ y, S.size - N = y := ⟨_, rfl⟩
          rw [hm2] at hpz
          subst hpz
          have hn1 : ((N : Int) == 0) = false := by simp; omega
          have hn2 : decide ((0 : Int) < (N : Int)) = true := by simp; omega
          have hn3 : decide (0 < N) = true := by simp; omega
          have hw1 : IntKind.i64.wrap ((S.size : Int) - (N : Int)) = (m3 : Int) := by rw [IntKind.wrap_i64]; omega
          have hw2 : IntKind.i64.wrap ((m3 : Int) - 1) = (m2 : Int) := by rw [IntKind.wrap_i64]; omega
          have hw3 : ((m2 : Int) != (m2 : Int)) = false := by simp
          clear hm2 hm3 hpv hN0
          have hbR_7 : Below wr.heap.size wr wr := Below.refl _ _
          have cY_7_0 : _ = some (Value.bool (decide (y.num < 0))) := Y_7.cell 0
          have cY_7_1 : _ = some (Value.slice ya yn yc) := Y_7.cell 1
          have cY_7_2 : _ = some (Value.slice yb ym yd) := Y_7.cell 2
          refine wp_region_noPanic ?_
          refine wp_region_held_drew (S := (fun w' => w'.cell? ⟨w6.heap.size, 0, none⟩ = some (Value.bool (decide (y.num < 0))) ∧ w'.cell? ⟨w6.heap.size, 1, none⟩ = some (Value.slice ya yn yc) ∧ w'.cell? ⟨w6.heap.size, 2, none⟩ = some (Value.slice yb ym yd))) (by kernel_rfl) ⟨cY_7_0, cY_7_1, cY_7_2⟩ (fun hHeld => ?_)
          refine take_run (i := 0) (d := some 59) (v := .int .i64 (N : Int)) rfl rfl (by kernel_rfl) (by kernel_rfl) (by kernel_rfl) (fun _ _ _ h => h) (by rfl) (fun w hSw => by (try dsimp only at hSw); go_simp) (by assumption) ?_
          (try simp only [Act.put, List.setIfInBounds_toArray, List.set_cons_zero, List.set_cons_succ])
          refine take_run (i := 1) (d := some 60) (v := .bool false) rfl rfl (by kernel_rfl) (by kernel_rfl) (by kernel_rfl) (fun _ _ _ h => h) (by rfl) (fun w hSw => by (try dsimp only at hSw); go_simp) (by assumption) ?_
          (try simp only [Act.put, List.setIfInBounds_toArray, List.set_cons_zero, List.set_cons_succ])
          refine take_run (i := 2) (d := some 61) (v := .bool false) rfl rfl (by kernel_rfl) (by kernel_rfl) (by kernel_rfl) (fun _ _ _ h => h) (by rfl) (fun w hSw => by (try dsimp only at hSw); go_simp) (by assumption) ?_
          (try simp only [Act.put, List.setIfInBounds_toArray, List.set_cons_zero, List.set_cons_succ])
          refine take_skip (i := 3) (d := some 62) rfl rfl (by kernel_rfl) (by kernel_rfl) (by kernel_rfl) (fun _ _ _ h => h) (by rfl) (by assumption) ?_
          (try simp only [Act.put, List.setIfInBounds_toArray, List.set_cons_zero, List.set_cons_succ])
          refine take_skip (i := 4) (d := some 63) rfl rfl (by kernel_rfl) (by kernel_rfl) (by kernel_rfl) (fun _ _ _ h => h) (by rfl) (by assumption) ?_
          (try simp only [Act.put, List.setIfInBounds_toArray, List.set_cons_zero, List.set_cons_succ])
          refine take_run (i := 5) (d := some 64) (v := .bool false) rfl rfl (by kernel_rfl) (by kernel_rfl) (by kernel_rfl) (fun _ _ _ h => h) (by rfl) (fun w hSw => by (try dsimp only at hSw); go_simp) (by assumption) ?_
          (try simp only [Act.put, List.setIfInBounds_toArray, List.set_cons_zero, List.set_cons_succ])
          refine take_run (i := 6) (d := some 65) (v := .bool false) rfl rfl (by kernel_rfl) (by kernel_rfl) (by kernel_rfl) (fun _ _ _ h => h) (by rfl) (fun w hSw => by (try dsimp only at hSw); go_simp) (by assumption) ?_
          (try simp only [Act.put, List.setIfInBounds_toArray, List.set_cons_zero, List.set_cons_succ])
          refine take_run (i := 7) (d := some 66) (v := .int .i64 (N : Int)) rfl rfl (by kernel_rfl) (by kernel_rfl) (by kernel_rfl) (fun _ _ _ h => h) (by rfl) (fun w hSw => by (try dsimp only at hSw); go_simp) (by assumption) ?_
          (try simp only [Act.put, List.setIfInBounds_toArray, List.set_cons_zero, List.set_cons_succ])
          refine take_run (i := 8) (d := some 67) (v := .bool true) rfl rfl (by kernel_rfl) (by kernel_rfl) (by kernel_rfl) (fun _ _ _ h => h) (by rfl) (fun w hSw => by (try dsimp only at hSw); go_simp) (by assumption) ?_
          (try simp only [Act.put, List.setIfInBounds_toArray, List.set_cons_zero, List.set_cons_succ])
          refine take_run (i := 9) (d := some 68) (v := .bool true) rfl rfl (by kernel_rfl) (by kernel_rfl) (by kernel_rfl) (fun _ _ _ h => h) (by rfl) (fun w hSw => by (try dsimp only at hSw); go_simp) (by assumption) ?_
          (try simp only [Act.put, List.setIfInBounds_toArray, List.set_cons_zero, List.set_cons_succ])
          refine take_run (i := 10) (d := some 69) (v := .int .i64 (m2 : Int)) rfl rfl (by kernel_rfl) (by kernel_rfl) (by kernel_rfl) (fun _ _ _ h => h) (by rfl) (fun w hSw => by (try dsimp only at hSw); go_simp) (by assumption) ?_
          (try simp only [Act.put, List.setIfInBounds_toArray, List.set_cons_zero, List.set_cons_succ])
          refine take_run (i := 11) (d := some 70) (v := .string S) rfl rfl (by kernel_rfl) (by kernel_rfl) (by kernel_rfl) (fun _ _ _ h => h) (by rfl) (fun w hSw => by (try dsimp only at hSw); go_simp) (by assumption) ?_
          (try simp only [Act.put, List.setIfInBounds_toArray, List.set_cons_zero, List.set_cons_succ])
          refine take_run (i := 12) (d := some 71) (v := .int .i64 (S.size : Int)) rfl rfl (by kernel_rfl) (by kernel_rfl) (by kernel_rfl) (fun _ _ _ h => h) (by rfl) (fun w hSw => by (try dsimp only at hSw); go_simp) (by assumption) ?_
          (try simp only [Act.put, List.setIfInBounds_toArray, List.set_cons_zero, List.set_cons_succ])
          refine take_run (i := 13) (d := some 72) (v := .int .i64 (N : Int)) rfl rfl (by kernel_rfl) (by kernel_rfl) (by kernel_rfl) (fun _ _ _ h => h) (by rfl) (fun w hSw => by (try dsimp only at hSw); go_simp) (by assumption) ?_
          (try simp only [Act.put, List.setIfInBounds_toArray, List.set_cons_zero, List.set_cons_succ])
          refine take_run (i := 14) (d := some 73) (v := .int .i64 (m3 : Int)) rfl rfl (by kernel_rfl) (by kernel_rfl) (by kernel_rfl) (fun _ _ _ h => h) (by rfl) (fun w hSw => by (try dsimp only at hSw); go_simp) (by assumption) ?_
          (try simp only [Act.put, List.setIfInBounds_toArray, List.set_cons_zero, List.set_cons_succ])
          refine take_run (i := 15) (d := some 74) (v := .int .i64 (m2 : Int)) rfl rfl (by kernel_rfl) (by kernel_rfl) (by kernel_rfl) (fun _ _ _ h => h) (by rfl) (fun w hSw => by (try dsimp only at hSw); go_simp) (by assumption) ?_
          (try simp only [Act.put, List.setIfInBounds_toArray, List.set_cons_zero, List.set_cons_succ])
          refine take_run (i := 16) (d := some 75) (v := .bool false) rfl rfl (by kernel_rfl) (by kernel_rfl) (by kernel_rfl) (fun _ _ _ h => h) (by rfl) (fun w hSw => by (try dsimp only at hSw); go_simp) (by assumption) ?_
          (try simp only [Act.put, List.setIfInBounds_toArray, List.set_cons_zero, List.set_cons_succ])
          refine take_run (i := 17) (d := some 76) (v := .bool false) rfl rfl (by kernel_rfl) (by kernel_rfl) (by kernel_rfl) (fun _ _ _ h => h) (by rfl) (fun w hSw => by (try dsimp only at hSw); go_simp) (by assumption) ?_
          (try simp only [Act.put, List.setIfInBounds_toArray, List.set_cons_zero, List.set_cons_succ])
          refine take_run (i := 18) (d := some 77) (v := .bool false) rfl rfl (by kernel_rfl) (by kernel_rfl) (by kernel_rfl) (fun _ _ _ h => h) (by rfl) (fun w hSw => by (try dsimp only at hSw); go_simp) (by assumption) ?_
          (try simp only [Act.put, List.setIfInBounds_toArray, List.set_cons_zero, List.set_cons_succ])
          refine take_run (i := 19) (d := some 78) (v := .bool false) rfl rfl (by kernel_rfl) (by kernel_rfl) (by kernel_rfl) (fun _ _ _ h => h) (by rfl) (fun w hSw => by (try dsimp only at hSw); go_simp) (by assumption) ?_
          (try simp only [Act.put, List.setIfInBounds_toArray, List.set_cons_zero, List.set_cons_succ])
          refine take_run (i := 20) (d := some 79) (v := .agg #[Value.bool (decide (y.num < 0)), Value.slice ya yn yc, Value.slice yb ym yd]) rfl rfl (by kernel_rfl) (by kernel_rfl) (by kernel_rfl) (fun _ _ _ h => h) (by rfl) (fun w hSw => by (try dsimp only at hSw); go_simp) (by assumption) ?_
          (try simp only [Act.put, List.setIfInBounds_toArray, List.set_cons_zero, List.set_cons_succ])
          refine take_run (i := 23) (d := some 82) (v := .string S) rfl rfl (by kernel_rfl) (by kernel_rfl) (by kernel_rfl) (fun _ _ _ h => h) (by rfl) (fun w hSw => by (try dsimp only at hSw); go_simp) (by assumption) ?_
          (try simp only [Act.put, List.setIfInBounds_toArray, List.set_cons_zero, List.set_cons_succ])
          refine take_run (i := 24) (d := some 83) (v := .int .u8 (c0 : Int)) rfl rfl (by kernel_rfl) (by kernel_rfl) (by kernel_rfl) (fun _ _ _ h => h) (by rfl) (fun w hSw => by (try dsimp only at hSw); go_simp) (by assumption) ?_
          (try simp only [Act.put, List.setIfInBounds_toArray, List.set_cons_zero, List.set_cons_succ])
          refine take_run (i := 25) (d := some 84) (v := .bool bb) rfl rfl (by kernel_rfl) (by kernel_rfl) (by kernel_rfl) (fun _ _ _ h => h) (by rfl) (fun w hSw => by (try dsimp only at hSw); go_simp) (by assumption) ?_
          (try simp only [Act.put, List.setIfInBounds_toArray, List.set_cons_zero, List.set_cons_succ])
          refine wpAnyH_ready (rs := [21]) (by kernel_rfl) (by simp) ?_
          refine AllReadyH.cons (o := _) rfl (fun K hK => ?_) AllReadyH.nil
          go_simp
          refine (qsign ((Oy_7.below bl).rdQ (Py_7.below bl) hys) (by omega)).mono ?_
          rintro e w8 ⟨rfl, hB⟩
          have hB_8 : Below wr.heap.size wr w8 := (bl.next hB)
          have X_8 := X_7.next hB_8
          have Q_8 := Q_7.next hB_8
          have Y_8 := Y_7.next hB_8
          have cY_8_0 : _ = some (Value.bool (decide (y.num < 0))) := Y_8.cell 0
          have cY_8_1 : _ = some (Value.slice ya yn yc) := Y_8.cell 1
          have cY_8_2 : _ = some (Value.slice yb ym yd) := Y_8.cell 2
          have Ox_8 := Ox_7.below hB_8
          have Px_8 := Px_7.below hB_8
          have Oy_8 := Oy_7.below hB_8
          have Py_8 := Py_7.below hB_8
          have hbR_8 := hbR_7.next hB_8
          have hbel_8 := hbel_7.next hB_8
          have hsz_8 := hB_8.size
          clear X_7 Q_7 Y_7 cY_7_0 cY_7_1 cY_7_2 Ox_7 Px_7 Oy_7 Py_7 hbR_7 hbel_7 hB_8
          try clear hB
          (try go_wp2_with fail)
          refine hK.out _ _ ⟨cY_8_0, cY_8_1, cY_8_2⟩ (fun hHeld2 => ?_)
          clear hK K hHeld
          (try simp only [Act.put, List.setIfInBounds_toArray, List.set_cons_zero, List.set_cons_succ])
          refine take_run (i := 22) (d := some 81) (v := .bool bb) rfl rfl (by kernel_rfl) (by kernel_rfl) (by kernel_rfl) (fun _ _ _ h => h) (by rfl) (fun w hSw => by (try dsimp only at hSw); go_simp) (by assumption) ?_
          (try simp only [Act.put, List.setIfInBounds_toArray, List.set_cons_zero, List.set_cons_succ])
          refine take_run (i := 26) (d := some 85) (v := .bool false) rfl rfl (by kernel_rfl) (by kernel_rfl) (by kernel_rfl) (fun _ _ _ h => h) (by rfl) (fun w hSw => by (try dsimp only at hSw); go_simp) (by assumption) ?_
          (try simp only [Act.put, List.setIfInBounds_toArray, List.set_cons_zero, List.set_cons_succ])
          refine take_run (i := 27) (d := some 86) (v := .bool false) rfl rfl (by kernel_rfl) (by kernel_rfl) (by kernel_rfl) (fun _ _ _ h => h) (by rfl) (fun w hSw => by (try dsimp only at hSw); go_simp) (by assumption) ?_
          (try simp only [Act.put, List.setIfInBounds_toArray, List.set_cons_zero, List.set_cons_succ])
          refine wpAnyH_done (by kernel_rfl) ?_ _
          refine NoPanic.normal ?_
          clear hn1 hn2 hn3
          all_goals (go_wp2_with fail; go_meet; exact ⟨rfl, hbR_8⟩)
      case rest =>
        obtain ⟨rfl, hBx⟩ := hcut
        clear hpv
        have hB_8 : Below wr.heap.size wr wc := hBx
        have X_8 := X_7.next hB_8
        have Q_8 := Q_7.next hB_8
        have Y_8 := Y_7.next hB_8
        have Ox_8 := Ox_7.below hB_8
        have Px_8 := Px_7.below hB_8
        have Oy_8 := Oy_7.below hB_8
        have Py_8 := Py_7.below hB_8
        have hbel_8 := hbel_7.next hB_8
        have hsz_8 := hB_8.size
        clear X_7 Q_7 Y_7 Ox_7 Px_7 Oy_7 Py_7 hbel_7 hB_8
        clear hBx
        have cY_8_0 : _ = some (Value.bool (decide (y.num < 0))) := Y_8.cell 0
        have cY_8_1 : _ = some (Value.slice ya yn yc) := Y_8.cell 1
        have cY_8_2 : _ = some (Value.slice yb ym yd) := Y_8.cell 2
        have cQ_8_0 : _ = some (Value.bool (decide (q.num < 0))) := Q_8.cell 0
        have cQ_8_1 : _ = some (Value.slice xa xn xc) := Q_8.cell 1
        have cQ_8_2 : _ = some (Value.slice xb xm xd) := Q_8.cell 2
        go_wp2_with fail
        refine (qsub (Oy_8.rdQ Py_8 hys) (by omega) (Ox_8.rdQ Px_8 hqs) (by omega)).mono ?_
        rintro e w9 ⟨oa, on, oc, ob, om, od, rfl, hO, hO', hDo, hB⟩
        have hB_9 : Below wc.heap.size wc w9 := (bl.next hB)
        have X_9 := X_8.next hB_9
        have Q_9 := Q_8.next hB_9
        have Y_9 := Y_8.next hB_9
        have Ox_9 := Ox_8.below hB_9
        have Px_9 := Px_8.below hB_9
        have Oy_9 := Oy_8.below hB_9
        have Py_9 := Py_8.below hB_9
        have hbel_9 := hbel_8.next hB_9
        have hsz_9 := hB_9.size
        clear X_8 Q_8 cQ_8_0 cQ_8_1 cQ_8_2 Y_8 cY_8_0 cY_8_1 cY_8_2 Ox_8 Px_8 Oy_8 Py_8 hbel_8 hB_9
        have Oo_9 := hO
        have ltOo := hO.ltB
        have Po_9 := hO'
        have ltPo := hO'.ltB
        clear hO hO'
        try clear hB
        have hoqs := (hys.sub hqs).mono (show _ ≤ 100 by omega)
        generalize hoq : y - q = o at *
        clear hoq
        have hbx := blk_new w9 #[Value.bool (decide (o.num < 0)), Value.slice oa on oc, Value.slice ob om od] 29
        have hbB := (Below.refl w9.heap.size w9).alloc (Nat.le_refl _) (.cells #[Value.bool (decide (o.num < 0)), Value.slice oa on oc, Value.slice ob om od] 29)
        have hltO := hbx.lt
        have hB_10 : Below w9.heap.size w9 (w9.alloc (.cells #[Value.bool (decide (o.num < 0)), Value.slice oa on oc, Value.slice ob om od] 29)) := hbB
        have X_10 := X_9.next hB_10
        have Q_10 := Q_9.next hB_10
        have Y_10 := Y_9.next hB_10
        have Ox_10 := Ox_9.below hB_10
        have Px_10 := Px_9.below hB_10
        have Oy_10 := Oy_9.below hB_10
        have Py_10 := Py_9.below hB_10
        have Oo_10 := Oo_9.below hB_10
        have Po_10 := Po_9.below hB_10
        have hbel_10 := hbel_9.next hB_10
        have hsz_10 := hB_10.size
        clear hB_10
        have O_10 := hbx
        clear hbx hbB
        have cO_10_0 : _ = some (Value.bool (decide (o.num < 0))) := O_10.cell 0
        have fO_10_0 := O_10.free 0
        have cO_10_1 : _ = some (Value.slice oa on oc) := O_10.cell 1
        have fO_10_1 := O_10.free 1
        have cO_10_2 : _ = some (Value.slice ob om od) := O_10.cell 2
        have fO_10_2 := O_10.free 2
        go_wp2_with fail
        clear X_9 Q_9 Y_9 Ox_9 Px_9 Oy_9 Py_9 Oo_9 Po_9 hbel_9
        generalize (w9.alloc (.cells #[Value.bool (decide (o.num < 0)), Value.slice oa on oc, Value.slice ob om od] 29)) = v10 at *
        go_wp2_with fail
        refine (qsign (Oo_10.rdQ Po_10 hoqs) (by omega)).mono ?_
        rintro e w11 ⟨rfl, hB⟩
        have hB_11 : Below v10.heap.size v10 w11 := (bl.next hB)
        have X_11 := X_10.next hB_11
        have Q_11 := Q_10.next hB_11
        have Y_11 := Y_10.next hB_11
        have O_11 := O_10.next hB_11
        have Ox_11 := Ox_10.below hB_11
        have Px_11 := Px_10.below hB_11
        have Oy_11 := Oy_10.below hB_11
        have Py_11 := Py_10.below hB_11
        have Oo_11 := Oo_10.below hB_11
        have Po_11 := Po_10.below hB_11
        have hbel_11 := hbel_10.next hB_11
        have hsz_11 := hB_11.size
        clear X_10 Q_10 Y_10 O_10 cO_10_0 fO_10_0 cO_10_1 fO_10_1 cO_10_2 fO_10_2 Ox_10 Px_10 Oy_10 Py_10 Oo_10 Po_10 hbel_10 hB_11
        try clear hB
        obtain ⟨o2, hoq3⟩ : ∃ y, -o = y := ⟨_, rfl⟩
        have hoq2 := hoqs.neg
        rw [hoq3] at hoq2 hl ho2
        have hoq4 := hid hoq3
        clear hoq3
        have cO_11_0 : _ = some (Value.bool (decide (o.num < 0))) := O_11.cell 0
        have fO_11_0 := O_11.free 0
        have cO_11_1 : _ = some (Value.slice oa on oc) := O_11.cell 1
        have fO_11_1 := O_11.free 1
        have cO_11_2 : _ = some (Value.slice ob om od) := O_11.cell 2
        have fO_11_2 := O_11.free 2
        go_wp2_with fail
        refine (qneg (Oo_11.rdQ Po_11 hoqs) (by omega)).mono ?_
        rw [hoq4.out]
        rintro e w12 ⟨ua, un, uc, ub, um, ud, rfl, hO, hO', hDu, hB⟩
        have hB_12 : Below w11.heap.size w11 w12 := (bl.next hB)
        have X_12 := X_11.next hB_12
        have Q_12 := Q_11.next hB_12
        have Y_12 := Y_11.next hB_12
        have O_12 := O_11.next hB_12
        have Ox_12 := Ox_11.below hB_12
        have Px_12 := Px_11.below hB_12
        have Oy_12 := Oy_11.below hB_12
        have Py_12 := Py_11.below hB_12
        have Oo_12 := Oo_11.below hB_12
        have Po_12 := Po_11.below hB_12
        have hbel_12 := hbel_11.next hB_12
        have hsz_12 := hB_12.size
        clear X_11 Q_11 Y_11 O_11 cO_11_0 fO_11_0 cO_11_1 fO_11_1 cO_11_2 fO_11_2 Ox_11 Px_11 Oy_11 Py_11 Oo_11 Po_11 hbel_11 hB_12
        have Ou_12 := hO
        have ltOu := hO.ltB
        have Pu_12 := hO'
        have ltPu := hO'.ltB
        clear hO hO'
        try clear hB
        have cO_12_0 : _ = some (Value.bool (decide (o.num < 0))) := O_12.cell 0
        have fO_12_0 := O_12.free 0
        have cO_12_1 : _ = some (Value.slice oa on oc) := O_12.cell 1
        have fO_12_1 := O_12.free 1
        have cO_12_2 : _ = some (Value.slice ob om od) := O_12.cell 2
        have fO_12_2 := O_12.free 2
        have hkp := kp_set3 w12 (w9.heap.size) (Value.bool (decide (o2.num < 0))) (Value.slice ua un uc) (Value.slice ub um ud)
        have O_13 := (show Blk _ _ #[Value.bool (decide (o2.num < 0)), Value.slice ua un uc, Value.slice ub um ud] from (((O_12).setCell (i := 0) (v := Value.bool (decide (o2.num < 0))) (by simp)).setCell (i := 1) (v := Value.slice ua un uc) (by simp)).setCell (i := 2) (v := Value.slice ub um ud) (by simp))
        have X_13 := X_12.set3 (show w.heap.size ≠ w9.heap.size by omega) (Value.bool (decide (o2.num < 0))) (Value.slice ua un uc) (Value.slice ub um ud)
        have Q_13 := Q_12.set3 (show w2.heap.size ≠ w9.heap.size by omega) (Value.bool (decide (o2.num < 0))) (Value.slice ua un uc) (Value.slice ub um ud)
        have Y_13 := Y_12.set3 (show w6.heap.size ≠ w9.heap.size by omega) (Value.bool (decide (o2.num < 0))) (Value.slice ua un uc) (Value.slice ub um ud)
        have Ox_13 := Ox_12.kp hkp (fun g e => by have := ltOx g e; show ¬ (g = _); omega)
        have Px_13 := Px_12.kp hkp (fun g e => by have := ltPx g e; show ¬ (g = _); omega)
        have Oy_13 := Oy_12.kp hkp (fun g e => by have := ltOy g e; show ¬ (g = _); omega)
        have Py_13 := Py_12.kp hkp (fun g e => by have := ltPy g e; show ¬ (g = _); omega)
        have Ou_13 := Ou_12.kp hkp (fun g e => by have := (Ou_12.lt' _ e).1; show ¬ (g = _); omega)
        have Pu_13 := Pu_12.kp hkp (fun g e => by have := (Pu_12.lt' _ e).1; show ¬ (g = _); omega)
        have hbel_13 := Below.set3 hbel_12 (show w.heap.size ≤ w9.heap.size by omega) (Value.bool (decide (o2.num < 0))) (Value.slice ua un uc) (Value.slice ub um ud)
        have hsz_13 := hkp.size
        go_wp2_with fail
        clear X_12 Q_12 Y_12 O_12 cO_12_0 fO_12_0 cO_12_1 fO_12_1 cO_12_2 fO_12_2 Ox_12 Px_12 Oy_12 Py_12 Oo_12 Po_12 Ou_12 Pu_12 hbel_12 hkp
        generalize (((w12.setCell ⟨w9.heap.size, 0, none⟩ (Value.bool (decide (o2.num < 0)))).setCell ⟨w9.heap.size, 1, none⟩ (Value.slice ua un uc)).setCell ⟨w9.heap.size, 2, none⟩ (Value.slice ub um ud)) = v13 at *
        obtain ⟨T, hT⟩ : ∃ T, 10 ^ N = T := ⟨_, rfl⟩
        have hTs : Sz T 24 := by rw [← hT]; exact (ten_sz9 N).mono (Nat.le_refl _) (by omega)
        have hTn : T ≠ 0 := by rw [← hT]; exact Nat.ne_of_gt (Nat.pow_pos (by decide))
        have HOv := lover (w := v13) N (by omega)
        unfold RetOv at HOv
        rw [hT] at HOv hl ho2
        clear hT
        go_wp2_with fail
        refine (HOv).mono ?_
        rintro e w14 ⟨pa, pc, pb, pm, pd, rfl, hR1, hR2, hO, hB⟩
        have hB_14 : Below v13.heap.size v13 w14 := (bl.next hB)
        have X_14 := X_13.next hB_14
        have Q_14 := Q_13.next hB_14
        have Y_14 := Y_13.next hB_14
        have O_14 := O_13.next hB_14
        have Ox_14 := Ox_13.below hB_14
        have Px_14 := Px_13.below hB_14
        have Oy_14 := Oy_13.below hB_14
        have Py_14 := Py_13.below hB_14
        have Ou_14 := Ou_13.below hB_14
        have Pu_14 := Pu_13.below hB_14
        have hbel_14 := hbel_13.next hB_14
        have hsz_14 := hB_14.size
        clear X_13 Q_13 Y_13 O_13 Ox_13 Px_13 Oy_13 Py_13 Ou_13 Pu_13 hbel_13 hB_14
        have T_14 := hO
        have ltT := hO.ltB
        have U_14 := hR1
        clear hO hR1 hR2
        try clear hB
        have hbx0 : Blk ((w14.alloc (.cells #[Value.int .u32 1] 39)).alloc (.cells #[Value.int .u32 2] 39)) (w14.heap.size) #[Value.int .u32 1] := ((blk_new' w14 #[Value.int .u32 1] 39 (g := w14.heap.size) (by simp)).alloc _)
        have hbx1 : Blk ((w14.alloc (.cells #[Value.int .u32 1] 39)).alloc (.cells #[Value.int .u32 2] 39)) (w14.heap.size + 1) #[Value.int .u32 2] := (blk_new' (w14.alloc (.cells #[Value.int .u32 1] 39)) #[Value.int .u32 2] 39 (g := w14.heap.size + 1) (by simp))
        have hbB : Below w14.heap.size w14 ((w14.alloc (.cells #[Value.int .u32 1] 39)).alloc (.cells #[Value.int .u32 2] 39)) := bl
        have hltL1 := hbx0.lt
        have hltL2 := hbx1.lt
        have hB_15 : Below w14.heap.size w14 ((w14.alloc (.cells #[Value.int .u32 1] 39)).alloc (.cells #[Value.int .u32 2] 39)) := hbB
        have X_15 := X_14.next hB_15
        have Q_15 := Q_14.next hB_15
        have Y_15 := Y_14.next hB_15
        have O_15 := O_14.next hB_15
        have Ox_15 := Ox_14.below hB_15
        have Px_15 := Px_14.below hB_15
        have Oy_15 := Oy_14.below hB_15
        have Py_15 := Py_14.below hB_15
        have Ou_15 := Ou_14.below hB_15
        have Pu_15 := Pu_14.below hB_15
        have T_15 := T_14.below hB_15
        have U_15 := U_14.below hB_15
        have hbel_15 := hbel_14.next hB_15
        have hsz_15 := hB_15.size
        clear hB_15
        have L1_15 := hbx0
        clear hbx0
        have L2_15 := hbx1
        clear hbx1
        clear hbB
        go_wp2_with fail
        clear X_14 Q_14 Y_14 O_14 Ox_14 Px_14 Oy_14 Py_14 Ou_14 Pu_14 T_14 U_14 hbel_14
        generalize ((w14.alloc (.cells #[Value.int .u32 1] 39)).alloc (.cells #[Value.int .u32 2] 39)) = v15 at *
        have A1_15 : RdQ 24 v15 false pa 1 pc pb pm pd (mkRat 1 T) := ⟨1, T, U_15.mono (by omega), T_15.rdN hTs, by unfold qv; rw [und_of hTn]; rfl⟩
        have A2_15 : RdQ 1 v15 false (some ⟨w14.heap.size, 0, none⟩) 1 1 (some ⟨w14.heap.size + 1, 0, none⟩) 1 1 (mkRat 1 2) := ⟨1, 2, rdN_blk rfl (by decide) L1_15, rdN_blk rfl (by decide) L2_15, rfl⟩
        have hhq : QS (mkRat 1 T * mkRat 1 2) 100 := ((A1_15.qs (by omega)).mul (A2_15.qs (by omega))).mono (by omega)
        go_wp2_with fail
        refine (qmul A1_15 (by omega) A2_15 (by omega)).mono ?_
        rintro e w16 ⟨ha, hn, hc, hb, hm, hd, rfl, hO, hO', hDh, hB⟩
        have hB_16 : Below v15.heap.size v15 w16 := (bl.next hB)
        have X_16 := X_15.next hB_16
        have Q_16 := Q_15.next hB_16
        have Y_16 := Y_15.next hB_16
        have O_16 := O_15.next hB_16
        have L1_16 := L1_15.next hB_16
        have L2_16 := L2_15.next hB_16
        have Ox_16 := Ox_15.below hB_16
        have Px_16 := Px_15.below hB_16
        have Oy_16 := Oy_15.below hB_16
        have Py_16 := Py_15.below hB_16
        have Ou_16 := Ou_15.below hB_16
        have Pu_16 := Pu_15.below hB_16
        have T_16 := T_15.below hB_16
        have U_16 := U_15.below hB_16
        have A1_16 := A1_15.below hB_16
        have A2_16 := A2_15.below hB_16
        have hbel_16 := hbel_15.next hB_16
        have hsz_16 := hB_16.size
        clear X_15 Q_15 Y_15 O_15 L1_15 L2_15 Ox_15 Px_15 Oy_15 Py_15 Ou_15 Pu_15 T_15 U_15 A1_15 A2_15 hbel_15 hB_16
        have Oh_16 := hO
        have ltOh := hO.ltB
        have Ph_16 := hO'
        have ltPh := hO'.ltB
        clear hO hO'
        try clear hB
        clear A1_16
        clear A2_16
        generalize mkRat 1 T * mkRat 1 2 = h at *
        have hbx := blk_new w16 #[Value.bool (decide (h.num < 0)), Value.slice ha hn hc, Value.slice hb hm hd] 29
        have hbB := (Below.refl w16.heap.size w16).alloc (Nat.le_refl _) (.cells #[Value.bool (decide (h.num < 0)), Value.slice ha hn hc, Value.slice hb hm hd] 29)
        have hltH := hbx.lt
        have hB_17 : Below w16.heap.size w16 (w16.alloc (.cells #[Value.bool (decide (h.num < 0)), Value.slice ha hn hc, Value.slice hb hm hd] 29)) := hbB
        have X_17 := X_16.next hB_17
        have Q_17 := Q_16.next hB_17
        have Y_17 := Y_16.next hB_17
        have O_17 := O_16.next hB_17
        have L1_17 := L1_16.next hB_17
        have L2_17 := L2_16.next hB_17
        have Ox_17 := Ox_16.below hB_17
        have Px_17 := Px_16.below hB_17
        have Oy_17 := Oy_16.below hB_17
        have Py_17 := Py_16.below hB_17
        have Ou_17 := Ou_16.below hB_17
        have Pu_17 := Pu_16.below hB_17
        have T_17 := T_16.below hB_17
        have U_17 := U_16.below hB_17
        have Oh_17 := Oh_16.below hB_17
        have Ph_17 := Ph_16.below hB_17
        have hbel_17 := hbel_16.next hB_17
        have hsz_17 := hB_17.size
        clear hB_17
        have H_17 := hbx
        clear hbx hbB
        have cO_17_0 : _ = some (Value.bool (decide (o2.num < 0))) := O_17.cell 0
        have fO_17_0 := O_17.free 0
        have cO_17_1 : _ = some (Value.slice ua un uc) := O_17.cell 1
        have fO_17_1 := O_17.free 1
        have cO_17_2 : _ = some (Value.slice ub um ud) := O_17.cell 2
        have fO_17_2 := O_17.free 2
        have cH_17_0 : _ = some (Value.bool (decide (h.num < 0))) := H_17.cell 0
        have cH_17_1 : _ = some (Value.slice ha hn hc) := H_17.cell 1
        have cH_17_2 : _ = some (Value.slice hb hm hd) := H_17.cell 2
        go_wp2_with fail
        clear X_16 Q_16 Y_16 O_16 L1_16 L2_16 Ox_16 Px_16 Oy_16 Py_16 Ou_16 Pu_16 T_16 U_16 Oh_16 Ph_16 hbel_16
        generalize (w16.alloc (.cells #[Value.bool (decide (h.num < 0)), Value.slice ha hn hc, Value.slice hb hm hd] 29)) = v17 at *
        go_wp2_with fail
        refine (qcmp (Ou_17.rdQ Pu_17 hoq2) (by omega) (Oh_17.rdQ Ph_17 hhq) (by omega)).mono ?_
        rintro e w18 ⟨rfl, hB⟩
        have hB_18 : Below v17.heap.size v17 w18 := (bl.next hB)
        have X_18 := X_17.next hB_18
        have Q_18 := Q_17.next hB_18
        have Y_18 := Y_17.next hB_18
        have O_18 := O_17.next hB_18
        have L1_18 := L1_17.next hB_18
        have L2_18 := L2_17.next hB_18
        have H_18 := H_17.next hB_18
        have Ox_18 := Ox_17.below hB_18
        have Px_18 := Px_17.below hB_18
        have Oy_18 := Oy_17.below hB_18
        have Py_18 := Py_17.below hB_18
        have Ou_18 := Ou_17.below hB_18
        have Pu_18 := Pu_17.below hB_18
        have T_18 := T_17.below hB_18
        have U_18 := U_17.below hB_18
        have Oh_18 := Oh_17.below hB_18
        have Ph_18 := Ph_17.below hB_18
        have hbel_18 := hbel_17.next hB_18
        have hsz_18 := hB_18.size
        clear X_17 Q_17 Y_17 O_17 cO_17_0 fO_17_0 cO_17_1 fO_17_1 cO_17_2 fO_17_2 L1_17 L2_17 H_17 cH_17_0 cH_17_1 cH_17_2 Ox_17 Px_17 Oy_17 Py_17 Ou_17 Pu_17 T_17 U_17 Oh_17 Ph_17 hbel_17 hB_18
        try clear hB
        generalize cmpQ o2 h = cv at *
        obtain ⟨dv, hdv⟩ : ∃ v, cmpQ y q = v := ⟨_, rfl⟩
        have hdr := cmpQ_range y q
        rw [hdv] at hdr
        have hfin : cv < 0 ∨ (0 ≤ cv ∧ dv = -1) := by
          rcases Int.lt_or_le cv 0 with h8 | h8
          · exact .inl h8
          · refine .inr ⟨h8, ?_⟩
            have h9 := ho2.out (by omega)
            rw [← hdv]
            exact cmpQ_lt h9
        clear ho2
        have cY_18_0 : _ = some (Value.bool (decide (y.num < 0))) := Y_18.cell 0
        have cY_18_1 : _ = some (Value.slice ya yn yc) := Y_18.cell 1
        have cY_18_2 : _ = some (Value.slice yb ym yd) := Y_18.cell 2
        have cQ_18_0 : _ = some (Value.bool (decide (q.num < 0))) := Q_18.cell 0
        have cQ_18_1 : _ = some (Value.slice xa xn xc) := Q_18.cell 1
        have cQ_18_2 : _ = some (Value.slice xb xm xd) := Q_18.cell 2
        go_wp2_with fail
        refine (qcmp (Oy_18.rdQ Py_18 hys) (by omega) (Ox_18.rdQ Px_18 hqs) (by omega)).mono ?_
        rw [hdv]
        rintro e w19 ⟨rfl, hB⟩
        have hB_19 : Below w18.heap.size w18 w19 := (bl.next hB)
        have X_19 := X_18.next hB_19
        have Q_19 := Q_18.next hB_19
        have Y_19 := Y_18.next hB_19
        have O_19 := O_18.next hB_19
        have L1_19 := L1_18.next hB_19
        have L2_19 := L2_18.next hB_19
        have H_19 := H_18.next hB_19
        have Ox_19 := Ox_18.below hB_19
        have Px_19 := Px_18.below hB_19
        have Oy_19 := Oy_18.below hB_19
        have Py_19 := Py_18.below hB_19
        have Ou_19 := Ou_18.below hB_19
        have Pu_19 := Pu_18.below hB_19
        have T_19 := T_18.below hB_19
        have U_19 := U_18.below hB_19
        have Oh_19 := Oh_18.below hB_19
        have Ph_19 := Ph_18.below hB_19
        have hbel_19 := hbel_18.next hB_19
        have hsz_19 := hB_19.size
        clear X_18 Q_18 cQ_18_0 cQ_18_1 cQ_18_2 Y_18 cY_18_0 cY_18_1 cY_18_2 O_18 L1_18 L2_18 H_18 Ox_18 Px_18 Oy_18 Py_18 Ou_18 Pu_18 T_18 U_18 Oh_18 Ph_18 hbel_18 hB_19
        try clear hB
        have cQ_19_0 : _ = some (Value.bool (decide (q.num < 0))) := Q_19.cell 0
        have cQ_19_1 : _ = some (Value.slice xa xn xc) := Q_19.cell 1
        have cQ_19_2 : _ = some (Value.slice xb xm xd) := Q_19.cell 2
        go_wp2_with fail
        refine (qsign (Ox_19.rdQ Px_19 hqs) (by omega)).mono ?_
        rintro e w20 ⟨rfl, hB⟩
        have hB_20 : Below w19.heap.size w19 w20 := (bl.next hB)
        have X_20 := X_19.next hB_20
        have Q_20 := Q_19.next hB_20
        have Y_20 := Y_19.next hB_20
        have O_20 := O_19.next hB_20
        have L1_20 := L1_19.next hB_20
        have L2_20 := L2_19.next hB_20
        have H_20 := H_19.next hB_20
        have Ox_20 := Ox_19.below hB_20
        have Px_20 := Px_19.below hB_20
        have Oy_20 := Oy_19.below hB_20
        have Py_20 := Py_19.below hB_20
        have Ou_20 := Ou_19.below hB_20
        have Pu_20 := Pu_19.below hB_20
        have T_20 := T_19.below hB_20
        have U_20 := U_19.below hB_20
        have Oh_20 := Oh_19.below hB_20
        have Ph_20 := Ph_19.below hB_20
        have hbel_20 := hbel_19.next hB_20
        have hsz_20 := hB_20.size
        clear X_19 Q_19 cQ_19_0 cQ_19_1 cQ_19_2 Y_19 O_19 L1_19 L2_19 H_19 Ox_19 Px_19 Oy_19 Py_19 Ou_19 Pu_19 T_19 U_19 Oh_19 Ph_19 hbel_19 hB_20
        try clear hB
        have cY_20_0 : _ = some (Value.bool (decide (y.num < 0))) := Y_20.cell 0
        have cY_20_1 : _ = some (Value.slice ya yn yc) := Y_20.cell 1
        have cY_20_2 : _ = some (Value.slice yb ym yd) := Y_20.cell 2
        have cQ_20_0 : _ = some (Value.bool (decide (q.num < 0))) := Q_20.cell 0
        have cQ_20_1 : _ = some (Value.slice xa xn xc) := Q_20.cell 1
        have cQ_20_2 : _ = some (Value.slice xb xm xd) := Q_20.cell 2
        go_wp2_with fail
        refine (qcmp (Oy_20.rdQ Py_20 hys) (by omega) (Ox_20.rdQ Px_20 hqs) (by omega)).mono ?_
        rw [hdv]
        rintro e w21 ⟨rfl, hB⟩
        have hB_21 : Below w20.heap.size w20 w21 := (bl.next hB)
        have X_21 := X_20.next hB_21
        have Q_21 := Q_20.next hB_21
        have Y_21 := Y_20.next hB_21
        have O_21 := O_20.next hB_21
        have L1_21 := L1_20.next hB_21
        have L2_21 := L2_20.next hB_21
        have H_21 := H_20.next hB_21
        have Ox_21 := Ox_20.below hB_21
        have Px_21 := Px_20.below hB_21
        have Oy_21 := Oy_20.below hB_21
        have Py_21 := Py_20.below hB_21
        have Ou_21 := Ou_20.below hB_21
        have Pu_21 := Pu_20.below hB_21
        have T_21 := T_20.below hB_21
        have U_21 := U_20.below hB_21
        have Oh_21 := Oh_20.below hB_21
        have Ph_21 := Ph_20.below hB_21
        have hbel_21 := hbel_20.next hB_21
        have hsz_21 := hB_21.size
        clear X_20 Q_20 cQ_20_0 cQ_20_1 cQ_20_2 Y_20 cY_20_0 cY_20_1 cY_20_2 O_20 L1_20 L2_20 H_20 Ox_20 Px_20 Oy_20 Py_20 Ou_20 Pu_20 T_20 U_20 Oh_20 Ph_20 hbel_20 hB_21
        try clear hB
        clear hdv
        rcases hfin with h8 | ⟨h8, rfl⟩
        · go_wp2
          go_ret
          exact ⟨rfl, hbel_21⟩
        · go_wp2
          go_ret
          exact ⟨rfl, hbel_21⟩

theorem decimalNear_walk {w : World} {a b : Option Addr} {n c m d : Nat} {l k : List Nat} (s : Bool) (ha : Rd w a n c l) (hb : Rd w b m d k) (z : Int) (h1 : -9223372036854775808 ≤ z) (h2 : z ≤ 9223372036854775807) : Calls Try.prog 13 #[.agg #[.bool s, .slice a n c, .slice b m d], .int .i64 z] w (fun e w' => e = .returned (.bool true) ∧ Below w.heap.size w w') := by
  obtain ⟨q, hqs, HF⟩ := lfrac s ha hb
  obtain ⟨hb1, hb2⟩ := bdN_bd z (n := 200) (by omega)
  obtain ⟨N, hN⟩ : ∃ N : Nat, bdN z 200 = (N : Int) := ⟨(bdN z 200).toNat, by omega⟩
  by_cases hoff : rdQ q N - q < 0
  · by_cases hneg : q < 0
    · exact dnear_11 z h1 h2 HF hqs N hN (by omega) hoff hneg
    · exact dnear_10 z h1 h2 HF hqs N hN (by omega) hoff hneg
  · by_cases hneg : q < 0
    · exact dnear_01 z h1 h2 HF hqs N hN (by omega) hoff hneg
    · exact dnear_00 z h1 h2 HF hqs N hN (by omega) hoff hneg
end Go.Proofs.Ytnpkmlpmeeidbaa
