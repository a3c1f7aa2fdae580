/- THE WALK OF credencelaw02.WholeMakes: every answer of Norm, Neg, Add, Sub, Mul, Floor, Quo, Bezout; each is its holder's. -/
import Derived.Test.YtokkfppchfmjcaaZr
import Derived.Deep.Cut
import Derived.Deep.CutRange
import Derived.RegionTactic
import Derived.BigRegion
import Derived.Laws.BitsAllLaws
namespace Go.Proofs.Ytokkfppchfmjcaa
set_option linter.unusedVariables false
set_option linter.unusedSimpArgs false
open Go.ChangeShapes Go.WideShapes Go.ChangeAt Go.RowKit Go.NatP

/-- limbs turned over -/
def cm (v : Nat) : Nat := 4294967295 ^^^ v
theorem cm_lt {v : Nat} (h : v < 4294967296) : cm v < 4294967296 := Nat.xor_lt_two_pow (n := 32) (by decide) h
theorem bits_cm2 {v : Nat} (h : v < 4294967296) : bits .xor .u32 4294967295 (v : Int) = ((cm v : Nat) : Int) := u32_xor_nat 4294967295 v (by omega) h
theorem bits_cm {v : Nat} (h : v < 4294967296) : Op.intBits .xor .u32 4294967295 (v : Int) = pure (.int .u32 ((cm v : Nat) : Int)) := by rw [← bits_cm2 h]; rfl
def cml (la : List Nat) (j : Nat) : List Nat := (la.take j).map cm ++ (mk20 la 20).drop j
theorem cml_zero (la : List Nat) : cml la 0 = mk20 la 20 := rfl
theorem mk20_take (la : List Nat) : (mk20 la 20).take la.length = la := by unfold mk20; exact List.take_left
theorem cml_get {la : List Nat} {j : Nat} (h : j < la.length) : (cml la j).getD j 0 = la.getD j 0 := by
  unfold cml mk20
  rw [List.getD_eq_getElem?_getD, List.getD_eq_getElem?_getD, List.getElem?_append_right (by simp; omega), List.getElem?_drop, List.getElem?_append_left (by simp; omega)]
  simp [show min j la.length = j by omega]
theorem cml_step {la : List Nat} {j : Nat} (h : j < la.length) : (cml la j).set j (cm (la.getD j 0)) = cml la (j + 1) := by
  have hd : (mk20 la 20).drop j = (mk20 la 20)[j]'(by rw [mk20_len]; omega) :: (mk20 la 20).drop (j + 1) := List.drop_eq_getElem_cons (by rw [mk20_len]; omega)
  have e : (la.take (j + 1)).map cm = (la.take j).map cm ++ [cm (la.getD j 0)] := by rw [List.take_add_one, List.map_append, List.getElem?_eq_getElem h]; simp only [Option.toList_some, List.map_cons, List.map_nil, List.getD_eq_getElem?_getD, List.getElem?_eq_getElem h, Option.getD_some]
  unfold cml
  rw [hd, List.set_append_right _ _ (by simp; omega), show j - ((la.take j).map cm).length = 0 by simp; omega, List.set_cons_zero, e, List.append_assoc]
  rfl
theorem cml_take (la : List Nat) : (cml la la.length).take la.length = la.map cm := by
  unfold cml
  rw [List.take_length, List.take_left' (by simp)]
theorem nums_len {B g K : Nat} {W : World} {A : Nat → Option Addr} {N C : Nat → Nat} {Z : Nat → Int} (h : Nums B W g K A N C Z) {J : Nat} (hJ : ∀ i, i < K → (lm (Z i).natAbs).length ≤ J) : ∀ i, i < K → N i ≤ J := fun i hi => by have := (h.own i hi).len; have := hJ i hi; omega
theorem nums_lt {B g K : Nat} {W : World} {A : Nat → Option Addr} {N C : Nat → Nat} {Z : Nat → Int} (h : Nums B W g K A N C Z) : ∀ j, pL K A j → B ≤ j ∧ j < W.heap.size := fun j ⟨i, hi, e⟩ => (h.own i hi).lt' j e

set_option maxRecDepth 100000 in
set_option maxHeartbeats 8000000 in
theorem made_any {w : World} {a b : Option Addr} {n c m d : Nat} {la lb : List Nat} {s t : Bool} (k : Nat) (hk : k < 8) (ha : Rd w a n c la) (hn : n ≤ 30) (hb : Rd w b m d lb) (hm : m ≤ 30) :
    Calls Try.prog 9 #[.int .i64 (k : Int), .agg #[.bool s, .slice a n c], .agg #[.bool t, .slice b m d]] w (fun e w' => e = .returned (.bool true) ∧ Below w.heap.size w w') := by
  have hcl : Lim (la.map cm) := fun y hy => by obtain ⟨z, hz, rfl⟩ := List.mem_map.1 hy; exact cm_lt (ha.lim z hz)
  obtain ⟨K, Z, er, hK0, hK3, hlZ0, HC0, HT0⟩ := call_told k hk s t (val la) (val lb) (ha.lim.sz (by rw [ha.len]; exact hn)) (hb.lim.sz (by rw [hb.len]; exact hm))
  obtain ⟨K', Z', er', hK0', hK3', -, HC0', HT0'⟩ := call_told k hk s t (val (la.map cm)) (val lb) (hcl.sz (by rw [List.length_map, ha.len]; exact hn)) (hb.lim.sz (by rw [hb.len]; exact hm))
  have HC := hid HC0
  have HT := hid HT0
  have HC' := hid HC0'
  have HT' := hid HT0'
  have hlz := hid (fun i (hi : i < K) => Nat.le_trans (hlZ0 i hi).len (show 100 ≤ 1000 by omega))
  clear HC0 HT0 HC0' HT0' hlZ0 hcl
  have hal := ha.len
  have hbl := hb.len
  have HLM := hid ha.lim
  have HBW := hid hb
  have hent := ent2 w #[Value.bool s, Value.slice a n c] #[Value.bool t, Value.slice b m d] 25 25
  go_enter Try.func9, Try.ntmps9
  go_wp2_with fail
  generalize ((w.alloc (.cells #[Value.bool s, Value.slice a n c] 25)).alloc (.cells #[Value.bool t, Value.slice b m d] 25)) = W0 at hent ⊢
  obtain ⟨X_0, Y_0, hbel_0, hsz_0⟩ := hent
  have cX_0_0 : _ = some (Value.bool s) := X_0.cell 0
  have cX_0_1 : _ = some (Value.slice a n c) := X_0.cell 1
  have cY_0_0 : _ = some (Value.bool t) := Y_0.cell 0
  have cY_0_1 : _ = some (Value.slice b m d) := Y_0.cell 1
  have ha_0 := ha.below hbel_0
  clear ha
  have hb_0 := hb.below hbel_0
  clear hb
  have hn4 : n ≤ 4194304 := by omega
  have hm4 : m ≤ 4194304 := by omega
  go_wp2_with fail
  refine (HT.out _ _ _ _ _ _ _ _ _ ha_0 hn4 rfl hb_0 hm4 rfl).mono ?_
  rintro e w1 ⟨g0, A0, N0, C0, rfl, hN, hB⟩
  have hB_1 : Below W0.heap.size W0 w1 := (bl.next hB)
  have X_1 := X_0.next hB_1
  have cX_1_0 : _ = some (Value.bool s) := X_1.cell 0
  have cX_1_1 : _ = some (Value.slice a n c) := X_1.cell 1
  have Y_1 := Y_0.next hB_1
  have cY_1_0 : _ = some (Value.bool t) := Y_1.cell 0
  have cY_1_1 : _ = some (Value.slice b m d) := Y_1.cell 1
  have ha_1 := ha_0.below hB_1
  have hb_1 := hb_0.below hB_1
  have hbel_1 := hbel_0.next hB_1
  have hsz_1 := hB_1.size
  clear X_0 cX_0_0 cX_0_1 Y_0 cY_0_0 cY_0_1 ha_0 hb_0 hbel_0 hB_1
  have NW_1 := hN
  have hNhi := hid hN.hi
  have hNlt := hid (nums_lt hN)
  clear hN
  try clear hB
  go_wp2_with fail
  refine (nlong ha_1 (by omega)).mono ?_
  rintro e w2 ⟨xa, xn, xc, rfl, hO, hB⟩
  have hB_2 : Below w1.heap.size w1 w2 := (bl.next hB)
  have X_2 := X_1.next hB_2
  have cX_2_0 : _ = some (Value.bool s) := X_2.cell 0
  have cX_2_1 : _ = some (Value.slice a n c) := X_2.cell 1
  have Y_2 := Y_1.next hB_2
  have cY_2_0 : _ = some (Value.bool t) := Y_2.cell 0
  have cY_2_1 : _ = some (Value.slice b m d) := Y_2.cell 1
  have ha_2 := ha_1.below hB_2
  have hb_2 := hb_1.below hB_2
  have NW_2 := NW_1.below hB_2
  have hbel_2 := hbel_1.next hB_2
  have hsz_2 := hB_2.size
  clear X_1 cX_1_0 cX_1_1 Y_1 cY_1_0 cY_1_1 ha_1 hb_1 NW_1 hbel_1 hB_2
  have OX_2 := hO
  have ltOX := hO.ltB
  have hltX0 := hid hO.lt'
  clear hO
  try clear hB
  go_wp2_with fail
  refine (nlong hb_2 (by omega)).mono ?_
  rintro e w3 ⟨ya, yn, yc, rfl, hO, hB⟩
  have hB_3 : Below w2.heap.size w2 w3 := (bl.next hB)
  have X_3 := X_2.next hB_3
  have cX_3_0 : _ = some (Value.bool s) := X_3.cell 0
  have cX_3_1 : _ = some (Value.slice a n c) := X_3.cell 1
  have Y_3 := Y_2.next hB_3
  have cY_3_0 : _ = some (Value.bool t) := Y_3.cell 0
  have cY_3_1 : _ = some (Value.slice b m d) := Y_3.cell 1
  have ha_3 := ha_2.below hB_3
  have hb_3 := hb_2.below hB_3
  have NW_3 := NW_2.below hB_3
  have OX_3 := OX_2.below hB_3
  have hbel_3 := hbel_2.next hB_3
  have hsz_3 := hB_3.size
  clear X_2 cX_2_0 cX_2_1 Y_2 cY_2_0 cY_2_1 ha_2 hb_2 NW_2 OX_2 hbel_2 hB_3
  have OY_3 := hO
  have ltOY := hO.ltB
  clear hO
  try clear hB
  obtain rfl : xn = n + 20 := by have h1 := OX_3.len; rw [mk20_len] at h1; omega
  have hbdx := OX_3.bnd
  obtain ⟨gx, rfl⟩ : ∃ g, xa = some ⟨g, 0, none⟩ := by
    rcases OX_3.cases with ⟨_, h, _⟩ | ⟨g, h, _⟩
    · omega
    · exact ⟨g, h⟩
  obtain rfl : yn = m + 20 := by have h1 := OY_3.len; rw [mk20_len] at h1; omega
  have hbdy := OY_3.bnd
  obtain ⟨gy, rfl⟩ : ∃ g, ya = some ⟨g, 0, none⟩ := by
    rcases OY_3.cases with ⟨_, h, _⟩ | ⟨g, h, _⟩
    · omega
    · exact ⟨g, h⟩
  have hgX := hltX0.out gx rfl
  have hgY := OY_3.lt
  have hNWx := hid (show ¬ (g0 = gx) by have := hNhi.out; omega)
  have hNWa := hid (fun i (hi : i < K) q (e : A0 i = some ⟨q, 0, none⟩) => (by have := (hNlt.out q ⟨i, hi, e⟩).2; omega : ¬ (q = gx)))
  have hi0 : (0 : Int) ≤ (n : Int) := by omega
  have hi1 : (n : Int) ≤ (xc : Int) := by omega
  go_wp2_with fail
  go_cut [11] (fun s11 wx => ∃ g, s11 = .pointer (some ⟨g, 0, none⟩) ∧ Blk wx g #[Value.bool s, Value.slice (some ⟨gx, 0, none⟩) n xc] ∧ w3.heap.size ≤ g ∧ Below w3.heap.size w3 wx)
  case first =>
    have q0 : ∀ o, (w3.alloc o).cell? ⟨w.heap.size, 0, none⟩ = some (Value.bool s) := fun o => (X_3.alloc o).cell 0
    have q1 : ∀ o, (w3.alloc o).cell? ⟨w.heap.size, 1, none⟩ = some (Value.slice a n c) := fun o => (X_3.alloc o).cell 1
    go_wp2_with fail
    go_region
    all_goals (go_wp2_with fail; go_meet; exact ⟨_, rfl, blk_new _ _ _, Nat.le_refl _, ((Below.refl w3.heap.size w3).alloc (Nat.le_refl _) _).drew⟩)
  case rest =>
    obtain ⟨gP, rfl, hbk, hgeP, hBc⟩ := hcut
    have hB_4 : Below w3.heap.size w3 wc := hBc
    have X_4 := X_3.next hB_4
    have cX_4_0 : _ = some (Value.bool s) := X_4.cell 0
    have cX_4_1 : _ = some (Value.slice a n c) := X_4.cell 1
    have Y_4 := Y_3.next hB_4
    have cY_4_0 : _ = some (Value.bool t) := Y_4.cell 0
    have cY_4_1 : _ = some (Value.slice b m d) := Y_4.cell 1
    have ha_4 := ha_3.below hB_4
    have hb_4 := hb_3.below hB_4
    have NW_4 := NW_3.below hB_4
    have OX_4 := OX_3.below hB_4
    have OY_4 := OY_3.below hB_4
    have hbel_4 := hbel_3.next hB_4
    have hsz_4 := hB_4.size
    clear X_3 cX_3_0 cX_3_1 Y_3 cY_3_0 cY_3_1 ha_3 hb_3 NW_3 OX_3 OY_3 hbel_3 hB_4
    clear hBc hi0 hi1
    obtain ⟨wc4, hwc⟩ : ∃ y : World, y = wc := ⟨_, rfl⟩
    subst hwc
    have P_4 := hbk
    have hltP := hbk.lt
    clear hbk
    have cP_4_0 : _ = some (Value.bool s) := P_4.cell 0
    have cP_4_1 : _ = some (Value.slice (some ⟨gx, 0, none⟩) n xc) := P_4.cell 1
    have hi0 : (0 : Int) ≤ (m : Int) := by omega
    have hi1 : (m : Int) ≤ (yc : Int) := by omega
    go_wp2_with fail
    go_cut [12] (fun s12 wx => ∃ g, s12 = .pointer (some ⟨g, 0, none⟩) ∧ Blk wx g #[Value.bool t, Value.slice (some ⟨gy, 0, none⟩) m yc] ∧ wc4.heap.size ≤ g ∧ Below wc4.heap.size wc4 wx)
    case first =>
      have q0 : ∀ o, (wc4.alloc o).cell? ⟨w.heap.size + 1, 0, none⟩ = some (Value.bool t) := fun o => (Y_4.alloc o).cell 0
      have q1 : ∀ o, (wc4.alloc o).cell? ⟨w.heap.size + 1, 1, none⟩ = some (Value.slice b m d) := fun o => (Y_4.alloc o).cell 1
      go_wp2_with fail
      go_region
      all_goals (go_wp2_with fail; go_meet; exact ⟨_, rfl, blk_new _ _ _, Nat.le_refl _, ((Below.refl wc4.heap.size wc4).alloc (Nat.le_refl _) _).drew⟩)
    case rest =>
      obtain ⟨gQ, rfl, hbk, hgeQ, hBc⟩ := hcut
      have hB_5 : Below wc4.heap.size wc4 wc := hBc
      have X_5 := X_4.next hB_5
      have cX_5_0 : _ = some (Value.bool s) := X_5.cell 0
      have cX_5_1 : _ = some (Value.slice a n c) := X_5.cell 1
      have Y_5 := Y_4.next hB_5
      have cY_5_0 : _ = some (Value.bool t) := Y_5.cell 0
      have cY_5_1 : _ = some (Value.slice b m d) := Y_5.cell 1
      have P_5 := P_4.next hB_5
      have cP_5_0 : _ = some (Value.bool s) := P_5.cell 0
      have cP_5_1 : _ = some (Value.slice (some ⟨gx, 0, none⟩) n xc) := P_5.cell 1
      have ha_5 := ha_4.below hB_5
      have hb_5 := hb_4.below hB_5
      have NW_5 := NW_4.below hB_5
      have OX_5 := OX_4.below hB_5
      have OY_5 := OY_4.below hB_5
      have hbel_5 := hbel_4.next hB_5
      have hsz_5 := hB_5.size
      clear X_4 cX_4_0 cX_4_1 Y_4 cY_4_0 cY_4_1 P_4 cP_4_0 cP_4_1 ha_4 hb_4 NW_4 OX_4 OY_4 hbel_4 hB_5
      clear hBc hi0 hi1
      obtain ⟨wc5, hwc⟩ : ∃ y : World, y = wc := ⟨_, rfl⟩
      subst hwc
      have Q_5 := hbk
      have hltQ := hbk.lt
      clear hbk
      have cQ_5_0 : _ = some (Value.bool t) := Q_5.cell 0
      have cQ_5_1 : _ = some (Value.slice (some ⟨gy, 0, none⟩) m yc) := Q_5.cell 1
      have RP_5 := (by have h := (OX_5.take (k := n) (by omega)).rd; rw [show (mk20 la 20).take n = la by rw [← hal]; exact mk20_take la] at h; exact h : Rd wc5 (some ⟨gx, 0, none⟩) n xc la)
      have RQ_5 := (by have h := (OY_5.take (k := m) (by omega)).rd; rw [show (mk20 lb 20).take m = lb by rw [← hbl]; exact mk20_take lb] at h; exact h : Rd wc5 (some ⟨gy, 0, none⟩) m yc lb)
      have mX := hid X_5
      have mY := hid Y_5
      have mP := hid P_5
      have mQ := hid Q_5
      have mha := hid ha_5
      have mhb := hid hb_5
      have mNW := hid NW_5
      have mOX := hid OX_5
      have mOY := hid OY_5
      have mRP := hid RP_5
      have mRQ := hid RQ_5
      have mhbel := hid hbel_5
      have hbM_5 : Below wc5.heap.size wc5 wc5 := Below.refl _ _
      go_wp2_with fail
      refine (HC.out _ _ _ _ _ _ _ _ _ RP_5 hn4 rfl RQ_5 hm4 rfl).mono ?_
      rintro e w6 ⟨g1, A1, N1, C1, rfl, hN, hB⟩
      have hB_6 : Below wc5.heap.size wc5 w6 := (bl.next hB)
      have X_6 := X_5.next hB_6
      have cX_6_0 : _ = some (Value.bool s) := X_6.cell 0
      have cX_6_1 : _ = some (Value.slice a n c) := X_6.cell 1
      have Y_6 := Y_5.next hB_6
      have cY_6_0 : _ = some (Value.bool t) := Y_6.cell 0
      have cY_6_1 : _ = some (Value.slice b m d) := Y_6.cell 1
      have P_6 := P_5.next hB_6
      have cP_6_0 : _ = some (Value.bool s) := P_6.cell 0
      have cP_6_1 : _ = some (Value.slice (some ⟨gx, 0, none⟩) n xc) := P_6.cell 1
      have Q_6 := Q_5.next hB_6
      have cQ_6_0 : _ = some (Value.bool t) := Q_6.cell 0
      have cQ_6_1 : _ = some (Value.slice (some ⟨gy, 0, none⟩) m yc) := Q_6.cell 1
      have ha_6 := ha_5.below hB_6
      have hb_6 := hb_5.below hB_6
      have NW_6 := NW_5.below hB_6
      have OX_6 := OX_5.below hB_6
      have OY_6 := OY_5.below hB_6
      have RP_6 := RP_5.below hB_6
      have RQ_6 := RQ_5.below hB_6
      have hbM_6 := hbM_5.next hB_6
      have hbel_6 := hbel_5.next hB_6
      have hsz_6 := hB_6.size
      clear X_5 cX_5_0 cX_5_1 Y_5 cY_5_0 cY_5_1 P_5 cP_5_0 cP_5_1 Q_5 cQ_5_0 cQ_5_1 ha_5 hb_5 NW_5 OX_5 OY_5 RP_5 RQ_5 hbM_5 hbel_5 hB_6
      have N1s_6 := hN
      have hlt1 := hid (nums_lt hN)
      have hgl1 := hid hN.lo
      have hgh1 := hid hN.hi
      clear hN
      try clear hB
      go_wp2_with fail
      refine (HC.out _ _ _ _ _ _ _ _ _ RP_6 hn4 rfl RQ_6 hm4 rfl).mono ?_
      rintro e w7 ⟨g2, A2, N2, C2, rfl, hN, hB⟩
      have hB_7 : Below w6.heap.size w6 w7 := (bl.next hB)
      have X_7 := X_6.next hB_7
      have cX_7_0 : _ = some (Value.bool s) := X_7.cell 0
      have cX_7_1 : _ = some (Value.slice a n c) := X_7.cell 1
      have Y_7 := Y_6.next hB_7
      have cY_7_0 : _ = some (Value.bool t) := Y_7.cell 0
      have cY_7_1 : _ = some (Value.slice b m d) := Y_7.cell 1
      have P_7 := P_6.next hB_7
      have cP_7_0 : _ = some (Value.bool s) := P_7.cell 0
      have cP_7_1 : _ = some (Value.slice (some ⟨gx, 0, none⟩) n xc) := P_7.cell 1
      have Q_7 := Q_6.next hB_7
      have cQ_7_0 : _ = some (Value.bool t) := Q_7.cell 0
      have cQ_7_1 : _ = some (Value.slice (some ⟨gy, 0, none⟩) m yc) := Q_7.cell 1
      have ha_7 := ha_6.below hB_7
      have hb_7 := hb_6.below hB_7
      have NW_7 := NW_6.below hB_7
      have OX_7 := OX_6.below hB_7
      have OY_7 := OY_6.below hB_7
      have RP_7 := RP_6.below hB_7
      have RQ_7 := RQ_6.below hB_7
      have hbM_7 := hbM_6.next hB_7
      have N1s_7 := N1s_6.below hB_7
      have hbel_7 := hbel_6.next hB_7
      have hsz_7 := hB_7.size
      clear X_6 cX_6_0 cX_6_1 Y_6 cY_6_0 cY_6_1 P_6 cP_6_0 cP_6_1 Q_6 cQ_6_0 cQ_6_1 ha_6 hb_6 NW_6 OX_6 OY_6 RP_6 RQ_6 hbM_6 N1s_6 hbel_6 hB_7
      have N2s_7 := hN
      have hlt2 := hid (nums_lt hN)
      have hgl2 := hid hN.lo
      have hgh2 := hid hN.hi
      clear hN
      try clear hB
      go_wp2_with fail
      refine (HC.out _ _ _ _ _ _ _ _ _ RP_7 hn4 rfl RQ_7 hm4 rfl).mono ?_
      rintro e w8 ⟨g3, A3, N3, C3, rfl, hN, hB⟩
      have hB_8 : Below w7.heap.size w7 w8 := (bl.next hB)
      have X_8 := X_7.next hB_8
      have cX_8_0 : _ = some (Value.bool s) := X_8.cell 0
      have cX_8_1 : _ = some (Value.slice a n c) := X_8.cell 1
      have Y_8 := Y_7.next hB_8
      have cY_8_0 : _ = some (Value.bool t) := Y_8.cell 0
      have cY_8_1 : _ = some (Value.slice b m d) := Y_8.cell 1
      have P_8 := P_7.next hB_8
      have cP_8_0 : _ = some (Value.bool s) := P_8.cell 0
      have cP_8_1 : _ = some (Value.slice (some ⟨gx, 0, none⟩) n xc) := P_8.cell 1
      have Q_8 := Q_7.next hB_8
      have cQ_8_0 : _ = some (Value.bool t) := Q_8.cell 0
      have cQ_8_1 : _ = some (Value.slice (some ⟨gy, 0, none⟩) m yc) := Q_8.cell 1
      have ha_8 := ha_7.below hB_8
      have hb_8 := hb_7.below hB_8
      have NW_8 := NW_7.below hB_8
      have OX_8 := OX_7.below hB_8
      have OY_8 := OY_7.below hB_8
      have RP_8 := RP_7.below hB_8
      have RQ_8 := RQ_7.below hB_8
      have hbM_8 := hbM_7.next hB_8
      have N1s_8 := N1s_7.below hB_8
      have N2s_8 := N2s_7.below hB_8
      have hbel_8 := hbel_7.next hB_8
      have hsz_8 := hB_8.size
      clear X_7 cX_7_0 cX_7_1 Y_7 cY_7_0 cY_7_1 P_7 cP_7_0 cP_7_1 Q_7 cQ_7_0 cQ_7_1 ha_7 hb_7 NW_7 OX_7 OY_7 RP_7 RQ_7 hbM_7 N1s_7 N2s_7 hbel_7 hB_8
      have N3s_8 := hN
      have hlt3 := hid (nums_lt hN)
      have hgl3 := hid hN.lo
      have hgh3 := hid hN.hi
      clear hN
      try clear hB
      go_wp2_with fail
      refine (nsame N1s_8 NW_8 hK3).mono ?_
      rintro e w9 ⟨rfl, hB⟩
      have hB_9 : Below w8.heap.size w8 w9 := (bl.next hB)
      have X_9 := X_8.next hB_9
      have cX_9_0 : _ = some (Value.bool s) := X_9.cell 0
      have cX_9_1 : _ = some (Value.slice a n c) := X_9.cell 1
      have Y_9 := Y_8.next hB_9
      have cY_9_0 : _ = some (Value.bool t) := Y_9.cell 0
      have cY_9_1 : _ = some (Value.slice b m d) := Y_9.cell 1
      have P_9 := P_8.next hB_9
      have cP_9_0 : _ = some (Value.bool s) := P_9.cell 0
      have cP_9_1 : _ = some (Value.slice (some ⟨gx, 0, none⟩) n xc) := P_9.cell 1
      have Q_9 := Q_8.next hB_9
      have cQ_9_0 : _ = some (Value.bool t) := Q_9.cell 0
      have cQ_9_1 : _ = some (Value.slice (some ⟨gy, 0, none⟩) m yc) := Q_9.cell 1
      have ha_9 := ha_8.below hB_9
      have hb_9 := hb_8.below hB_9
      have NW_9 := NW_8.below hB_9
      have OX_9 := OX_8.below hB_9
      have OY_9 := OY_8.below hB_9
      have RP_9 := RP_8.below hB_9
      have RQ_9 := RQ_8.below hB_9
      have hbM_9 := hbM_8.next hB_9
      have N1s_9 := N1s_8.below hB_9
      have N2s_9 := N2s_8.below hB_9
      have N3s_9 := N3s_8.below hB_9
      have hbel_9 := hbel_8.next hB_9
      have hsz_9 := hB_9.size
      clear X_8 cX_8_0 cX_8_1 Y_8 cY_8_0 cY_8_1 P_8 cP_8_0 cP_8_1 Q_8 cQ_8_0 cQ_8_1 ha_8 hb_8 NW_8 OX_8 OY_8 RP_8 RQ_8 hbM_8 N1s_8 N2s_8 N3s_8 hbel_8 hB_9
      try clear hB
      go_wp2_with fail
      refine (nsame N2s_9 NW_9 hK3).mono ?_
      rintro e w10 ⟨rfl, hB⟩
      have hB_10 : Below w9.heap.size w9 w10 := (bl.next hB)
      have X_10 := X_9.next hB_10
      have cX_10_0 : _ = some (Value.bool s) := X_10.cell 0
      have cX_10_1 : _ = some (Value.slice a n c) := X_10.cell 1
      have Y_10 := Y_9.next hB_10
      have cY_10_0 : _ = some (Value.bool t) := Y_10.cell 0
      have cY_10_1 : _ = some (Value.slice b m d) := Y_10.cell 1
      have P_10 := P_9.next hB_10
      have cP_10_0 : _ = some (Value.bool s) := P_10.cell 0
      have cP_10_1 : _ = some (Value.slice (some ⟨gx, 0, none⟩) n xc) := P_10.cell 1
      have Q_10 := Q_9.next hB_10
      have cQ_10_0 : _ = some (Value.bool t) := Q_10.cell 0
      have cQ_10_1 : _ = some (Value.slice (some ⟨gy, 0, none⟩) m yc) := Q_10.cell 1
      have ha_10 := ha_9.below hB_10
      have hb_10 := hb_9.below hB_10
      have NW_10 := NW_9.below hB_10
      have OX_10 := OX_9.below hB_10
      have OY_10 := OY_9.below hB_10
      have RP_10 := RP_9.below hB_10
      have RQ_10 := RQ_9.below hB_10
      have hbM_10 := hbM_9.next hB_10
      have N1s_10 := N1s_9.below hB_10
      have N2s_10 := N2s_9.below hB_10
      have N3s_10 := N3s_9.below hB_10
      have hbel_10 := hbel_9.next hB_10
      have hsz_10 := hB_10.size
      clear X_9 cX_9_0 cX_9_1 Y_9 cY_9_0 cY_9_1 P_9 cP_9_0 cP_9_1 Q_9 cQ_9_0 cQ_9_1 ha_9 hb_9 NW_9 OX_9 OY_9 RP_9 RQ_9 hbM_9 N1s_9 N2s_9 N3s_9 hbel_9 hB_10
      try clear hB
      go_wp2_with fail
      refine (nsame N3s_10 NW_10 hK3).mono ?_
      rintro e w11 ⟨rfl, hB⟩
      have hB_11 : Below w10.heap.size w10 w11 := (bl.next hB)
      have X_11 := X_10.next hB_11
      have cX_11_0 : _ = some (Value.bool s) := X_11.cell 0
      have cX_11_1 : _ = some (Value.slice a n c) := X_11.cell 1
      have Y_11 := Y_10.next hB_11
      have cY_11_0 : _ = some (Value.bool t) := Y_11.cell 0
      have cY_11_1 : _ = some (Value.slice b m d) := Y_11.cell 1
      have P_11 := P_10.next hB_11
      have cP_11_0 : _ = some (Value.bool s) := P_11.cell 0
      have cP_11_1 : _ = some (Value.slice (some ⟨gx, 0, none⟩) n xc) := P_11.cell 1
      have Q_11 := Q_10.next hB_11
      have cQ_11_0 : _ = some (Value.bool t) := Q_11.cell 0
      have cQ_11_1 : _ = some (Value.slice (some ⟨gy, 0, none⟩) m yc) := Q_11.cell 1
      have ha_11 := ha_10.below hB_11
      have hb_11 := hb_10.below hB_11
      have NW_11 := NW_10.below hB_11
      have OX_11 := OX_10.below hB_11
      have OY_11 := OY_10.below hB_11
      have RP_11 := RP_10.below hB_11
      have RQ_11 := RQ_10.below hB_11
      have hbM_11 := hbM_10.next hB_11
      have N1s_11 := N1s_10.below hB_11
      have N2s_11 := N2s_10.below hB_11
      have N3s_11 := N3s_10.below hB_11
      have hbel_11 := hbel_10.next hB_11
      have hsz_11 := hB_11.size
      clear X_10 cX_10_0 cX_10_1 Y_10 cY_10_0 cY_10_1 P_10 cP_10_0 cP_10_1 Q_10 cQ_10_0 cQ_10_1 ha_10 hb_10 NW_10 OX_10 OY_10 RP_10 RQ_10 hbM_10 N1s_10 N2s_10 N3s_10 hbel_10 hB_11
      try clear hB
      go_wp2_with fail
      refine (nstands ha_11 (by omega) OX_11.rd).mono ?_
      rintro e w12 ⟨rfl, hB⟩
      have hB_12 : Below w11.heap.size w11 w12 := (bl.next hB)
      have X_12 := X_11.next hB_12
      have cX_12_0 : _ = some (Value.bool s) := X_12.cell 0
      have cX_12_1 : _ = some (Value.slice a n c) := X_12.cell 1
      have Y_12 := Y_11.next hB_12
      have cY_12_0 : _ = some (Value.bool t) := Y_12.cell 0
      have cY_12_1 : _ = some (Value.slice b m d) := Y_12.cell 1
      have P_12 := P_11.next hB_12
      have cP_12_0 : _ = some (Value.bool s) := P_12.cell 0
      have cP_12_1 : _ = some (Value.slice (some ⟨gx, 0, none⟩) n xc) := P_12.cell 1
      have Q_12 := Q_11.next hB_12
      have cQ_12_0 : _ = some (Value.bool t) := Q_12.cell 0
      have cQ_12_1 : _ = some (Value.slice (some ⟨gy, 0, none⟩) m yc) := Q_12.cell 1
      have ha_12 := ha_11.below hB_12
      have hb_12 := hb_11.below hB_12
      have NW_12 := NW_11.below hB_12
      have OX_12 := OX_11.below hB_12
      have OY_12 := OY_11.below hB_12
      have RP_12 := RP_11.below hB_12
      have RQ_12 := RQ_11.below hB_12
      have hbM_12 := hbM_11.next hB_12
      have N1s_12 := N1s_11.below hB_12
      have N2s_12 := N2s_11.below hB_12
      have N3s_12 := N3s_11.below hB_12
      have hbel_12 := hbel_11.next hB_12
      have hsz_12 := hB_12.size
      clear X_11 cX_11_0 cX_11_1 Y_11 cY_11_0 cY_11_1 P_11 cP_11_0 cP_11_1 Q_11 cQ_11_0 cQ_11_1 ha_11 hb_11 NW_11 OX_11 OY_11 RP_11 RQ_11 hbM_11 N1s_11 N2s_11 N3s_11 hbel_11 hB_12
      try clear hB
      go_wp2_with fail
      refine (nstands hb_12 (by omega) OY_12.rd).mono ?_
      rintro e w13 ⟨rfl, hB⟩
      have hB_13 : Below w12.heap.size w12 w13 := (bl.next hB)
      have X_13 := X_12.next hB_13
      have cX_13_0 : _ = some (Value.bool s) := X_13.cell 0
      have cX_13_1 : _ = some (Value.slice a n c) := X_13.cell 1
      have Y_13 := Y_12.next hB_13
      have cY_13_0 : _ = some (Value.bool t) := Y_13.cell 0
      have cY_13_1 : _ = some (Value.slice b m d) := Y_13.cell 1
      have P_13 := P_12.next hB_13
      have cP_13_0 : _ = some (Value.bool s) := P_13.cell 0
      have cP_13_1 : _ = some (Value.slice (some ⟨gx, 0, none⟩) n xc) := P_13.cell 1
      have Q_13 := Q_12.next hB_13
      have cQ_13_0 : _ = some (Value.bool t) := Q_13.cell 0
      have cQ_13_1 : _ = some (Value.slice (some ⟨gy, 0, none⟩) m yc) := Q_13.cell 1
      have ha_13 := ha_12.below hB_13
      have hb_13 := hb_12.below hB_13
      have NW_13 := NW_12.below hB_13
      have OX_13 := OX_12.below hB_13
      have OY_13 := OY_12.below hB_13
      have RP_13 := RP_12.below hB_13
      have RQ_13 := RQ_12.below hB_13
      have hbM_13 := hbM_12.next hB_13
      have N1s_13 := N1s_12.below hB_13
      have N2s_13 := N2s_12.below hB_13
      have N3s_13 := N3s_12.below hB_13
      have hbel_13 := hbel_12.next hB_13
      have hsz_13 := hB_13.size
      clear X_12 cX_12_0 cX_12_1 Y_12 cY_12_0 cY_12_1 P_12 cP_12_0 cP_12_1 Q_12 cQ_12_0 cQ_12_1 ha_12 hb_12 NW_12 OX_12 OY_12 RP_12 RQ_12 hbM_12 N1s_12 N2s_12 N3s_12 hbel_12 hB_13
      try clear hB
      go_wp2_with fail
      refine (nspoilt (mk := 1000) N1s_13 hK3 (nums_len N1s_13 hlz.out) (by omega)).mono ?_
      rintro e ws ⟨rfl, hKs⟩
      have hMs := hbM_13.kp hKs hbM_13.size (fun j hj hp => by have := (hlt1.out j hp).1; omega)
      have hn2 := N2s_13.kp hKs (fun hp => by have h1 := hlt1.out _ hp; have h2 := hgl2.out; have h3 := hgh2.out; omega) (fun q hq j e hp => by have h1 := hlt1.out _ hp; have h2 := hlt2.out j ⟨q, hq, e⟩; omega)
      have hn3 := N3s_13.kp hKs (fun hp => by have h1 := hlt1.out _ hp; have h2 := hgl3.out; have h3 := hgh3.out; omega) (fun q hq j e hp => by have h1 := hlt1.out _ hp; have h2 := hlt3.out j ⟨q, hq, e⟩; omega)
      clear N1s_13
      clear N2s_13
      clear N3s_13
      have hbM_14 := hMs
      have X_14 := mX.out.next hbM_14
      have Y_14 := mY.out.next hbM_14
      have P_14 := mP.out.next hbM_14
      have Q_14 := mQ.out.next hbM_14
      have ha_14 := mha.out.below hbM_14
      have hb_14 := mhb.out.below hbM_14
      have NW_14 := mNW.out.below hbM_14
      have OX_14 := mOX.out.below hbM_14
      have OY_14 := mOY.out.below hbM_14
      have RP_14 := mRP.out.below hbM_14
      have RQ_14 := mRQ.out.below hbM_14
      have hbel_14 := mhbel.out.next hbM_14
      have hsz_14 := hbM_14.size
      clear X_13 Y_13 P_13 Q_13 cX_13_0 cX_13_1 cY_13_0 cY_13_1 cP_13_0 cP_13_1 cQ_13_0 cQ_13_1 ha_13 hb_13 NW_13 OX_13 OY_13 RP_13 RQ_13 hbM_13 hbel_13
      have cX_14_0 : _ = some (Value.bool s) := X_14.cell 0
      have cX_14_1 : _ = some (Value.slice a n c) := X_14.cell 1
      have cY_14_0 : _ = some (Value.bool t) := Y_14.cell 0
      have cY_14_1 : _ = some (Value.slice b m d) := Y_14.cell 1
      have cP_14_0 : _ = some (Value.bool s) := P_14.cell 0
      have cP_14_1 : _ = some (Value.slice (some ⟨gx, 0, none⟩) n xc) := P_14.cell 1
      have cQ_14_0 : _ = some (Value.bool t) := Q_14.cell 0
      have cQ_14_1 : _ = some (Value.slice (some ⟨gy, 0, none⟩) m yc) := Q_14.cell 1
      clear hMs hKs
      obtain ⟨ws1, hws⟩ : ∃ y : World, y = ws := ⟨_, rfl⟩
      subst hws
      have N2s_14 := hn2
      clear hn2
      have N3s_14 := hn3
      clear hn3
      go_wp2_with fail
      refine (nspoilt (mk := 2000) N3s_14 hK3 (nums_len N3s_14 hlz.out) (by omega)).mono ?_
      rintro e ws ⟨rfl, hKs⟩
      have hMs := hbM_14.kp hKs hbM_14.size (fun j hj hp => by have := (hlt3.out j hp).1; omega)
      have hn2 := N2s_14.kp hKs (fun hp => by have h1 := hlt3.out _ hp; have h2 := hgl2.out; have h3 := hgh2.out; omega) (fun q hq j e hp => by have h1 := hlt3.out _ hp; have h2 := hlt2.out j ⟨q, hq, e⟩; omega)
      clear N2s_14
      clear N3s_14
      have hbM_15 := hMs
      have X_15 := mX.out.next hbM_15
      have Y_15 := mY.out.next hbM_15
      have P_15 := mP.out.next hbM_15
      have Q_15 := mQ.out.next hbM_15
      have ha_15 := mha.out.below hbM_15
      have hb_15 := mhb.out.below hbM_15
      have NW_15 := mNW.out.below hbM_15
      have OX_15 := mOX.out.below hbM_15
      have OY_15 := mOY.out.below hbM_15
      have RP_15 := mRP.out.below hbM_15
      have RQ_15 := mRQ.out.below hbM_15
      have hbel_15 := mhbel.out.next hbM_15
      have hsz_15 := hbM_15.size
      clear X_14 Y_14 P_14 Q_14 cX_14_0 cX_14_1 cY_14_0 cY_14_1 cP_14_0 cP_14_1 cQ_14_0 cQ_14_1 ha_14 hb_14 NW_14 OX_14 OY_14 RP_14 RQ_14 hbM_14 hbel_14
      have cX_15_0 : _ = some (Value.bool s) := X_15.cell 0
      have cX_15_1 : _ = some (Value.slice a n c) := X_15.cell 1
      have cY_15_0 : _ = some (Value.bool t) := Y_15.cell 0
      have cY_15_1 : _ = some (Value.slice b m d) := Y_15.cell 1
      have cP_15_0 : _ = some (Value.bool s) := P_15.cell 0
      have cP_15_1 : _ = some (Value.slice (some ⟨gx, 0, none⟩) n xc) := P_15.cell 1
      have cQ_15_0 : _ = some (Value.bool t) := Q_15.cell 0
      have cQ_15_1 : _ = some (Value.slice (some ⟨gy, 0, none⟩) m yc) := Q_15.cell 1
      clear hMs hKs
      obtain ⟨ws3, hws⟩ : ∃ y : World, y = ws := ⟨_, rfl⟩
      subst hws
      have N2s_15 := hn2
      clear hn2
      go_wp2_with fail
      refine (nsame N2s_15 NW_15 hK3).mono ?_
      rintro e w16 ⟨rfl, hB⟩
      have hB_16 : Below ws3.heap.size ws3 w16 := (bl.next hB)
      have X_16 := X_15.next hB_16
      have cX_16_0 : _ = some (Value.bool s) := X_16.cell 0
      have cX_16_1 : _ = some (Value.slice a n c) := X_16.cell 1
      have Y_16 := Y_15.next hB_16
      have cY_16_0 : _ = some (Value.bool t) := Y_16.cell 0
      have cY_16_1 : _ = some (Value.slice b m d) := Y_16.cell 1
      have P_16 := P_15.next hB_16
      have cP_16_0 : _ = some (Value.bool s) := P_16.cell 0
      have cP_16_1 : _ = some (Value.slice (some ⟨gx, 0, none⟩) n xc) := P_16.cell 1
      have Q_16 := Q_15.next hB_16
      have cQ_16_0 : _ = some (Value.bool t) := Q_16.cell 0
      have cQ_16_1 : _ = some (Value.slice (some ⟨gy, 0, none⟩) m yc) := Q_16.cell 1
      have ha_16 := ha_15.below hB_16
      have hb_16 := hb_15.below hB_16
      have NW_16 := NW_15.below hB_16
      have OX_16 := OX_15.below hB_16
      have OY_16 := OY_15.below hB_16
      have RP_16 := RP_15.below hB_16
      have RQ_16 := RQ_15.below hB_16
      have hbM_16 := hbM_15.next hB_16
      have N2s_16 := N2s_15.below hB_16
      have hbel_16 := hbel_15.next hB_16
      have hsz_16 := hB_16.size
      clear X_15 cX_15_0 cX_15_1 Y_15 cY_15_0 cY_15_1 P_15 cP_15_0 cP_15_1 Q_15 cQ_15_0 cQ_15_1 ha_15 hb_15 NW_15 OX_15 OY_15 RP_15 RQ_15 hbM_15 N2s_15 hbel_15 hB_16
      try clear hB
      go_wp2_with fail
      refine (nstands ha_16 (by omega) OX_16.rd).mono ?_
      rintro e w17 ⟨rfl, hB⟩
      have hB_17 : Below w16.heap.size w16 w17 := (bl.next hB)
      have X_17 := X_16.next hB_17
      have cX_17_0 : _ = some (Value.bool s) := X_17.cell 0
      have cX_17_1 : _ = some (Value.slice a n c) := X_17.cell 1
      have Y_17 := Y_16.next hB_17
      have cY_17_0 : _ = some (Value.bool t) := Y_17.cell 0
      have cY_17_1 : _ = some (Value.slice b m d) := Y_17.cell 1
      have P_17 := P_16.next hB_17
      have cP_17_0 : _ = some (Value.bool s) := P_17.cell 0
      have cP_17_1 : _ = some (Value.slice (some ⟨gx, 0, none⟩) n xc) := P_17.cell 1
      have Q_17 := Q_16.next hB_17
      have cQ_17_0 : _ = some (Value.bool t) := Q_17.cell 0
      have cQ_17_1 : _ = some (Value.slice (some ⟨gy, 0, none⟩) m yc) := Q_17.cell 1
      have ha_17 := ha_16.below hB_17
      have hb_17 := hb_16.below hB_17
      have NW_17 := NW_16.below hB_17
      have OX_17 := OX_16.below hB_17
      have OY_17 := OY_16.below hB_17
      have RP_17 := RP_16.below hB_17
      have RQ_17 := RQ_16.below hB_17
      have hbM_17 := hbM_16.next hB_17
      have N2s_17 := N2s_16.below hB_17
      have hbel_17 := hbel_16.next hB_17
      have hsz_17 := hB_17.size
      clear X_16 cX_16_0 cX_16_1 Y_16 cY_16_0 cY_16_1 P_16 cP_16_0 cP_16_1 Q_16 cQ_16_0 cQ_16_1 ha_16 hb_16 NW_16 OX_16 OY_16 RP_16 RQ_16 hbM_16 N2s_16 hbel_16 hB_17
      try clear hB
      go_wp2_with fail
      refine (nstands hb_17 (by omega) OY_17.rd).mono ?_
      rintro e w18 ⟨rfl, hB⟩
      have hB_18 : Below w17.heap.size w17 w18 := (bl.next hB)
      have X_18 := X_17.next hB_18
      have cX_18_0 : _ = some (Value.bool s) := X_18.cell 0
      have cX_18_1 : _ = some (Value.slice a n c) := X_18.cell 1
      have Y_18 := Y_17.next hB_18
      have cY_18_0 : _ = some (Value.bool t) := Y_18.cell 0
      have cY_18_1 : _ = some (Value.slice b m d) := Y_18.cell 1
      have P_18 := P_17.next hB_18
      have cP_18_0 : _ = some (Value.bool s) := P_18.cell 0
      have cP_18_1 : _ = some (Value.slice (some ⟨gx, 0, none⟩) n xc) := P_18.cell 1
      have Q_18 := Q_17.next hB_18
      have cQ_18_0 : _ = some (Value.bool t) := Q_18.cell 0
      have cQ_18_1 : _ = some (Value.slice (some ⟨gy, 0, none⟩) m yc) := Q_18.cell 1
      have ha_18 := ha_17.below hB_18
      have hb_18 := hb_17.below hB_18
      have NW_18 := NW_17.below hB_18
      have OX_18 := OX_17.below hB_18
      have OY_18 := OY_17.below hB_18
      have RP_18 := RP_17.below hB_18
      have RQ_18 := RQ_17.below hB_18
      have hbM_18 := hbM_17.next hB_18
      have N2s_18 := N2s_17.below hB_18
      have hbel_18 := hbel_17.next hB_18
      have hsz_18 := hB_18.size
      clear X_17 cX_17_0 cX_17_1 Y_17 cY_17_0 cY_17_1 P_17 cP_17_0 cP_17_1 Q_17 cQ_17_0 cQ_17_1 ha_17 hb_17 NW_17 OX_17 OY_17 RP_17 RQ_17 hbM_17 N2s_17 hbel_17 hB_18
      try clear hB
      go_wp2_with fail
      obtain ⟨wE, hwE⟩ : ∃ y : World, y = w18 := ⟨_, rfl⟩
      subst hwE
      go_loopw [21] (fun i wr => ∃ j, j ≤ n ∧ i = .int .i64 j ∧ Own 0 wr (some ⟨gx, 0, none⟩) (n + 20) xc (cml la j) ∧ Kp (fun q => q = gx) wE wr) (fun i _ => n - (intOf i).toNat)
      case atStart => exact ⟨0, by omega, rfl, (by rw [cml_zero]; exact OX_18.mono (Nat.zero_le _)), Kp.refl _ _⟩
      case round =>
        obtain ⟨j, hj, rfl, hO, hK⟩ := hrel
        have hP := P_18.kp hK (show ¬ (gP = gx) by omega)
        have p0 : _ = some (Value.bool s) := hP.cell 0
        have p1 : _ = some (Value.slice (some ⟨gx, 0, none⟩) n xc) := hP.cell 1
        clear cX_18_0 cX_18_1 cY_18_0 cY_18_1 cP_18_0 cP_18_1 cQ_18_0 cQ_18_1
        by_cases hlt : j < n
        · skip
          have hcc := hO.cell (i := j) (by omega)
          have hfr := hO.free j
          rw [cml_get (by omega)] at hcc
          have hv : la.getD j 0 < 4294967296 := HLM.out.getD j
          have hO' := hid (hO.set j (cm (la.getD j 0)) (cm_lt hv))
          rw [cml_step (by omega)] at hO'
          have hK' := hid (hK.setCell (ad := ⟨gx, j, none⟩) rfl (.int .u32 ((cm (la.getD j 0) : Nat) : Int)))
          clear hO hP
          obtain ⟨u, hu⟩ : ∃ u, cm (la.getD j 0) = u := ⟨_, rfl⟩
          obtain ⟨v, hv2⟩ : ∃ v, la.getD j 0 = v := ⟨_, rfl⟩
          rw [hu] at hO' hK'
          rw [hv2] at hcc hu hv
          have hj0 : (0 : Int) ≤ (j : Int) := by omega
          have hj1 : (j : Int) < (n : Int) := by omega
          have hx1 : Op.intBits .xor .u32 4294967295 (v : Int) = pure (.int .u32 (u : Int)) := by rw [← hu]; exact bits_cm hv
          have hx2 : bits .xor .u32 4294967295 (v : Int) = (u : Int) := by rw [← hu]; exact bits_cm2 hv
          have hx3 : bits BinOp.xor IntKind.u32 (if IntKind.u32.signed = true then -1 else IntKind.u32.max) (v : Int) = (u : Int) := hx2
          clear hu hv2
          go_wp2_with fail
          go_region
          all_goals (go_wp2; go_roundw)
          all_goals try (simp [intOf]; omega)
          all_goals (refine ⟨j + 1, by omega, by go_num, hO'.out.below (Below.refl _ _).drew, hK'.out.drew⟩)
        · obtain rfl : n = j := by omega
          have hszE := hK.size
          have hbel_19 := hbel_18.kp hK hbel_18.size (fun q hq (e : q = gx) => by omega)
          have hb_19 := HBW.out.below hbel_19
          have NW_19 := NW_18.kp hK (fun (e : _ = gx) => hNWx.out e) (fun i hi q e (e2 : q = gx) => hNWa.out i hi q e e2)
          have N2s_19 := N2s_18.kp hK (fun (e : _ = gx) => by have := hgl2.out; omega) (fun i hi q e (e2 : q = gx) => by have := (hlt2.out q ⟨i, hi, e⟩).1; omega)
          have OY_19 := OY_18.kp hK (fun q e (e2 : q = gx) => by cases e; omega)
          have RP_19 : Rd wr (some ⟨gx, 0, none⟩) n xc (la.map cm) := by have h := (hO.take (k := n) (by omega)).rd; rw [show (cml la n).take n = la.map cm by rw [← hal]; exact cml_take la] at h; exact h
          have RQ_19 : Rd wr (some ⟨gy, 0, none⟩) m yc lb := by have h := (OY_19.take (k := m) (by omega)).rd; rw [show (mk20 lb 20).take m = lb by rw [← hbl]; exact mk20_take lb] at h; exact h
          have X_19 := X_18.kp hK (show ¬ (w.heap.size = gx) by omega)
          have Y_19 := Y_18.kp hK (show ¬ (w.heap.size + 1 = gx) by omega)
          have Q_19 := Q_18.kp hK (show ¬ (gQ = gx) by omega)
          have P_19 := hP
          clear p0 p1 hP hO X_18 Y_18 P_18 Q_18 ha_18 hb_18 NW_18 OX_18 OY_18 RP_18 RQ_18 hbM_18 N2s_18 hbel_18 hK
          have cX_19_0 : _ = some (Value.bool s) := X_19.cell 0
          have cX_19_1 : _ = some (Value.slice a n c) := X_19.cell 1
          have cY_19_0 : _ = some (Value.bool t) := Y_19.cell 0
          have cY_19_1 : _ = some (Value.slice b m d) := Y_19.cell 1
          have cP_19_0 : _ = some (Value.bool s) := P_19.cell 0
          have cP_19_1 : _ = some (Value.slice (some ⟨gx, 0, none⟩) n xc) := P_19.cell 1
          have cQ_19_0 : _ = some (Value.bool t) := Q_19.cell 0
          have cQ_19_1 : _ = some (Value.slice (some ⟨gy, 0, none⟩) m yc) := Q_19.cell 1
          go_wp2_with (at_builtin; refine wpList_appR (l := []) rfl _ _ rfl rfl (own_nil wr.heap.size wr) rfl RP_19 (Nat.le_refl _) (by omega) ?_; intro na nc wn hO2 hK2 _; have hB := (Below.refl wr.heap.size wr).kp hK2 (Nat.le_refl _) (fun j hj e => by cases e); clear hK2; have zX0 : _ = some (Value.bool s) := (X_19.next hB).cell 0; have zX1 : _ = some (Value.slice a n c) := (X_19.next hB).cell 1; have zY0 : _ = some (Value.bool t) := (Y_19.next hB).cell 0; have zY1 : _ = some (Value.slice b m d) := (Y_19.next hB).cell 1)
          rw [Nat.zero_add, List.nil_append] at hO2
          clear zX0 zX1 zY0 zY1
          have hB_20 : Below wr.heap.size wr wn := hB
          have X_20 := X_19.next hB_20
          have cX_20_0 : _ = some (Value.bool s) := X_20.cell 0
          have cX_20_1 : _ = some (Value.slice a n c) := X_20.cell 1
          have Y_20 := Y_19.next hB_20
          have cY_20_0 : _ = some (Value.bool t) := Y_20.cell 0
          have cY_20_1 : _ = some (Value.slice b m d) := Y_20.cell 1
          have P_20 := P_19.next hB_20
          have cP_20_0 : _ = some (Value.bool s) := P_20.cell 0
          have cP_20_1 : _ = some (Value.slice (some ⟨gx, 0, none⟩) n xc) := P_20.cell 1
          have Q_20 := Q_19.next hB_20
          have cQ_20_0 : _ = some (Value.bool t) := Q_20.cell 0
          have cQ_20_1 : _ = some (Value.slice (some ⟨gy, 0, none⟩) m yc) := Q_20.cell 1
          have hb_20 := hb_19.below hB_20
          have NW_20 := NW_19.below hB_20
          have N2s_20 := N2s_19.below hB_20
          have RP_20 := RP_19.below hB_20
          have RQ_20 := RQ_19.below hB_20
          have hbel_20 := hbel_19.next hB_20
          have hsz_20 := hB_20.size
          clear X_19 cX_19_0 cX_19_1 Y_19 cY_19_0 cY_19_1 P_19 cP_19_0 cP_19_1 Q_19 cQ_19_0 cQ_19_1 hb_19 NW_19 N2s_19 RP_19 RQ_19 hbel_19 hB_20
          clear hB
          have RN_20 := hO2.rd
          clear hO2
          go_wp2_with fail
          refine (HT'.out _ _ _ _ _ _ _ _ _ RN_20 hn4 rfl hb_20 hm4 rfl).mono ?_
          rintro e w21 ⟨g4, A4, N4, C4, rfl, hN, hB⟩
          have hB_21 : Below wn.heap.size wn w21 := (bl.next hB)
          have X_21 := X_20.next hB_21
          have cX_21_0 : _ = some (Value.bool s) := X_21.cell 0
          have cX_21_1 : _ = some (Value.slice a n c) := X_21.cell 1
          have Y_21 := Y_20.next hB_21
          have cY_21_0 : _ = some (Value.bool t) := Y_21.cell 0
          have cY_21_1 : _ = some (Value.slice b m d) := Y_21.cell 1
          have P_21 := P_20.next hB_21
          have cP_21_0 : _ = some (Value.bool s) := P_21.cell 0
          have cP_21_1 : _ = some (Value.slice (some ⟨gx, 0, none⟩) n xc) := P_21.cell 1
          have Q_21 := Q_20.next hB_21
          have cQ_21_0 : _ = some (Value.bool t) := Q_21.cell 0
          have cQ_21_1 : _ = some (Value.slice (some ⟨gy, 0, none⟩) m yc) := Q_21.cell 1
          have hb_21 := hb_20.below hB_21
          have NW_21 := NW_20.below hB_21
          have N2s_21 := N2s_20.below hB_21
          have RP_21 := RP_20.below hB_21
          have RQ_21 := RQ_20.below hB_21
          have RN_21 := RN_20.below hB_21
          have hbel_21 := hbel_20.next hB_21
          have hsz_21 := hB_21.size
          clear X_20 cX_20_0 cX_20_1 Y_20 cY_20_0 cY_20_1 P_20 cP_20_0 cP_20_1 Q_20 cQ_20_0 cQ_20_1 hb_20 NW_20 N2s_20 RP_20 RQ_20 RN_20 hbel_20 hB_21
          have N4s_21 := hN
          clear hN
          try clear hB
          go_wp2_with fail
          refine (HC'.out _ _ _ _ _ _ _ _ _ RP_21 hn4 rfl RQ_21 hm4 rfl).mono ?_
          rintro e w22 ⟨g5, A5, N5, C5, rfl, hN, hB⟩
          have hB_22 : Below w21.heap.size w21 w22 := (bl.next hB)
          have X_22 := X_21.next hB_22
          have cX_22_0 : _ = some (Value.bool s) := X_22.cell 0
          have cX_22_1 : _ = some (Value.slice a n c) := X_22.cell 1
          have Y_22 := Y_21.next hB_22
          have cY_22_0 : _ = some (Value.bool t) := Y_22.cell 0
          have cY_22_1 : _ = some (Value.slice b m d) := Y_22.cell 1
          have P_22 := P_21.next hB_22
          have cP_22_0 : _ = some (Value.bool s) := P_22.cell 0
          have cP_22_1 : _ = some (Value.slice (some ⟨gx, 0, none⟩) n xc) := P_22.cell 1
          have Q_22 := Q_21.next hB_22
          have cQ_22_0 : _ = some (Value.bool t) := Q_22.cell 0
          have cQ_22_1 : _ = some (Value.slice (some ⟨gy, 0, none⟩) m yc) := Q_22.cell 1
          have hb_22 := hb_21.below hB_22
          have NW_22 := NW_21.below hB_22
          have N2s_22 := N2s_21.below hB_22
          have RP_22 := RP_21.below hB_22
          have RQ_22 := RQ_21.below hB_22
          have RN_22 := RN_21.below hB_22
          have N4s_22 := N4s_21.below hB_22
          have hbel_22 := hbel_21.next hB_22
          have hsz_22 := hB_22.size
          clear X_21 cX_21_0 cX_21_1 Y_21 cY_21_0 cY_21_1 P_21 cP_21_0 cP_21_1 Q_21 cQ_21_0 cQ_21_1 hb_21 NW_21 N2s_21 RP_21 RQ_21 RN_21 N4s_21 hbel_21 hB_22
          have N5s_22 := hN
          clear hN
          try clear hB
          go_wp2_with fail
          refine (nsame N5s_22 N4s_22 hK3').mono ?_
          rintro e w23 ⟨rfl, hB⟩
          have hB_23 : Below w22.heap.size w22 w23 := (bl.next hB)
          have X_23 := X_22.next hB_23
          have cX_23_0 : _ = some (Value.bool s) := X_23.cell 0
          have cX_23_1 : _ = some (Value.slice a n c) := X_23.cell 1
          have Y_23 := Y_22.next hB_23
          have cY_23_0 : _ = some (Value.bool t) := Y_23.cell 0
          have cY_23_1 : _ = some (Value.slice b m d) := Y_23.cell 1
          have P_23 := P_22.next hB_23
          have cP_23_0 : _ = some (Value.bool s) := P_23.cell 0
          have cP_23_1 : _ = some (Value.slice (some ⟨gx, 0, none⟩) n xc) := P_23.cell 1
          have Q_23 := Q_22.next hB_23
          have cQ_23_0 : _ = some (Value.bool t) := Q_23.cell 0
          have cQ_23_1 : _ = some (Value.slice (some ⟨gy, 0, none⟩) m yc) := Q_23.cell 1
          have hb_23 := hb_22.below hB_23
          have NW_23 := NW_22.below hB_23
          have N2s_23 := N2s_22.below hB_23
          have RP_23 := RP_22.below hB_23
          have RQ_23 := RQ_22.below hB_23
          have RN_23 := RN_22.below hB_23
          have N4s_23 := N4s_22.below hB_23
          have N5s_23 := N5s_22.below hB_23
          have hbel_23 := hbel_22.next hB_23
          have hsz_23 := hB_23.size
          clear X_22 cX_22_0 cX_22_1 Y_22 cY_22_0 cY_22_1 P_22 cP_22_0 cP_22_1 Q_22 cQ_22_0 cQ_22_1 hb_22 NW_22 N2s_22 RP_22 RQ_22 RN_22 N4s_22 N5s_22 hbel_22 hB_23
          try clear hB
          go_wp2_with fail
          refine (nsame N2s_23 NW_23 hK3).mono ?_
          rintro e w24 ⟨rfl, hB⟩
          have hB_24 : Below w23.heap.size w23 w24 := (bl.next hB)
          have X_24 := X_23.next hB_24
          have cX_24_0 : _ = some (Value.bool s) := X_24.cell 0
          have cX_24_1 : _ = some (Value.slice a n c) := X_24.cell 1
          have Y_24 := Y_23.next hB_24
          have cY_24_0 : _ = some (Value.bool t) := Y_24.cell 0
          have cY_24_1 : _ = some (Value.slice b m d) := Y_24.cell 1
          have P_24 := P_23.next hB_24
          have cP_24_0 : _ = some (Value.bool s) := P_24.cell 0
          have cP_24_1 : _ = some (Value.slice (some ⟨gx, 0, none⟩) n xc) := P_24.cell 1
          have Q_24 := Q_23.next hB_24
          have cQ_24_0 : _ = some (Value.bool t) := Q_24.cell 0
          have cQ_24_1 : _ = some (Value.slice (some ⟨gy, 0, none⟩) m yc) := Q_24.cell 1
          have hb_24 := hb_23.below hB_24
          have NW_24 := NW_23.below hB_24
          have N2s_24 := N2s_23.below hB_24
          have RP_24 := RP_23.below hB_24
          have RQ_24 := RQ_23.below hB_24
          have RN_24 := RN_23.below hB_24
          have N4s_24 := N4s_23.below hB_24
          have N5s_24 := N5s_23.below hB_24
          have hbel_24 := hbel_23.next hB_24
          have hsz_24 := hB_24.size
          clear X_23 cX_23_0 cX_23_1 Y_23 cY_23_0 cY_23_1 P_23 cP_23_0 cP_23_1 Q_23 cQ_23_0 cQ_23_1 hb_23 NW_23 N2s_23 RP_23 RQ_23 RN_23 N4s_23 N5s_23 hbel_23 hB_24
          try clear hB
          go_wp2
          go_ret
          exact ⟨rfl, hbel_24⟩

set_option maxRecDepth 100000 in
set_option maxHeartbeats 8000000 in
theorem wholeMakes_walk {w : World} {a b : Option Addr} {n c m d : Nat} {la lb : List Nat} (s : Bool) (ha : Rd w a n c la) (t : Bool) (hb : Rd w b m d lb) :
    Calls Try.prog 3 #[.agg #[.bool s, .slice a n c], .agg #[.bool t, .slice b m d]] w (fun e w' => e = .returned (.bool true) ∧ Below w.heap.size w w') := by
  have hba := ha.bnd
  have hbb := hb.bnd
  by_cases h1 : 30 < n
  · have d1 : decide (30 < n) = true := decide_eq_true h1
    have hent := ent2 w #[Value.bool s, Value.slice a n c] #[Value.bool t, Value.slice b m d] 25 25
    go_enter Try.func3, Try.ntmps3
    go_wp2_with fail
    generalize ((w.alloc (.cells #[Value.bool s, Value.slice a n c] 25)).alloc (.cells #[Value.bool t, Value.slice b m d] 25)) = W0 at hent ⊢
    obtain ⟨X_0, Y_0, hbel_0, hsz_0⟩ := hent
    have cX_0_0 : _ = some (Value.bool s) := X_0.cell 0
    have cX_0_1 : _ = some (Value.slice a n c) := X_0.cell 1
    have cY_0_0 : _ = some (Value.bool t) := Y_0.cell 0
    have cY_0_1 : _ = some (Value.slice b m d) := Y_0.cell 1
    have ha_0 := ha.below hbel_0
    clear ha
    have hb_0 := hb.below hbel_0
    clear hb
    go_wp2_with fail
    refine (big_any s ha_0 (by omega)).mono ?_
    rw [d1]
    rintro e w1 ⟨rfl, hB⟩
    have hB_1 : Below W0.heap.size W0 w1 := (bl.next hB)
    have X_1 := X_0.next hB_1
    have cX_1_0 : _ = some (Value.bool s) := X_1.cell 0
    have cX_1_1 : _ = some (Value.slice a n c) := X_1.cell 1
    have Y_1 := Y_0.next hB_1
    have cY_1_0 : _ = some (Value.bool t) := Y_1.cell 0
    have cY_1_1 : _ = some (Value.slice b m d) := Y_1.cell 1
    have ha_1 := ha_0.below hB_1
    have hb_1 := hb_0.below hB_1
    have hbel_1 := hbel_0.next hB_1
    have hsz_1 := hB_1.size
    clear X_0 cX_0_0 cX_0_1 Y_0 cY_0_0 cY_0_1 ha_0 hb_0 hbel_0 hB_1
    try clear hB
    go_wp2
    go_ret
    exact ⟨rfl, hbel_1⟩
  have d1 : decide (30 < n) = false := decide_eq_false h1
  by_cases h2 : 30 < m
  · have d2 : decide (30 < m) = true := decide_eq_true h2
    have hent := ent2 w #[Value.bool s, Value.slice a n c] #[Value.bool t, Value.slice b m d] 25 25
    go_enter Try.func3, Try.ntmps3
    go_wp2_with fail
    generalize ((w.alloc (.cells #[Value.bool s, Value.slice a n c] 25)).alloc (.cells #[Value.bool t, Value.slice b m d] 25)) = W0 at hent ⊢
    obtain ⟨X_0, Y_0, hbel_0, hsz_0⟩ := hent
    have cX_0_0 : _ = some (Value.bool s) := X_0.cell 0
    have cX_0_1 : _ = some (Value.slice a n c) := X_0.cell 1
    have cY_0_0 : _ = some (Value.bool t) := Y_0.cell 0
    have cY_0_1 : _ = some (Value.slice b m d) := Y_0.cell 1
    have ha_0 := ha.below hbel_0
    clear ha
    have hb_0 := hb.below hbel_0
    clear hb
    go_wp2_with fail
    refine (big_any s ha_0 (by omega)).mono ?_
    rw [d1]
    rintro e w1 ⟨rfl, hB⟩
    have hB_1 : Below W0.heap.size W0 w1 := (bl.next hB)
    have X_1 := X_0.next hB_1
    have cX_1_0 : _ = some (Value.bool s) := X_1.cell 0
    have cX_1_1 : _ = some (Value.slice a n c) := X_1.cell 1
    have Y_1 := Y_0.next hB_1
    have cY_1_0 : _ = some (Value.bool t) := Y_1.cell 0
    have cY_1_1 : _ = some (Value.slice b m d) := Y_1.cell 1
    have ha_1 := ha_0.below hB_1
    have hb_1 := hb_0.below hB_1
    have hbel_1 := hbel_0.next hB_1
    have hsz_1 := hB_1.size
    clear X_0 cX_0_0 cX_0_1 Y_0 cY_0_0 cY_0_1 ha_0 hb_0 hbel_0 hB_1
    try clear hB
    go_wp2_with fail
    refine (big_any t hb_1 (by omega)).mono ?_
    rw [d2]
    rintro e w2 ⟨rfl, hB⟩
    have hB_2 : Below w1.heap.size w1 w2 := (bl.next hB)
    have X_2 := X_1.next hB_2
    have cX_2_0 : _ = some (Value.bool s) := X_2.cell 0
    have cX_2_1 : _ = some (Value.slice a n c) := X_2.cell 1
    have Y_2 := Y_1.next hB_2
    have cY_2_0 : _ = some (Value.bool t) := Y_2.cell 0
    have cY_2_1 : _ = some (Value.slice b m d) := Y_2.cell 1
    have ha_2 := ha_1.below hB_2
    have hb_2 := hb_1.below hB_2
    have hbel_2 := hbel_1.next hB_2
    have hsz_2 := hB_2.size
    clear X_1 cX_1_0 cX_1_1 Y_1 cY_1_0 cY_1_1 ha_1 hb_1 hbel_1 hB_2
    try clear hB
    go_wp2
    go_ret
    exact ⟨rfl, hbel_2⟩
  have d2 : decide (30 < m) = false := decide_eq_false h2
  have hent := ent2 w #[Value.bool s, Value.slice a n c] #[Value.bool t, Value.slice b m d] 25 25
  go_enter Try.func3, Try.ntmps3
  go_wp2_with fail
  generalize ((w.alloc (.cells #[Value.bool s, Value.slice a n c] 25)).alloc (.cells #[Value.bool t, Value.slice b m d] 25)) = W0 at hent ⊢
  obtain ⟨X_0, Y_0, hbel_0, hsz_0⟩ := hent
  have cX_0_0 : _ = some (Value.bool s) := X_0.cell 0
  have cX_0_1 : _ = some (Value.slice a n c) := X_0.cell 1
  have cY_0_0 : _ = some (Value.bool t) := Y_0.cell 0
  have cY_0_1 : _ = some (Value.slice b m d) := Y_0.cell 1
  have ha_0 := ha.below hbel_0
  clear ha
  have hb_0 := hb.below hbel_0
  clear hb
  go_wp2_with fail
  refine (big_any s ha_0 (by omega)).mono ?_
  rw [d1]
  rintro e w1 ⟨rfl, hB⟩
  have hB_1 : Below W0.heap.size W0 w1 := (bl.next hB)
  have X_1 := X_0.next hB_1
  have cX_1_0 : _ = some (Value.bool s) := X_1.cell 0
  have cX_1_1 : _ = some (Value.slice a n c) := X_1.cell 1
  have Y_1 := Y_0.next hB_1
  have cY_1_0 : _ = some (Value.bool t) := Y_1.cell 0
  have cY_1_1 : _ = some (Value.slice b m d) := Y_1.cell 1
  have ha_1 := ha_0.below hB_1
  have hb_1 := hb_0.below hB_1
  have hbel_1 := hbel_0.next hB_1
  have hsz_1 := hB_1.size
  clear X_0 cX_0_0 cX_0_1 Y_0 cY_0_0 cY_0_1 ha_0 hb_0 hbel_0 hB_1
  try clear hB
  go_wp2_with fail
  refine (big_any t hb_1 (by omega)).mono ?_
  rw [d2]
  rintro e w2 ⟨rfl, hB⟩
  have hB_2 : Below w1.heap.size w1 w2 := (bl.next hB)
  have X_2 := X_1.next hB_2
  have cX_2_0 : _ = some (Value.bool s) := X_2.cell 0
  have cX_2_1 : _ = some (Value.slice a n c) := X_2.cell 1
  have Y_2 := Y_1.next hB_2
  have cY_2_0 : _ = some (Value.bool t) := Y_2.cell 0
  have cY_2_1 : _ = some (Value.slice b m d) := Y_2.cell 1
  have ha_2 := ha_1.below hB_2
  have hb_2 := hb_1.below hB_2
  have hbel_2 := hbel_1.next hB_2
  have hsz_2 := hB_2.size
  clear X_1 cX_1_0 cX_1_1 Y_1 cY_1_0 cY_1_1 ha_1 hb_1 hbel_1 hB_2
  try clear hB
  go_wp2_with fail
  obtain ⟨vC, hvC⟩ : ∃ z : World, z = w2 := ⟨_, rfl⟩
  subst hvC
  go_loopw [5] (fun i wr => ∃ k : Nat, k ≤ 8 ∧ i = .int .i64 k ∧ Below vC.heap.size vC wr) (fun i _ => 8 - (intOf i).toNat)
  case atStart => exact ⟨0, by omega, rfl, Below.refl _ _⟩
  case round =>
    obtain ⟨k, hk, rfl, hB⟩ := hrel
    have hB_3 : Below vC.heap.size vC wr := hB
    have X_3 := X_2.next hB_3
    have cX_3_0 : _ = some (Value.bool s) := X_3.cell 0
    have cX_3_1 : _ = some (Value.slice a n c) := X_3.cell 1
    have Y_3 := Y_2.next hB_3
    have cY_3_0 : _ = some (Value.bool t) := Y_3.cell 0
    have cY_3_1 : _ = some (Value.slice b m d) := Y_3.cell 1
    have ha_3 := ha_2.below hB_3
    have hb_3 := hb_2.below hB_3
    have hbel_3 := hbel_2.next hB_3
    have hsz_3 := hB_3.size
    clear X_2 cX_2_0 cX_2_1 Y_2 cY_2_0 cY_2_1 ha_2 hb_2 hbel_2 hB_3
    have hBr := hB
    clear hB
    by_cases hlt : k < 8
    · skip
      go_wp2_with fail
      refine (made_any k hlt ha_3 (by omega) hb_3 (by omega)).mono ?_
      rintro e w9 ⟨rfl, hB9⟩
      go_wp2
      go_roundw
      case rel => exact ⟨k + 1, by omega, by go_num, hBr.next hB9⟩
      case measure => simp [intOf]; omega
    · obtain rfl : k = 8 := by omega
      go_wp2
      go_ret
      exact ⟨rfl, hbel_3⟩

end Go.Proofs.Ytokkfppchfmjcaa
